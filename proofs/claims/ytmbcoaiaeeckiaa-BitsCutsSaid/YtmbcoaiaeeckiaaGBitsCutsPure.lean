import Derived.Test.YtmbcoaiaeeckiaaV9
set_option linter.unusedVariables false
namespace Go.V.Pu
open Go Go.V

/-! valise/valiselaw3.which -/
def valiselaw3_which.f (k_0 : Int) (n_1 : Int) : Option (Int) := gd (n_1 ≠ 0) (bnd (Int.tmod k_0 n_1) fun x2 => (if x2 < 0 then (bnd (IntKind.i64.wrap (x2 + n_1)) fun x10 => some x10) else (some x2)).bind fun m_8 => some m_8)
/-! valise/valiselaw3.width -/
def valiselaw3_width.f (n_0 : Int) : Option (Int) := (valiselaw3_which.f n_0 33).bind fun z5 => some z5
/-! valise/valiselaw3.low -/
def valiselaw3_low.f (v_0 : Int) (n_1 : Int) : Option (Int) := gd (¬ (IntKind.u64.wrap n_1) < 0) (some (IntKind.u32.wrap (band .u64 (IntKind.u64.wrap v_0) (IntKind.u64.wrap ((shl .u64 1 (IntKind.u64.wrap n_1)) - 1)))))
/-! valise/bits.NewWriter -/
def bits_NewWriter.f  : Option ((List Int × Int)) := some (([] : List Int), 0)
/-! (*valise/bits.Writer).lay -/
def bits_Writer_lay.l1 : Nat → List Int → Int → Int → Int → Option (List Int × Int)
  | 0, _, _, _, _ => none
  | k + 1, l342, y343, v_344, n_345 => if 0 < n_345 then (bnd (Int.tmod y343 8) fun x350 => (if x350 = 0 then (bnd (l342 ++ [0]) fun l379 => gd ((l379.length : Int) * 1 ≤ 140737488355328) (some l379)) else (some l342)).bind fun l370 => bnd (min (IntKind.i64.wrap (8 - x350)) n_345) fun x388 => gd (¬ (IntKind.u64.wrap x388) < 0) (bnd (band .u64 v_344 (IntKind.u64.wrap ((shl .u64 1 (IntKind.u64.wrap x388)) - 1))) fun x391 => gd ((0 : Int) ≤ (IntKind.i64.wrap ((l370.length : Int) - 1)) ∧ (IntKind.i64.wrap ((l370.length : Int) - 1)) < (l370.length : Int)) (gd (¬ (IntKind.u64.wrap x350) < 0) (bnd (l370.set (IntKind.i64.wrap ((l370.length : Int) - 1) : Int).toNat (bor .u8 (rd l370 (IntKind.i64.wrap ((l370.length : Int) - 1))) (IntKind.u8.wrap (shl .u64 x391 (IntKind.u64.wrap x350))))) fun l401 => bnd (shr .u64 v_344 (IntKind.u64.wrap x388)) fun x404 => bnd (IntKind.i64.wrap (n_345 - x388)) fun x406 => bits_Writer_lay.l1 k l401 (IntKind.i64.wrap (y343 + x388)) x404 x406 )))) else (some (l342, y343))
def bits_Writer_lay.f (w_0_bytes : List Int) (w_0_count : Int) (v_1 : Int) (n_2 : Int) : Option (List Int × Int) := (bits_Writer_lay.l1 FU w_0_bytes w_0_count v_1 n_2 ).bind fun (l206, y207) => some (l206, y207)
/-! (*valise/bits.Writer).Put -/
def bits_Writer_Put.f (w_0_bytes : List Int) (w_0_count : Int) (v_1 : Int) (n_2 : Int) : Option (Int × List Int × Int) := (if (n_2 < 0) ∨ (32 < n_2) then (some true) else (gd (¬ (IntKind.u64.wrap n_2) < 0) (some (decide (shr .u64 (IntKind.u64.wrap v_1) (IntKind.u64.wrap n_2) ≠ 0))))).bind fun b3 => if (b3 = true) ∨ (268435456 < IntKind.i64.wrap (w_0_count + n_2)) then (some (1, w_0_bytes, w_0_count)) else ((bits_Writer_lay.f w_0_bytes w_0_count (IntKind.u64.wrap v_1) n_2).bind fun (z12, z13) => some (0, z12, z13))
/-! (*valise/bits.Writer).Len -/
def bits_Writer_Len.f (w_0_bytes : List Int) (w_0_count : Int) : Option (Int) := some w_0_count
/-! (*valise/bits.Writer).Bytes -/
def bits_Writer_Bytes.f (w_0_bytes : List Int) (w_0_count : Int) : Option (List Int) := if (w_0_bytes.length : Int) = 0 then (some ([] : List Int)) else (gd ((0 : Int) ≤ (w_0_bytes.length : Int) ∧ (w_0_bytes.length : Int) * 1 ≤ 281474976710656) (bnd (List.replicate ((w_0_bytes.length : Int) : Int).toNat (0 : Int)) fun l8 => bnd (cpy l8 w_0_bytes) fun l15 => some l15))
/-! valise/valiselaw3.same -/
def valiselaw3_same.l1 : Nat → Int → List Int → List Int → Option (Sum (Bool) (Unit))
  | 0, _, _, _ => none
  | k + 1, i_72, l_a_0, l_b_1 => if i_72 < (l_a_0.length : Int) then (gd ((0 : Int) ≤ i_72 ∧ i_72 < (l_a_0.length : Int)) (gd ((0 : Int) ≤ i_72 ∧ i_72 < (l_b_1.length : Int)) (if rd l_a_0 i_72 ≠ rd l_b_1 i_72 then (some (.inl false)) else (bnd (IntKind.i64.wrap (i_72 + 1)) fun x85 => valiselaw3_same.l1 k x85 l_a_0 l_b_1)))) else (some (.inr ()))
def valiselaw3_same.f (l_a_0 : List Int) (l_b_1 : List Int) : Option (Bool) := if (l_a_0.length : Int) ≠ (l_b_1.length : Int) then (some false) else ((valiselaw3_same.l1 FU 0 l_a_0 l_b_1).bind fun (yj2 : Sum (Bool) (Unit)) => onR yj2 (fun r => some r) fun () => some true)
/-! valise/bits.NewReader -/
def bits_NewReader.f (l_data_0 : List Int) : Option (Option (List Int × Int)) := if 33554432 < (l_data_0.length : Int) then (some none) else (gd ((0 : Int) ≤ (l_data_0.length : Int) ∧ (l_data_0.length : Int) * 1 ≤ 281474976710656) (bnd (List.replicate ((l_data_0.length : Int) : Int).toNat (0 : Int)) fun l6 => bnd (cpy l6 l_data_0) fun l13 => some (some (l13, 0))))
/-! (*valise/bits.Reader).Left -/
def bits_Reader_Left.f (r_0_data : List Int) (r_0_at : Int) : Option (Int) := some (IntKind.i64.wrap ((IntKind.i64.wrap (8 * (r_0_data.length : Int))) - r_0_at))
/-! (*valise/bits.Reader).Skip -/
def bits_Reader_Skip.f (r_0_data : List Int) (r_0_at : Int) (n_1 : Int) : Option (Int × List Int × Int) := if n_1 < 0 then (some (1, r_0_data, r_0_at)) else ((bits_Reader_Left.f r_0_data r_0_at).bind fun z6 => if z6 < n_1 then (some (30, r_0_data, r_0_at)) else (some (0, r_0_data, IntKind.i64.wrap (r_0_at + n_1))))
/-! (*valise/bits.Reader).ahead -/
def bits_Reader_ahead.l1 : Nat → Int → Int → Int → List Int → Int → Option (Int)
  | 0, _, _, _, _, _ => none
  | k + 1, v_118, got_119, at_120, r_0_data, n_1 => if (got_119 < n_1) ∧ (at_120 < IntKind.i64.wrap (8 * (r_0_data.length : Int))) then (bnd (Int.tmod at_120 8) fun x126 => bnd (min (IntKind.i64.wrap (8 - x126)) (IntKind.i64.wrap (n_1 - got_119))) fun x128 => gd ((0 : Int) ≤ (IntKind.i64.wrap (Int.tdiv at_120 8)) ∧ (IntKind.i64.wrap (Int.tdiv at_120 8)) < (r_0_data.length : Int)) (gd (¬ (IntKind.u64.wrap x126) < 0) (gd (¬ (IntKind.u64.wrap x128) < 0) (bnd (band .u64 (IntKind.u64.wrap (shr .u8 (rd r_0_data (IntKind.i64.wrap (Int.tdiv at_120 8))) (IntKind.u64.wrap x126))) (IntKind.u64.wrap ((shl .u64 1 (IntKind.u64.wrap x128)) - 1))) fun x134 => gd (¬ (IntKind.u64.wrap got_119) < 0) (bnd (bor .u64 v_118 (shl .u64 x134 (IntKind.u64.wrap got_119))) fun x137 => bnd (IntKind.i64.wrap (got_119 + x128)) fun x139 => bnd (IntKind.i64.wrap (at_120 + x128)) fun x141 => bits_Reader_ahead.l1 k x137 x139 x141 r_0_data n_1))))) else (some v_118)
def bits_Reader_ahead.f (r_0_data : List Int) (r_0_at : Int) (n_1 : Int) : Option (Int) := (bits_Reader_ahead.l1 FU 0 0 r_0_at r_0_data n_1).bind fun v_72 => some (IntKind.u32.wrap v_72)
/-! (*valise/bits.Reader).Take -/
def bits_Reader_Take.f (r_0_data : List Int) (r_0_at : Int) (n_1 : Int) : Option (Int × Int × List Int × Int) := if (n_1 < 0) ∨ (32 < n_1) then (some (0, 1, r_0_data, r_0_at)) else ((bits_Reader_Left.f r_0_data r_0_at).bind fun z7 => if z7 < n_1 then (some (0, 30, r_0_data, r_0_at)) else ((bits_Reader_ahead.f r_0_data r_0_at n_1).bind fun z15 => some (z15, 0, r_0_data, IntKind.i64.wrap (r_0_at + n_1))))
/-! (*valise/bits.Reader).At -/
def bits_Reader_At.f (r_0_data : List Int) (r_0_at : Int) : Option (Int) := some r_0_at
/-! valise/valiselaw3.BitsCuts -/
def valiselaw3_BitsCuts.f (ahead_0 : Int) (shift_1 : Int) (v_2 : Int) (n_3 : Int) (cut_4 : Int) : Option (Bool) := (valiselaw3_which.f shift_1 8).bind fun z5 => (valiselaw3_width.f n_3).bind fun z12 => (valiselaw3_which.f cut_4 (IntKind.i64.wrap (z12 + 1))).bind fun z19 => (valiselaw3_low.f v_2 z12).bind fun z26 => (bits_NewWriter.f).bind fun (z33, z34) => (bits_NewWriter.f).bind fun (z46, z47) => (valiselaw3_low.f ahead_0 z5).bind fun z59 => (bits_Writer_Put.f z33 z34 z59 z5).bind fun (z66, z67, z68) => if z66 ≠ 0 then (some false) else ((valiselaw3_low.f ahead_0 z5).bind fun z78 => (bits_Writer_Put.f z46 z47 z78 z5).bind fun (z85, z86, z87) => if z85 ≠ 0 then (some false) else ((bits_Writer_Put.f z67 z68 z26 z12).bind fun (z97, z98, z99) => if z97 ≠ 0 then (some false) else ((valiselaw3_low.f z26 z19).bind fun z109 => (bits_Writer_Put.f z86 z87 z109 z19).bind fun (z116, z117, z118) => if z116 ≠ 0 then (some false) else (gd (¬ (IntKind.u64.wrap z19) < 0) ((bits_Writer_Put.f z117 z118 (IntKind.u32.wrap (shr .u64 (IntKind.u64.wrap z26) (IntKind.u64.wrap z19))) (IntKind.i64.wrap (z12 - z19))).bind fun (z129, z130, z131) => if z129 ≠ 0 then (some false) else ((bits_Writer_Len.f z98 z99).bind fun z141 => if z141 ≠ IntKind.i64.wrap (z5 + z12) then (some false) else ((bits_Writer_Len.f z130 z131).bind fun z149 => if z149 ≠ IntKind.i64.wrap (z5 + z12) then (some false) else ((bits_Writer_Bytes.f z98 z99).bind fun z157 => (bits_Writer_Bytes.f z130 z131).bind fun z167 => (valiselaw3_same.f z157 z167).bind fun z177 => if (!z177) = true then (some false) else ((bits_Writer_Bytes.f z98 z99).bind fun z185 => if (z185.length : Int) ≠ IntKind.i64.wrap (Int.tdiv (IntKind.i64.wrap ((IntKind.i64.wrap (z5 + z12)) + 7)) 8) then (some false) else ((bits_Writer_Bytes.f z98 z99).bind fun z196 => (bits_NewReader.f z196).bind fun z206 => onO z206 (some false) fun (z209, z210) => (bits_Reader_Skip.f z209 z210 z5).bind fun (z222, z223, z224) => if z222 ≠ 0 then (some false) else ((bits_Reader_Take.f z223 z224 z19).bind fun (z234, z235, z236, z237) => (bits_Reader_Take.f z236 z237 (IntKind.i64.wrap (z12 - z19))).bind fun (z246, z247, z248, z249) => if (z235 ≠ 0) ∨ (z247 ≠ 0) then (some false) else (if bor .u64 (IntKind.u64.wrap z234) (shl .u64 (IntKind.u64.wrap z246) (IntKind.u64.wrap z19)) = IntKind.u64.wrap z26 then ((bits_Reader_At.f z248 z249).bind fun z261 => some (decide (z261 = IntKind.i64.wrap (z5 + z12)))) else (some false)))))))))))))
end Go.V.Pu
