import Derived.Test.YtmbcoaiaeeckiaaV9
set_option linter.unusedVariables false
namespace Go.V.Pu
open Go Go.V

/-! valise/valiselaw3.which -/
def valiselaw3_which.f (k_0 : Int) (n_1 : Int) : Option (Int) := gd (n_1 ≠ 0) (bnd (Int.tmod k_0 n_1) fun x2 => (if x2 < 0 then (bnd (IntKind.i64.wrap (x2 + n_1)) fun x10 => some x10) else (some x2)).bind fun m_8 => some m_8)
/-! valise/valiselaw3.width -/
def valiselaw3_width.f (n_0 : Int) : Option (Int) := (valiselaw3_which.f n_0 33).bind fun z5 => some z5
/-! valise/valiselaw3.low -/
def valiselaw3_low.f (v_0 : Int) (n_1 : Int) : Option (Int) := gd (¬ (IntKind.u64.wrap n_1) < 0) (some (IntKind.u32.wrap (band .u64 (IntKind.u64.wrap v_0) (IntKind.u64.wrap ((shl .u64 1 (IntKind.u64.wrap n_1)) - 1)))))
/-! valise/bits.Reverse -/
def bits_Reverse.l1 : Nat → Int → Int → Int → Int → Option (Int)
  | 0, _, _, _, _ => none
  | k + 1, v_54, out_55, t56, n_1 => if t56 < n_1 then (bnd (bor .u32 (shl .u32 out_55 1) (band .u32 v_54 1)) fun x61 => bnd (shr .u32 v_54 1) fun x63 => bits_Reverse.l1 k x63 x61 (IntKind.i64.wrap (t56 + 1)) n_1) else (some out_55)
def bits_Reverse.f (v_0 : Int) (n_1 : Int) : Option (Int × Int) := (if (n_1 < 0) ∨ (32 < n_1) then (some true) else (gd (¬ (IntKind.u64.wrap n_1) < 0) (some (decide (shr .u64 (IntKind.u64.wrap v_0) (IntKind.u64.wrap n_1) ≠ 0))))).bind fun b3 => if b3 = true then (some (0, 1)) else ((bits_Reverse.l1 FU v_0 0 0 n_1).bind fun out_36 => some (out_36, 0))
/-! valise/bits.NewWriter -/
def bits_NewWriter.f  : Option ((List Int × Int)) := some (([] : List Int), 0)
/-! (*valise/bits.Writer).lay -/
def bits_Writer_lay.l1 : Nat → List Int → Int → Int → Int → Option (List Int × Int)
  | 0, _, _, _, _ => none
  | k + 1, l342, y343, v_344, n_345 => if 0 < n_345 then (bnd (Int.tmod y343 8) fun x350 => (if x350 = 0 then (bnd (l342 ++ [0]) fun l379 => gd ((l379.length : Int) * 1 ≤ 140737488355328) (some l379)) else (some l342)).bind fun l370 => bnd (min (IntKind.i64.wrap (8 - x350)) n_345) fun x388 => gd (¬ (IntKind.u64.wrap x388) < 0) (bnd (band .u64 v_344 (IntKind.u64.wrap ((shl .u64 1 (IntKind.u64.wrap x388)) - 1))) fun x391 => gd ((0 : Int) ≤ (IntKind.i64.wrap ((l370.length : Int) - 1)) ∧ (IntKind.i64.wrap ((l370.length : Int) - 1)) < (l370.length : Int)) (gd (¬ (IntKind.u64.wrap x350) < 0) (bnd (l370.set (IntKind.i64.wrap ((l370.length : Int) - 1) : Int).toNat (bor .u8 (rd l370 (IntKind.i64.wrap ((l370.length : Int) - 1))) (IntKind.u8.wrap (shl .u64 x391 (IntKind.u64.wrap x350))))) fun l401 => bnd (shr .u64 v_344 (IntKind.u64.wrap x388)) fun x404 => bnd (IntKind.i64.wrap (n_345 - x388)) fun x406 => bits_Writer_lay.l1 k l401 (IntKind.i64.wrap (y343 + x388)) x404 x406 )))) else (some (l342, y343))
def bits_Writer_lay.f (w_0_bytes : List Int) (w_0_count : Int) (v_1 : Int) (n_2 : Int) : Option (List Int × Int) := (bits_Writer_lay.l1 FU w_0_bytes w_0_count v_1 n_2 ).bind fun (l206, y207) => some (l206, y207)
/-! (*valise/bits.Writer).Put -/
def bits_Writer_Put.f (w_0_bytes : List Int) (w_0_count : Int) (v_1 : Int) (n_2 : Int) : Option (Int × List Int × Int) := (if (n_2 < 0) ∨ (32 < n_2) then (some true) else (gd (¬ (IntKind.u64.wrap n_2) < 0) (some (decide (shr .u64 (IntKind.u64.wrap v_1) (IntKind.u64.wrap n_2) ≠ 0))))).bind fun b3 => if (b3 = true) ∨ (268435456 < IntKind.i64.wrap (w_0_count + n_2)) then (some (1, w_0_bytes, w_0_count)) else ((bits_Writer_lay.f w_0_bytes w_0_count (IntKind.u64.wrap v_1) n_2).bind fun (z12, z13) => some (0, z12, z13))
/-! (*valise/bits.Writer).Bytes -/
def bits_Writer_Bytes.f (w_0_bytes : List Int) (w_0_count : Int) : Option (List Int) := if (w_0_bytes.length : Int) = 0 then (some ([] : List Int)) else (gd ((0 : Int) ≤ (w_0_bytes.length : Int) ∧ (w_0_bytes.length : Int) * 1 ≤ 281474976710656) (bnd (List.replicate ((w_0_bytes.length : Int) : Int).toNat (0 : Int)) fun l8 => bnd (cpy l8 w_0_bytes) fun l15 => some l15))
/-! valise/bits.NewReader -/
def bits_NewReader.f (l_data_0 : List Int) : Option (Option (List Int × Int)) := if 33554432 < (l_data_0.length : Int) then (some none) else (gd ((0 : Int) ≤ (l_data_0.length : Int) ∧ (l_data_0.length : Int) * 1 ≤ 281474976710656) (bnd (List.replicate ((l_data_0.length : Int) : Int).toNat (0 : Int)) fun l6 => bnd (cpy l6 l_data_0) fun l13 => some (some (l13, 0))))
/-! (*valise/bits.Reader).Left -/
def bits_Reader_Left.f (r_0_data : List Int) (r_0_at : Int) : Option (Int) := some (IntKind.i64.wrap ((IntKind.i64.wrap (8 * (r_0_data.length : Int))) - r_0_at))
/-! (*valise/bits.Reader).ahead -/
def bits_Reader_ahead.l1 : Nat → Int → Int → Int → List Int → Int → Option (Int)
  | 0, _, _, _, _, _ => none
  | k + 1, v_118, got_119, at_120, r_0_data, n_1 => if (got_119 < n_1) ∧ (at_120 < IntKind.i64.wrap (8 * (r_0_data.length : Int))) then (bnd (Int.tmod at_120 8) fun x126 => bnd (min (IntKind.i64.wrap (8 - x126)) (IntKind.i64.wrap (n_1 - got_119))) fun x128 => gd ((0 : Int) ≤ (IntKind.i64.wrap (Int.tdiv at_120 8)) ∧ (IntKind.i64.wrap (Int.tdiv at_120 8)) < (r_0_data.length : Int)) (gd (¬ (IntKind.u64.wrap x126) < 0) (gd (¬ (IntKind.u64.wrap x128) < 0) (bnd (band .u64 (IntKind.u64.wrap (shr .u8 (rd r_0_data (IntKind.i64.wrap (Int.tdiv at_120 8))) (IntKind.u64.wrap x126))) (IntKind.u64.wrap ((shl .u64 1 (IntKind.u64.wrap x128)) - 1))) fun x134 => gd (¬ (IntKind.u64.wrap got_119) < 0) (bnd (bor .u64 v_118 (shl .u64 x134 (IntKind.u64.wrap got_119))) fun x137 => bnd (IntKind.i64.wrap (got_119 + x128)) fun x139 => bnd (IntKind.i64.wrap (at_120 + x128)) fun x141 => bits_Reader_ahead.l1 k x137 x139 x141 r_0_data n_1))))) else (some v_118)
def bits_Reader_ahead.f (r_0_data : List Int) (r_0_at : Int) (n_1 : Int) : Option (Int) := (bits_Reader_ahead.l1 FU 0 0 r_0_at r_0_data n_1).bind fun v_72 => some (IntKind.u32.wrap v_72)
/-! (*valise/bits.Reader).Take -/
def bits_Reader_Take.f (r_0_data : List Int) (r_0_at : Int) (n_1 : Int) : Option (Int × Int × List Int × Int) := if (n_1 < 0) ∨ (32 < n_1) then (some (0, 1, r_0_data, r_0_at)) else ((bits_Reader_Left.f r_0_data r_0_at).bind fun z7 => if z7 < n_1 then (some (0, 30, r_0_data, r_0_at)) else ((bits_Reader_ahead.f r_0_data r_0_at n_1).bind fun z15 => some (z15, 0, r_0_data, IntKind.i64.wrap (r_0_at + n_1))))
/-! valise/valiselaw3.BitsMirror -/
def valiselaw3_BitsMirror.l1 : Nat → List Int → Int → Int → Int → Option (Sum (Bool) (Unit))
  | 0, _, _, _, _ => none
  | k + 1, l217, y218, i_219, z12 => if 0 ≤ i_219 then ((bits_Reader_Take.f l217 y218 1).bind fun (z228, z229, z230, z231) => (if z229 ≠ 0 then (some true) else (gd (¬ (IntKind.u64.wrap i_219) < 0) (some (decide (z228 ≠ band .u32 (shr .u32 z12 (IntKind.u64.wrap i_219)) 1))))).bind fun b237 => if b237 = true then (some (.inl false)) else (bnd (IntKind.i64.wrap (i_219 - 1)) fun x241 => valiselaw3_BitsMirror.l1 k z230 z231 x241 z12)) else (some (.inr ()))
def valiselaw3_BitsMirror.f (v_0 : Int) (n_1 : Int) : Option (Bool) := (valiselaw3_width.f n_1).bind fun z5 => (valiselaw3_low.f v_0 z5).bind fun z12 => (bits_Reverse.f z12 z5).bind fun (z19, z20) => if z20 ≠ 0 then (some false) else ((bits_Reverse.f z19 z5).bind fun (z28, z29) => (bits_NewWriter.f).bind fun (z36, z37) => if ((z29 ≠ 0) ∨ (z28 ≠ z12)) ∧ true then (some false) else ((bits_Writer_Put.f z36 z37 z19 z5).bind fun (z52, z53, z54) => if z52 ≠ 0 then (some false) else ((bits_Writer_Bytes.f z53 z54).bind fun z64 => (bits_NewReader.f z64).bind fun z74 => onO z74 (some false) fun (z77, z78) => bnd (IntKind.i64.wrap (z5 - 1)) fun x86 => (valiselaw3_BitsMirror.l1 FU z77 z78 x86 z12).bind fun (yj88 : Sum (Bool) (Unit)) => onR yj88 (fun r => some r) fun () => some true)))
end Go.V.Pu
