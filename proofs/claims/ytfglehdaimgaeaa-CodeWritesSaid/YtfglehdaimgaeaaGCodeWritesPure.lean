import Derived.Test.YtfglehdaimgaeaaV15
set_option linter.unusedVariables false
namespace Go.V.Pu
open Go Go.V

/-! valise/valiselaw5.copied -/
def valiselaw5_copied.f (l_l_0 : List Int) : Option (List Int) := gd ((0 : Int) ≤ (l_l_0.length : Int) ∧ (l_l_0.length : Int) ≤ (IntKind.i64.wrap ((l_l_0.length : Int) + 4))) (gd ((IntKind.i64.wrap ((l_l_0.length : Int) + 4)) * 8 ≤ 281474976710656) (bnd (List.replicate ((l_l_0.length : Int) : Int).toNat (0 : Int)) fun l6 => bnd (cpy l6 l_l_0) fun l13 => some l13))
/-! valise/valiselaw5.framed -/
def valiselaw5_framed.f (l_l_0 : List Int) : Option (List Int) := (valiselaw5_copied.f l_l_0).bind fun z5 => bnd (z5 ++ [(-71), (-72), (-73)]) fun l18 => gd ((l18.length : Int) * 8 ≤ 140737488355328) (some l18)
/-! valise/code.count -/
def code_count.l1 : Nat → List Int → Int → List Int → Option (Sum (List Int × Int) (List Int))
  | 0, _, _, _ => none
  | k + 1, y129, t130, l_lens_0 => if t130 < (l_lens_0.length : Int) then (gd ((0 : Int) ≤ t130 ∧ t130 < (l_lens_0.length : Int)) (bnd (rd l_lens_0 t130) fun x137 => if (x137 < 0) ∨ (15 < x137) then (some (.inl ((List.replicate 16 (0 : Int)), 50))) else (gd ((0 : Int) ≤ x137 ∧ x137 < (16 : Int)) (gd (y129.length = 16) (bnd (y129.set (x137 : Int).toNat (IntKind.i64.wrap ((rd y129 x137) + 1))) fun l151 => code_count.l1 k l151 (IntKind.i64.wrap (t130 + 1)) l_lens_0))))) else (some (.inr y129))
def code_count.f (l_lens_0 : List Int) : Option (List Int × Int) := if 288 < (l_lens_0.length : Int) then (some ((List.replicate 16 (0 : Int)), 1)) else ((code_count.l1 FU (List.replicate 16 (0 : Int)) 0 l_lens_0).bind fun (yj12 : Sum (List Int × Int) (List Int)) => onR yj12 (fun r => some r) fun y83 => gd (y83.length = 16) (bnd (y83.set (0 : Int).toNat 0) fun l158 => some (l158, 0)))
/-! valise/code.shape -/
def code_shape.l1 : Nat → Int → Int → Int → List Int → Option (Int × Int)
  | 0, _, _, _, _ => none
  | k + 1, words_77, used_78, l_79, l_n_0 => if l_79 ≤ 15 then (gd ((0 : Int) ≤ l_79 ∧ l_79 < (16 : Int)) (gd (l_n_0.length = 16) (bnd (IntKind.i64.wrap (words_77 + (rd l_n_0 l_79))) fun x87 => gd (¬ (IntKind.i64.wrap (15 - l_79)) < 0) (bnd (IntKind.i64.wrap (used_78 + (shl .i64 (rd l_n_0 l_79) (IntKind.i64.wrap (15 - l_79))))) fun x90 => bnd (IntKind.i64.wrap (l_79 + 1)) fun x92 => code_shape.l1 k x87 x90 x92 l_n_0)))) else (some (words_77, used_78))
def code_shape.f (l_n_0 : List Int) : Option (Int) := (code_shape.l1 FU 0 0 1 l_n_0).bind fun (words_49, used_50) => if words_49 = 0 then (some 0) else ((if words_49 = 1 then (gd (l_n_0.length = 16) (some (decide (rd l_n_0 1 = 1)))) else (some false)).bind fun b99 => if b99 = true then (some 1) else (if 32768 < used_50 then (some 3) else (if used_50 = 32768 then (some 4) else (some 2))))
/-! valise/code.refused -/
def code_refused.f (s_0 : Int) : Option (Int) := if s_0 = 2 then (some 52) else (if s_0 = 3 then (some 51) else (some 0))
/-! valise/code.first -/
def code_first.l1 : Nat → List Int → Int → Int → List Int → Option (List Int)
  | 0, _, _, _, _ => none
  | k + 1, y107, word_108, l_109, l_n_0 => if l_109 ≤ 15 then (gd ((0 : Int) ≤ (IntKind.i64.wrap (l_109 - 1)) ∧ (IntKind.i64.wrap (l_109 - 1)) < (16 : Int)) (gd (l_n_0.length = 16) (bnd (shl .i64 (IntKind.i64.wrap (word_108 + (rd l_n_0 (IntKind.i64.wrap (l_109 - 1))))) 1) fun x117 => gd ((0 : Int) ≤ l_109 ∧ l_109 < (16 : Int)) (gd (y107.length = 16) (bnd (y107.set (l_109 : Int).toNat x117) fun l123 => bnd (IntKind.i64.wrap (l_109 + 1)) fun x127 => code_first.l1 k l123 x117 x127 l_n_0))))) else (some y107)
def code_first.f (l_n_0 : List Int) : Option (List Int) := (code_first.l1 FU (List.replicate 16 (0 : Int)) 0 1 l_n_0).bind fun y71 => gd (y71.length = 16) (some y71)
/-! valise/code.words -/
def code_words.l1 : Nat → List Int → List Int → Int → List Int → Option (List Int)
  | 0, _, _, _, _ => none
  | k + 1, l246, y247, t248, l_lens_0 => if t248 < (l_lens_0.length : Int) then (gd ((0 : Int) ≤ t248 ∧ t248 < (l_lens_0.length : Int)) (bnd (rd l_lens_0 t248) fun x255 => (if 0 < x255 then (gd ((0 : Int) ≤ x255 ∧ x255 < (16 : Int)) (gd (y247.length = 16) (gd ((0 : Int) ≤ t248 ∧ t248 < (l246.length : Int)) (bnd (l246.set (t248 : Int).toNat (rd y247 x255)) fun l284 => bnd (y247.set (x255 : Int).toNat (IntKind.i64.wrap ((rd y247 x255) + 1))) fun l289 => some (l284, l289))))) else (some (l246, y247))).bind fun (l274, y275) => code_words.l1 k l274 y275 (IntKind.i64.wrap (t248 + 1)) l_lens_0)) else (some l246)
def code_words.f (l_lens_0 : List Int) (l_next_1 : List Int) : Option (List Int) := gd ((0 : Int) ≤ (l_lens_0.length : Int) ∧ (l_lens_0.length : Int) * 8 ≤ 281474976710656) (bnd (List.replicate ((l_lens_0.length : Int) : Int).toNat (0 : Int)) fun l9 => (code_words.l1 FU l9 l_next_1 0 l_lens_0).bind fun l154 => some l154)
/-! valise/code.makeTable -/
def code_makeTable.f (l_lens_0 : List Int) (l_counts_1 : List Int) : Option ((List Int × List Int × List Int × List Int)) := gd (l_counts_1.length = 16) ((code_first.f l_counts_1).bind fun z14 => gd (z14.length = 16) (bnd (([] : List Int) ++ l_lens_0) fun l53 => gd ((l53.length : Int) * 8 ≤ 140737488355328) ((code_words.f l_lens_0 z14).bind fun z62 => some (l53, z62, l_counts_1, z14))))
/-! valise/code.NewEncoder -/
def code_NewEncoder.f (l_lens_0 : List Int) : Option (Option (List Int × List Int × List Int × List Int) × Int) := (code_count.f l_lens_0).bind fun (z5, z6) => gd (z5.length = 16) (if z6 ≠ 0 then (some (none, z6)) else ((code_shape.f z5).bind fun z19 => (code_refused.f z19).bind fun z25 => if z25 ≠ 0 then (some (none, z25)) else ((code_makeTable.f l_lens_0 z5).bind fun (z34, z35, z36, z37) => gd (z36.length = 16) (gd (z37.length = 16) (some (some (z34, z35, z36, z37), 0))))))
/-! valise/valiseref5.valid -/
def valiseref5_valid.l1 : Nat → Int → List Int → Option (Sum (Int) (Unit))
  | 0, _, _ => none
  | k + 1, i_67, l_lens_0 => if i_67 < (l_lens_0.length : Int) then (gd ((0 : Int) ≤ i_67 ∧ i_67 < (l_lens_0.length : Int)) (if (rd l_lens_0 i_67 < 0) ∨ (15 < rd l_lens_0 i_67) then (some (.inl 50)) else (bnd (IntKind.i64.wrap (i_67 + 1)) fun x79 => valiseref5_valid.l1 k x79 l_lens_0))) else (some (.inr ()))
def valiseref5_valid.f (l_lens_0 : List Int) : Option (Int) := if 288 < (l_lens_0.length : Int) then (some 1) else ((valiseref5_valid.l1 FU 0 l_lens_0).bind fun (yj2 : Sum (Int) (Unit)) => onR yj2 (fun r => some r) fun () => some 0)
/-! valise/valiseref5.rows -/
def valiseref5_rows.l1 : Nat → Int → Int → Option (Int)
  | 0, _, _ => none
  | k + 1, n_45, i_46 => if i_46 < 15 then (bnd (IntKind.i64.wrap (2 * n_45)) fun x51 => bnd (IntKind.i64.wrap (i_46 + 1)) fun x53 => valiseref5_rows.l1 k x51 x53 ) else (some n_45)
def valiseref5_rows.f (l_0 : Int) : Option (Int) := (valiseref5_rows.l1 FU 1 l_0 ).bind fun n_28 => some n_28
/-! valise/valiseref5.used -/
def valiseref5_used.l1 : Nat → Int → Int → Int → List Int → Option (Int × Int)
  | 0, _, _, _, _ => none
  | k + 1, sum_184, n_185, i_186, l_lens_0 => if i_186 < (l_lens_0.length : Int) then (gd ((0 : Int) ≤ i_186 ∧ i_186 < (l_lens_0.length : Int)) ((if 0 < rd l_lens_0 i_186 then ((valiseref5_rows.f (rd l_lens_0 i_186)).bind fun z210 => bnd (IntKind.i64.wrap (sum_184 + z210)) fun x214 => bnd (IntKind.i64.wrap (n_185 + 1)) fun x216 => some (x214, x216)) else (some (sum_184, n_185))).bind fun (sum_205, n_206) => bnd (IntKind.i64.wrap (i_186 + 1)) fun x220 => valiseref5_used.l1 k sum_205 n_206 x220 l_lens_0)) else (some (sum_184, n_185))
def valiseref5_used.f (l_lens_0 : List Int) : Option (Int × Int) := (valiseref5_used.l1 FU 0 0 0 l_lens_0).bind fun (sum_111, n_112) => some (sum_111, n_112)
/-! valise/valiseref5.Check -/
def valiseref5_Check.f (l_lens_0 : List Int) : Option (Int × Int) := (valiseref5_valid.f l_lens_0).bind fun z3 => if z3 ≠ 0 then (some (0, z3)) else ((valiseref5_used.f l_lens_0).bind fun (z10, z11) => if z11 = 0 then (some (0, 0)) else (if (z11 = 1) ∧ (z10 = 16384) then (some (1, 0)) else (if 32768 < z10 then (some (3, 0)) else (if z10 = 32768 then (some (4, 0)) else (some (2, 0))))))
/-! valise/valiseref5.Codes -/
def valiseref5_Codes.l13 : Nat → List Int → Int → Int → List Int → Int → Option (List Int × Int)
  | 0, _, _, _, _, _ => none
  | k + 1, l1305, next_1306, s_1307, l_lens_0, l_1125 => if s_1307 < (l_lens_0.length : Int) then (gd ((0 : Int) ≤ s_1307 ∧ s_1307 < (l_lens_0.length : Int)) ((if rd l_lens_0 s_1307 = l_1125 then (gd ((0 : Int) ≤ s_1307 ∧ s_1307 < (l1305.length : Int)) (bnd (l1305.set (s_1307 : Int).toNat next_1306) fun l1332 => bnd (IntKind.i64.wrap (next_1306 + 1)) fun x1335 => some (l1332, x1335))) else (some (l1305, next_1306))).bind fun (l1325, next_1326) => bnd (IntKind.i64.wrap (s_1307 + 1)) fun x1339 => valiseref5_Codes.l13 k l1325 next_1326 x1339 l_lens_0 l_1125)) else (some (l1305, next_1306))
def valiseref5_Codes.l11 : Nat → List Int → Int → Int → List Int → Option (List Int)
  | 0, _, _, _, _ => none
  | k + 1, l1123, next_1124, l_1125, l_lens_0 => if l_1125 ≤ 15 then (bnd (IntKind.i64.wrap (2 * next_1124)) fun x1130 => (valiseref5_Codes.l13 FU l1123 x1130 0 l_lens_0 l_1125).bind fun (l1236, next_1237) => bnd (IntKind.i64.wrap (l_1125 + 1)) fun x1343 => valiseref5_Codes.l11 k l1236 next_1237 x1343 l_lens_0) else (some l1123)
def valiseref5_Codes.f (l_lens_0 : List Int) : Option (List Int × Int) := (valiseref5_Check.f l_lens_0).bind fun (z3, z4) => if z4 ≠ 0 then (some (([] : List Int), z4)) else (if z3 = 3 then (some (([] : List Int), 51)) else (gd ((0 : Int) ≤ (l_lens_0.length : Int) ∧ (l_lens_0.length : Int) * 8 ≤ 281474976710656) (bnd (List.replicate ((l_lens_0.length : Int) : Int).toNat (0 : Int)) fun l18 => (valiseref5_Codes.l11 FU l18 0 1 l_lens_0).bind fun l684 => some (l684, 0))))
/-! valise/valiseref5.NewEncoder -/
def valiseref5_NewEncoder.f (l_lens_0 : List Int) : Option (Option (List Int × List Int) × Int) := (valiseref5_Check.f l_lens_0).bind fun (z3, z4) => if z4 ≠ 0 then (some (none, z4)) else (if z3 = 2 then (some (none, 52)) else (if z3 = 3 then (some (none, 51)) else ((valiseref5_Codes.f l_lens_0).bind fun (z16, z17) => bnd (([] : List Int) ++ l_lens_0) fun l31 => gd ((l31.length : Int) * 8 ≤ 140737488355328) (some (some (l31, z16), 0)))))
/-! valise/valiselaw5.num -/
def valiselaw5_num.f (e_0 : Int) : Option (Int) := some e_0
/-! valise/valiselaw5.same -/
def valiselaw5_same.l1 : Nat → Int → List Int → List Int → Option (Sum (Bool) (Unit))
  | 0, _, _, _ => none
  | k + 1, i_72, l_a_0, l_b_1 => if i_72 < (l_a_0.length : Int) then (gd ((0 : Int) ≤ i_72 ∧ i_72 < (l_a_0.length : Int)) (gd ((0 : Int) ≤ i_72 ∧ i_72 < (l_b_1.length : Int)) (if rd l_a_0 i_72 ≠ rd l_b_1 i_72 then (some (.inl false)) else (bnd (IntKind.i64.wrap (i_72 + 1)) fun x85 => valiselaw5_same.l1 k x85 l_a_0 l_b_1)))) else (some (.inr ()))
def valiselaw5_same.f (l_a_0 : List Int) (l_b_1 : List Int) : Option (Bool) := if (l_a_0.length : Int) ≠ (l_b_1.length : Int) then (some false) else ((valiselaw5_same.l1 FU 0 l_a_0 l_b_1).bind fun (yj2 : Sum (Bool) (Unit)) => onR yj2 (fun r => some r) fun () => some true)
/-! valise/valiselaw5.whole -/
def valiselaw5_whole.f (l_m_0 : List Int) (l_l_1 : List Int) : Option (Bool) := bnd ((l_l_1.length : Int)) fun x1 => (if (l_m_0.length : Int) ≠ IntKind.i64.wrap (x1 + 3) then (some true) else (gd ((0 : Int) ≤ x1 ∧ x1 < (l_m_0.length : Int)) (some (decide (rd l_m_0 x1 ≠ (-71)))))).bind fun b5 => (if b5 = true then (some true) else (gd ((0 : Int) ≤ (IntKind.i64.wrap (x1 + 1)) ∧ (IntKind.i64.wrap (x1 + 1)) < (l_m_0.length : Int)) (some (decide (rd l_m_0 (IntKind.i64.wrap (x1 + 1)) ≠ (-72)))))).bind fun b14 => (if b14 = true then (some true) else (gd ((0 : Int) ≤ (IntKind.i64.wrap (x1 + 2)) ∧ (IntKind.i64.wrap (x1 + 2)) < (l_m_0.length : Int)) (some (decide (rd l_m_0 (IntKind.i64.wrap (x1 + 2)) ≠ (-73)))))).bind fun b23 => if b23 = true then (some false) else (gd ((0 : Int) ≤ x1 ∧ x1 ≤ (l_m_0.length : Int)) ((valiselaw5_same.f (l_m_0.take (x1 : Int).toNat) l_l_1).bind fun z35 => some z35))
/-! valise/valiselaw5.spoil -/
def valiselaw5_spoil_v0.l1 : Nat → List Int → Int → Nat → Option (List Int)
  | 0, _, _, _ => none
  | k + 1, l70, i_71, m_l_0 => if i_71 < ((l70.take m_l_0).length : Int) then (gd ((0 : Int) ≤ i_71 ∧ i_71 < ((l70.take m_l_0).length : Int)) (bnd (l70.set (i_71 : Int).toNat 9) fun l80 => bnd (IntKind.i64.wrap (i_71 + 1)) fun x83 => valiselaw5_spoil_v0.l1 k l80 x83 m_l_0)) else (some l70)
def valiselaw5_spoil_v0.f (l_l_0 : List Int) (m_l_0 : Nat) : Option (List Int) := (valiselaw5_spoil_v0.l1 FU l_l_0 0 m_l_0).bind fun l43 => gd (l43.length = l_l_0.length) (some l43)
/-! valise/bits.NewWriter -/
def bits_NewWriter.f  : Option ((List Int × Int)) := some (([] : List Int), 0)
/-! valise/valiseref3.NewWriter -/
def valiseref3_NewWriter.f  : Option (List Int) := some ([] : List Int)
/-! (*valise/bits.Writer).lay -/
def bits_Writer_lay.l1 : Nat → List Int → Int → Int → Int → Option (List Int × Int)
  | 0, _, _, _, _ => none
  | k + 1, l342, y343, v_344, n_345 => if 0 < n_345 then (bnd (Int.tmod y343 8) fun x350 => (if x350 = 0 then (bnd (l342 ++ [0]) fun l379 => gd ((l379.length : Int) * 1 ≤ 140737488355328) (some l379)) else (some l342)).bind fun l370 => bnd (min (IntKind.i64.wrap (8 - x350)) n_345) fun x388 => gd (¬ (IntKind.u64.wrap x388) < 0) (bnd (band .u64 v_344 (IntKind.u64.wrap ((shl .u64 1 (IntKind.u64.wrap x388)) - 1))) fun x391 => gd ((0 : Int) ≤ (IntKind.i64.wrap ((l370.length : Int) - 1)) ∧ (IntKind.i64.wrap ((l370.length : Int) - 1)) < (l370.length : Int)) (gd (¬ (IntKind.u64.wrap x350) < 0) (bnd (l370.set (IntKind.i64.wrap ((l370.length : Int) - 1) : Int).toNat (bor .u8 (rd l370 (IntKind.i64.wrap ((l370.length : Int) - 1))) (IntKind.u8.wrap (shl .u64 x391 (IntKind.u64.wrap x350))))) fun l401 => bnd (shr .u64 v_344 (IntKind.u64.wrap x388)) fun x404 => bnd (IntKind.i64.wrap (n_345 - x388)) fun x406 => bits_Writer_lay.l1 k l401 (IntKind.i64.wrap (y343 + x388)) x404 x406 )))) else (some (l342, y343))
def bits_Writer_lay.f (w_0_bytes : List Int) (w_0_count : Int) (v_1 : Int) (n_2 : Int) : Option (List Int × Int) := (bits_Writer_lay.l1 FU w_0_bytes w_0_count v_1 n_2 ).bind fun (l206, y207) => some (l206, y207)
/-! (*valise/bits.Writer).Put -/
def bits_Writer_Put.f (w_0_bytes : List Int) (w_0_count : Int) (v_1 : Int) (n_2 : Int) : Option (Int × List Int × Int) := (if (n_2 < 0) ∨ (32 < n_2) then (some true) else (gd (¬ (IntKind.u64.wrap n_2) < 0) (some (decide (shr .u64 (IntKind.u64.wrap v_1) (IntKind.u64.wrap n_2) ≠ 0))))).bind fun b6 => if (b6 = true) ∨ (268435456 < IntKind.i64.wrap (w_0_count + n_2)) then (some (1, w_0_bytes, w_0_count)) else ((bits_Writer_lay.f w_0_bytes w_0_count (IntKind.u64.wrap v_1) n_2).bind fun (z21, z22) => some (0, z21, z22))
/-! valise/valiseref3.below -/
def valiseref3_below.f (v_0 : Int) (n_1 : Int) : Option (Bool) := gd (¬ (IntKind.u64.wrap n_1) < 0) (some (decide (IntKind.u64.wrap v_0 < shl .u64 1 (IntKind.u64.wrap n_1))))
/-! valise/valiseref3.bit -/
def valiseref3_bit.f (v_0 : Int) (i_1 : Int) : Option (Int) := gd (¬ (IntKind.u64.wrap i_1) < 0) (some (IntKind.u8.wrap (band .u32 (shr .u32 v_0 (IntKind.u64.wrap i_1)) 1)))
/-! (*valise/valiseref3.Writer).Put -/
def valiseref3_Writer_Put.l1 : Nat → List Int → Int → Int → Int → Option (List Int)
  | 0, _, _, _, _ => none
  | k + 1, l161, i_162, v_1, n_2 => if i_162 < n_2 then ((valiseref3_bit.f v_1 i_162).bind fun z169 => bnd (l161 ++ [z169]) fun l180 => gd ((l180.length : Int) * 1 ≤ 140737488355328) (bnd (IntKind.i64.wrap (i_162 + 1)) fun x187 => valiseref3_Writer_Put.l1 k l180 x187 v_1 n_2)) else (some l161)
def valiseref3_Writer_Put.f (w_0_Row : List Int) (v_1 : Int) (n_2 : Int) : Option (Int × List Int) := if (n_2 < 0) ∨ (32 < n_2) then (some (1, w_0_Row)) else ((valiseref3_below.f v_1 n_2).bind fun z8 => if ((!z8) = true) ∨ (268435456 < IntKind.i64.wrap ((w_0_Row.length : Int) + n_2)) then (some (1, w_0_Row)) else ((valiseref3_Writer_Put.l1 FU w_0_Row 0 v_1 n_2).bind fun l104 => some (0, l104)))
/-! (*valise/code.Encoder).Len -/
def code_Encoder_Len.f (e_0_table_lens : List Int) (e_0_table_words : List Int) (e_0_table_counts : List Int) (e_0_table_first : List Int) (symbol_1 : Int) : Option (Int) := if (symbol_1 < 0) ∨ ((e_0_table_lens.length : Int) ≤ symbol_1) then (some 0) else (gd ((0 : Int) ≤ symbol_1 ∧ symbol_1 < (e_0_table_lens.length : Int)) (some (rd e_0_table_lens symbol_1)))
/-! valise/bits.Reverse -/
def bits_Reverse.l1 : Nat → Int → Int → Int → Int → Option (Int)
  | 0, _, _, _, _ => none
  | k + 1, v_60, out_61, t62, n_1 => if t62 < n_1 then (bnd (bor .u32 (shl .u32 out_61 1) (band .u32 v_60 1)) fun x67 => bnd (shr .u32 v_60 1) fun x69 => bits_Reverse.l1 k x69 x67 (IntKind.i64.wrap (t62 + 1)) n_1) else (some out_61)
def bits_Reverse.f (v_0 : Int) (n_1 : Int) : Option (Int × Int) := (if (n_1 < 0) ∨ (32 < n_1) then (some true) else (gd (¬ (IntKind.u64.wrap n_1) < 0) (some (decide (shr .u64 (IntKind.u64.wrap v_0) (IntKind.u64.wrap n_1) ≠ 0))))).bind fun b6 => if b6 = true then (some (0, 1)) else ((bits_Reverse.l1 FU v_0 0 0 n_1).bind fun out_42 => some (out_42, 0))
/-! (*valise/code.Encoder).Put -/
def code_Encoder_Put.f (e_0_table_lens : List Int) (e_0_table_words : List Int) (e_0_table_counts : List Int) (e_0_table_first : List Int) (w_1_bytes : List Int) (w_1_count : Int) (symbol_2 : Int) : Option (Int × List Int × Int) := (code_Encoder_Len.f e_0_table_lens e_0_table_words e_0_table_counts e_0_table_first symbol_2).bind fun z3 => if z3 = 0 then (some (56, w_1_bytes, w_1_count)) else (gd ((0 : Int) ≤ symbol_2 ∧ symbol_2 < (e_0_table_words.length : Int)) ((bits_Reverse.f (IntKind.u32.wrap (rd e_0_table_words symbol_2)) z3).bind fun (z12, z13) => if z13 ≠ 0 then (some (z13, w_1_bytes, w_1_count)) else ((bits_Writer_Put.f w_1_bytes w_1_count z12 z3).bind fun (z22, z23, z24) => some (z22, z23, z24))))
/-! (*valise/valiseref5.Encoder).Len -/
def valiseref5_Encoder_Len.f (x_0_Lens : List Int) (x_0_Words : List Int) (symbol_1 : Int) : Option (Int) := if (symbol_1 < 0) ∨ ((x_0_Lens.length : Int) ≤ symbol_1) then (some 0) else (gd ((0 : Int) ≤ symbol_1 ∧ symbol_1 < (x_0_Lens.length : Int)) (some (rd x_0_Lens symbol_1)))
/-! (*valise/valiseref5.Encoder).Put -/
def valiseref5_Encoder_Put.l1 : Nat → Int → Int → Int → Int → Option (Int)
  | 0, _, _, _, _ => none
  | k + 1, row_69, v_70, i_71, z3 => if i_71 < z3 then (bnd (IntKind.u32.wrap ((IntKind.u32.wrap (2 * row_69)) + (IntKind.u32.wrap (Int.tmod v_70 2)))) fun x76 => bnd (IntKind.i64.wrap (Int.tdiv v_70 2)) fun x78 => bnd (IntKind.i64.wrap (i_71 + 1)) fun x80 => valiseref5_Encoder_Put.l1 k x76 x78 x80 z3) else (some row_69)
def valiseref5_Encoder_Put.f (x_0_Lens : List Int) (x_0_Words : List Int) (w_1_Row : List Int) (symbol_2 : Int) : Option (Int × List Int) := (valiseref5_Encoder_Len.f x_0_Lens x_0_Words symbol_2).bind fun z3 => if z3 = 0 then (some (56, w_1_Row)) else (gd ((0 : Int) ≤ symbol_2 ∧ symbol_2 < (x_0_Words.length : Int)) (bnd (rd x_0_Words symbol_2) fun x10 => (valiseref5_Encoder_Put.l1 FU 0 x10 0 z3).bind fun row_47 => (valiseref3_Writer_Put.f w_1_Row row_47 z3).bind fun (z88, z89) => some (z88, z89)))
/-! (*valise/bits.Writer).Len -/
def bits_Writer_Len.f (w_0_bytes : List Int) (w_0_count : Int) : Option (Int) := some w_0_count
/-! (*valise/valiseref3.Writer).Len -/
def valiseref3_Writer_Len.f (w_0_Row : List Int) : Option (Int) := some (w_0_Row.length : Int)
/-! (*valise/bits.Writer).Bytes -/
def bits_Writer_Bytes.f (w_0_bytes : List Int) (w_0_count : Int) : Option (List Int) := if (w_0_bytes.length : Int) = 0 then (some ([] : List Int)) else (gd ((0 : Int) ≤ (w_0_bytes.length : Int) ∧ (w_0_bytes.length : Int) * 1 ≤ 281474976710656) (bnd (List.replicate ((w_0_bytes.length : Int) : Int).toNat (0 : Int)) fun l8 => bnd (cpy l8 w_0_bytes) fun l15 => some l15))
/-! (*valise/valiseref3.Writer).Bytes -/
def valiseref3_Writer_Bytes.l1 : Nat → List Int → Int → List Int → Option (List Int)
  | 0, _, _, _ => none
  | k + 1, l272, i_273, w_0_Row => if i_273 < (w_0_Row.length : Int) then ((if Int.tmod i_273 8 = 0 then (bnd (l272 ++ [0]) fun l303 => gd ((l303.length : Int) * 1 ≤ 140737488355328) (some l303)) else (some l272)).bind fun l294 => gd ((0 : Int) ≤ (IntKind.i64.wrap (Int.tdiv i_273 8)) ∧ (IntKind.i64.wrap (Int.tdiv i_273 8)) < (l294.length : Int)) (gd ((0 : Int) ≤ i_273 ∧ i_273 < (w_0_Row.length : Int)) (gd (¬ (IntKind.u64.wrap (Int.tmod i_273 8)) < 0) (bnd (l294.set (IntKind.i64.wrap (Int.tdiv i_273 8) : Int).toNat (IntKind.u8.wrap ((rd l294 (IntKind.i64.wrap (Int.tdiv i_273 8))) + (shl .u8 (rd w_0_Row i_273) (IntKind.u64.wrap (Int.tmod i_273 8)))))) fun l320 => bnd (IntKind.i64.wrap (i_273 + 1)) fun x323 => valiseref3_Writer_Bytes.l1 k l320 x323 w_0_Row)))) else (some l272)
def valiseref3_Writer_Bytes.f (w_0_Row : List Int) : Option (List Int) := (valiseref3_Writer_Bytes.l1 FU ([] : List Int) 0 w_0_Row).bind fun l165 => some l165
/-! valise/valiselaw5.sameBytes -/
def valiselaw5_sameBytes.l1 : Nat → Int → List Int → List Int → Option (Sum (Bool) (Unit))
  | 0, _, _, _ => none
  | k + 1, i_72, l_a_0, l_b_1 => if i_72 < (l_a_0.length : Int) then (gd ((0 : Int) ≤ i_72 ∧ i_72 < (l_a_0.length : Int)) (gd ((0 : Int) ≤ i_72 ∧ i_72 < (l_b_1.length : Int)) (if rd l_a_0 i_72 ≠ rd l_b_1 i_72 then (some (.inl false)) else (bnd (IntKind.i64.wrap (i_72 + 1)) fun x85 => valiselaw5_sameBytes.l1 k x85 l_a_0 l_b_1)))) else (some (.inr ()))
def valiselaw5_sameBytes.f (l_a_0 : List Int) (l_b_1 : List Int) : Option (Bool) := if (l_a_0.length : Int) ≠ (l_b_1.length : Int) then (some false) else ((valiselaw5_sameBytes.l1 FU 0 l_a_0 l_b_1).bind fun (yj2 : Sum (Bool) (Unit)) => onR yj2 (fun r => some r) fun () => some true)
/-! valise/valiselaw5.CodeWrites -/
def valiselaw5_CodeWrites.l1 : Nat → List Int → List Int → Int → Int → List Int → List Int → List Int → List Int → List Int → List Int → List Int → Option (Sum (Bool) (List Int × List Int × Int))
  | 0, _, _, _, _, _, _, _, _, _, _, _ => none
  | k + 1, l529, l532, y533, i_534, l_symbols_2, z137, z138, z139, z140, z142, z143 => if i_534 < (l_symbols_2.length : Int) then (gd ((0 : Int) ≤ i_534 ∧ i_534 < (l_symbols_2.length : Int)) ((code_Encoder_Put.f z137 z138 z139 z140 l529 y533 (rd l_symbols_2 i_534)).bind fun (z545, z546, z547) => (valiseref5_Encoder_Put.f z142 z143 l532 (rd l_symbols_2 i_534)).bind fun (z556, z557) => (if z545 ≠ z556 then (some true) else ((code_Encoder_Len.f z137 z138 z139 z140 (rd l_symbols_2 i_534)).bind fun z578 => (valiseref5_Encoder_Len.f z142 z143 (rd l_symbols_2 i_534)).bind fun z581 => some (decide (z578 ≠ z581)))).bind fun b571 => (if b571 = true then (some true) else ((bits_Writer_Len.f z546 z547).bind fun z595 => (valiseref3_Writer_Len.f z557).bind fun z598 => some (decide (z595 ≠ z598)))).bind fun b588 => if b588 = true then (some (.inl false)) else (bnd (IntKind.i64.wrap (i_534 + 1)) fun x603 => valiselaw5_CodeWrites.l1 k z546 z557 z547 x603 l_symbols_2 z137 z138 z139 z140 z142 z143))) else (some (.inr (l529, l532, y533)))
def valiselaw5_CodeWrites.f (l_lens_0 : List Int) (lead_1 : Int) (l_symbols_2 : List Int) : Option (Bool) := (valiselaw5_framed.f l_lens_0).bind fun z5 => gd ((0 : Int) ≤ (l_lens_0.length : Int) ∧ (l_lens_0.length : Int) ≤ (z5.length : Int)) ((code_NewEncoder.f (z5.take ((l_lens_0.length : Int) : Int).toNat)).bind fun (z17, z18) => (valiseref5_NewEncoder.f l_lens_0).bind fun (z33, z34) => (if z18 ≠ z34 then (some true) else (some (!(z17.isNone == z33.isNone)))).bind fun b51 => (if b51 = true then (some true) else ((valiselaw5_whole.f z5 l_lens_0).bind fun z69 => some (!z69))).bind fun b62 => if b62 = true then (some false) else ((if z17.isNone = true then (some true) else (some z33.isNone)).bind fun b75 => if b75 = true then (some true) else ((valiselaw5_spoil_v0.f z5 (((l_lens_0.length : Int) : Int).toNat)).bind fun z86 => (bits_NewWriter.f).bind fun (z95, z96) => (valiseref3_NewWriter.f).bind fun z108 => (bits_Writer_Put.f z95 z96 0 lead_1).bind fun (z120, z121, z122) => (valiseref3_Writer_Put.f z108 0 lead_1).bind fun (z131, z132) => onO z17 none fun (z137, z138, z139, z140) => onO z33 none fun (z142, z143) => (valiselaw5_CodeWrites.l1 FU z121 z132 z122 0 l_symbols_2 z137 z138 z139 z140 z142 z143).bind fun (yj145 : Sum (Bool) (List Int × List Int × Int)) => onR yj145 (fun r => some r) fun (l374, l377, y378) => (bits_Writer_Bytes.f l374 y378).bind fun z611 => (valiseref3_Writer_Bytes.f l377).bind fun z621 => (valiselaw5_sameBytes.f z611 z621).bind fun z629 => some z629)))
end Go.V.Pu
