import Derived.Test.YtfglehdaimgaeaaV15
set_option linter.unusedVariables false
namespace Go.V.Pu
open Go Go.V

/-! valise/valiselaw5.copied -/
def valiselaw5_copied.f (l_l_0 : List Int) : Option (List Int) := gd ((0 : Int) ≤ (l_l_0.length : Int) ∧ (l_l_0.length : Int) ≤ (IntKind.i64.wrap ((l_l_0.length : Int) + 4))) (gd ((IntKind.i64.wrap ((l_l_0.length : Int) + 4)) * 8 ≤ 281474976710656) (bnd (List.replicate ((l_l_0.length : Int) : Int).toNat (0 : Int)) fun l6 => bnd (cpy l6 l_l_0) fun l13 => some l13))
/-! valise/valiselaw5.framed -/
def valiselaw5_framed.f (l_l_0 : List Int) : Option (List Int) := (valiselaw5_copied.f l_l_0).bind fun z5 => bnd (z5 ++ [(-71), (-72), (-73)]) fun l18 => gd ((l18.length : Int) * 8 ≤ 140737488355328) (some l18)
/-! valise/code.count -/
def code_count.l1 : Nat → List Int → Int → List Int → Option (Sum (List Int × Int) (List Int))
  | 0, _, _, _ => none
  | k + 1, y129, t130, l_lens_0 => if t130 < (l_lens_0.length : Int) then (gd ((0 : Int) ≤ t130 ∧ t130 < (l_lens_0.length : Int)) (bnd (rd l_lens_0 t130) fun x137 => if (x137 < 0) ∨ (15 < x137) then (some (.inl ((List.replicate 16 (0 : Int)), 50))) else (gd ((0 : Int) ≤ x137 ∧ x137 < (16 : Int)) (gd (y129.length = 16) (bnd (y129.set (x137 : Int).toNat (IntKind.i64.wrap ((rd y129 x137) + 1))) fun l151 => code_count.l1 k l151 (IntKind.i64.wrap (t130 + 1)) l_lens_0))))) else (some (.inr y129))
def code_count.f (l_lens_0 : List Int) : Option (List Int × Int) := if 288 < (l_lens_0.length : Int) then (some ((List.replicate 16 (0 : Int)), 1)) else ((code_count.l1 FU (List.replicate 16 (0 : Int)) 0 l_lens_0).bind fun (yj12 : Sum (List Int × Int) (List Int)) => onR yj12 (fun r => some r) fun y83 => gd (y83.length = 16) (bnd (y83.set (0 : Int).toNat 0) fun l158 => some (l158, 0)))
/-! valise/code.shape -/
def code_shape.l1 : Nat → Int → Int → Int → List Int → Option (Int × Int)
  | 0, _, _, _, _ => none
  | k + 1, words_77, used_78, l_79, l_n_0 => if l_79 ≤ 15 then (gd ((0 : Int) ≤ l_79 ∧ l_79 < (16 : Int)) (gd (l_n_0.length = 16) (bnd (IntKind.i64.wrap (words_77 + (rd l_n_0 l_79))) fun x87 => gd (¬ (IntKind.i64.wrap (15 - l_79)) < 0) (bnd (IntKind.i64.wrap (used_78 + (shl .i64 (rd l_n_0 l_79) (IntKind.i64.wrap (15 - l_79))))) fun x90 => bnd (IntKind.i64.wrap (l_79 + 1)) fun x92 => code_shape.l1 k x87 x90 x92 l_n_0)))) else (some (words_77, used_78))
def code_shape.f (l_n_0 : List Int) : Option (Int) := (code_shape.l1 FU 0 0 1 l_n_0).bind fun (words_49, used_50) => if words_49 = 0 then (some 0) else ((if words_49 = 1 then (gd (l_n_0.length = 16) (some (decide (rd l_n_0 1 = 1)))) else (some false)).bind fun b99 => if b99 = true then (some 1) else (if 32768 < used_50 then (some 3) else (if used_50 = 32768 then (some 4) else (some 2))))
/-! valise/code.first -/
def code_first.l1 : Nat → List Int → Int → Int → List Int → Option (List Int)
  | 0, _, _, _, _ => none
  | k + 1, y107, word_108, l_109, l_n_0 => if l_109 ≤ 15 then (gd ((0 : Int) ≤ (IntKind.i64.wrap (l_109 - 1)) ∧ (IntKind.i64.wrap (l_109 - 1)) < (16 : Int)) (gd (l_n_0.length = 16) (bnd (shl .i64 (IntKind.i64.wrap (word_108 + (rd l_n_0 (IntKind.i64.wrap (l_109 - 1))))) 1) fun x117 => gd ((0 : Int) ≤ l_109 ∧ l_109 < (16 : Int)) (gd (y107.length = 16) (bnd (y107.set (l_109 : Int).toNat x117) fun l123 => bnd (IntKind.i64.wrap (l_109 + 1)) fun x127 => code_first.l1 k l123 x117 x127 l_n_0))))) else (some y107)
def code_first.f (l_n_0 : List Int) : Option (List Int) := (code_first.l1 FU (List.replicate 16 (0 : Int)) 0 1 l_n_0).bind fun y71 => gd (y71.length = 16) (some y71)
/-! valise/code.words -/
def code_words.l1 : Nat → List Int → List Int → Int → List Int → Option (List Int)
  | 0, _, _, _, _ => none
  | k + 1, l246, y247, t248, l_lens_0 => if t248 < (l_lens_0.length : Int) then (gd ((0 : Int) ≤ t248 ∧ t248 < (l_lens_0.length : Int)) (bnd (rd l_lens_0 t248) fun x255 => (if 0 < x255 then (gd ((0 : Int) ≤ x255 ∧ x255 < (16 : Int)) (gd (y247.length = 16) (gd ((0 : Int) ≤ t248 ∧ t248 < (l246.length : Int)) (bnd (l246.set (t248 : Int).toNat (rd y247 x255)) fun l284 => bnd (y247.set (x255 : Int).toNat (IntKind.i64.wrap ((rd y247 x255) + 1))) fun l289 => some (l284, l289))))) else (some (l246, y247))).bind fun (l274, y275) => code_words.l1 k l274 y275 (IntKind.i64.wrap (t248 + 1)) l_lens_0)) else (some l246)
def code_words.f (l_lens_0 : List Int) (l_next_1 : List Int) : Option (List Int) := gd ((0 : Int) ≤ (l_lens_0.length : Int) ∧ (l_lens_0.length : Int) * 8 ≤ 281474976710656) (bnd (List.replicate ((l_lens_0.length : Int) : Int).toNat (0 : Int)) fun l9 => (code_words.l1 FU l9 l_next_1 0 l_lens_0).bind fun l154 => some l154)
/-! valise/code.Codes -/
def code_Codes.f (l_lens_0 : List Int) : Option (List Int × Int) := (code_count.f l_lens_0).bind fun (z5, z6) => gd (z5.length = 16) (if z6 ≠ 0 then (some (([] : List Int), z6)) else ((code_shape.f z5).bind fun z21 => if z21 = 3 then (some (([] : List Int), 51)) else ((code_first.f z5).bind fun z32 => (code_words.f l_lens_0 z32).bind fun z39 => some (z39, 0))))
/-! valise/valiseref5.valid -/
def valiseref5_valid.l1 : Nat → Int → List Int → Option (Sum (Int) (Unit))
  | 0, _, _ => none
  | k + 1, i_67, l_lens_0 => if i_67 < (l_lens_0.length : Int) then (gd ((0 : Int) ≤ i_67 ∧ i_67 < (l_lens_0.length : Int)) (if (rd l_lens_0 i_67 < 0) ∨ (15 < rd l_lens_0 i_67) then (some (.inl 50)) else (bnd (IntKind.i64.wrap (i_67 + 1)) fun x79 => valiseref5_valid.l1 k x79 l_lens_0))) else (some (.inr ()))
def valiseref5_valid.f (l_lens_0 : List Int) : Option (Int) := if 288 < (l_lens_0.length : Int) then (some 1) else ((valiseref5_valid.l1 FU 0 l_lens_0).bind fun (yj2 : Sum (Int) (Unit)) => onR yj2 (fun r => some r) fun () => some 0)
/-! valise/valiseref5.rows -/
def valiseref5_rows.l1 : Nat → Int → Int → Option (Int)
  | 0, _, _ => none
  | k + 1, n_45, i_46 => if i_46 < 15 then (bnd (IntKind.i64.wrap (2 * n_45)) fun x51 => bnd (IntKind.i64.wrap (i_46 + 1)) fun x53 => valiseref5_rows.l1 k x51 x53 ) else (some n_45)
def valiseref5_rows.f (l_0 : Int) : Option (Int) := (valiseref5_rows.l1 FU 1 l_0 ).bind fun n_28 => some n_28
/-! valise/valiseref5.used -/
def valiseref5_used.l1 : Nat → Int → Int → Int → List Int → Option (Int × Int)
  | 0, _, _, _, _ => none
  | k + 1, sum_184, n_185, i_186, l_lens_0 => if i_186 < (l_lens_0.length : Int) then (gd ((0 : Int) ≤ i_186 ∧ i_186 < (l_lens_0.length : Int)) ((if 0 < rd l_lens_0 i_186 then ((valiseref5_rows.f (rd l_lens_0 i_186)).bind fun z210 => bnd (IntKind.i64.wrap (sum_184 + z210)) fun x214 => bnd (IntKind.i64.wrap (n_185 + 1)) fun x216 => some (x214, x216)) else (some (sum_184, n_185))).bind fun (sum_205, n_206) => bnd (IntKind.i64.wrap (i_186 + 1)) fun x220 => valiseref5_used.l1 k sum_205 n_206 x220 l_lens_0)) else (some (sum_184, n_185))
def valiseref5_used.f (l_lens_0 : List Int) : Option (Int × Int) := (valiseref5_used.l1 FU 0 0 0 l_lens_0).bind fun (sum_111, n_112) => some (sum_111, n_112)
/-! valise/valiseref5.Check -/
def valiseref5_Check.f (l_lens_0 : List Int) : Option (Int × Int) := (valiseref5_valid.f l_lens_0).bind fun z3 => if z3 ≠ 0 then (some (0, z3)) else ((valiseref5_used.f l_lens_0).bind fun (z10, z11) => if z11 = 0 then (some (0, 0)) else (if (z11 = 1) ∧ (z10 = 16384) then (some (1, 0)) else (if 32768 < z10 then (some (3, 0)) else (if z10 = 32768 then (some (4, 0)) else (some (2, 0))))))
/-! valise/valiseref5.Codes -/
def valiseref5_Codes.l13 : Nat → List Int → Int → Int → List Int → Int → Option (List Int × Int)
  | 0, _, _, _, _, _ => none
  | k + 1, l1305, next_1306, s_1307, l_lens_0, l_1125 => if s_1307 < (l_lens_0.length : Int) then (gd ((0 : Int) ≤ s_1307 ∧ s_1307 < (l_lens_0.length : Int)) ((if rd l_lens_0 s_1307 = l_1125 then (gd ((0 : Int) ≤ s_1307 ∧ s_1307 < (l1305.length : Int)) (bnd (l1305.set (s_1307 : Int).toNat next_1306) fun l1332 => bnd (IntKind.i64.wrap (next_1306 + 1)) fun x1335 => some (l1332, x1335))) else (some (l1305, next_1306))).bind fun (l1325, next_1326) => bnd (IntKind.i64.wrap (s_1307 + 1)) fun x1339 => valiseref5_Codes.l13 k l1325 next_1326 x1339 l_lens_0 l_1125)) else (some (l1305, next_1306))
def valiseref5_Codes.l11 : Nat → List Int → Int → Int → List Int → Option (List Int)
  | 0, _, _, _, _ => none
  | k + 1, l1123, next_1124, l_1125, l_lens_0 => if l_1125 ≤ 15 then (bnd (IntKind.i64.wrap (2 * next_1124)) fun x1130 => (valiseref5_Codes.l13 FU l1123 x1130 0 l_lens_0 l_1125).bind fun (l1236, next_1237) => bnd (IntKind.i64.wrap (l_1125 + 1)) fun x1343 => valiseref5_Codes.l11 k l1236 next_1237 x1343 l_lens_0) else (some l1123)
def valiseref5_Codes.f (l_lens_0 : List Int) : Option (List Int × Int) := (valiseref5_Check.f l_lens_0).bind fun (z3, z4) => if z4 ≠ 0 then (some (([] : List Int), z4)) else (if z3 = 3 then (some (([] : List Int), 51)) else (gd ((0 : Int) ≤ (l_lens_0.length : Int) ∧ (l_lens_0.length : Int) * 8 ≤ 281474976710656) (bnd (List.replicate ((l_lens_0.length : Int) : Int).toNat (0 : Int)) fun l18 => (valiseref5_Codes.l11 FU l18 0 1 l_lens_0).bind fun l684 => some (l684, 0))))
/-! valise/valiselaw5.num -/
def valiselaw5_num.f (e_0 : Int) : Option (Int) := some e_0
/-! valise/valiselaw5.same -/
def valiselaw5_same.l1 : Nat → Int → List Int → List Int → Option (Sum (Bool) (Unit))
  | 0, _, _, _ => none
  | k + 1, i_72, l_a_0, l_b_1 => if i_72 < (l_a_0.length : Int) then (gd ((0 : Int) ≤ i_72 ∧ i_72 < (l_a_0.length : Int)) (gd ((0 : Int) ≤ i_72 ∧ i_72 < (l_b_1.length : Int)) (if rd l_a_0 i_72 ≠ rd l_b_1 i_72 then (some (.inl false)) else (bnd (IntKind.i64.wrap (i_72 + 1)) fun x85 => valiselaw5_same.l1 k x85 l_a_0 l_b_1)))) else (some (.inr ()))
def valiselaw5_same.f (l_a_0 : List Int) (l_b_1 : List Int) : Option (Bool) := if (l_a_0.length : Int) ≠ (l_b_1.length : Int) then (some false) else ((valiselaw5_same.l1 FU 0 l_a_0 l_b_1).bind fun (yj2 : Sum (Bool) (Unit)) => onR yj2 (fun r => some r) fun () => some true)
/-! valise/valiselaw5.whole -/
def valiselaw5_whole.f (l_m_0 : List Int) (l_l_1 : List Int) : Option (Bool) := bnd ((l_l_1.length : Int)) fun x1 => (if (l_m_0.length : Int) ≠ IntKind.i64.wrap (x1 + 3) then (some true) else (gd ((0 : Int) ≤ x1 ∧ x1 < (l_m_0.length : Int)) (some (decide (rd l_m_0 x1 ≠ (-71)))))).bind fun b5 => (if b5 = true then (some true) else (gd ((0 : Int) ≤ (IntKind.i64.wrap (x1 + 1)) ∧ (IntKind.i64.wrap (x1 + 1)) < (l_m_0.length : Int)) (some (decide (rd l_m_0 (IntKind.i64.wrap (x1 + 1)) ≠ (-72)))))).bind fun b14 => (if b14 = true then (some true) else (gd ((0 : Int) ≤ (IntKind.i64.wrap (x1 + 2)) ∧ (IntKind.i64.wrap (x1 + 2)) < (l_m_0.length : Int)) (some (decide (rd l_m_0 (IntKind.i64.wrap (x1 + 2)) ≠ (-73)))))).bind fun b23 => if b23 = true then (some false) else (gd ((0 : Int) ≤ x1 ∧ x1 ≤ (l_m_0.length : Int)) ((valiselaw5_same.f (l_m_0.take (x1 : Int).toNat) l_l_1).bind fun z35 => some z35))
/-! valise/valiselaw5.spoil -/
def valiselaw5_spoil.l1 : Nat → List Int → Int → Option (List Int)
  | 0, _, _ => none
  | k + 1, l70, i_71 => if i_71 < (l70.length : Int) then (gd ((0 : Int) ≤ i_71 ∧ i_71 < (l70.length : Int)) (bnd (l70.set (i_71 : Int).toNat 9) fun l80 => bnd (IntKind.i64.wrap (i_71 + 1)) fun x83 => valiselaw5_spoil.l1 k l80 x83 )) else (some l70)
def valiselaw5_spoil.f (l_l_0 : List Int) : Option (List Int) := (valiselaw5_spoil.l1 FU l_l_0 0 ).bind fun l43 => gd (l43.length = l_l_0.length) (some l43)
/-! valise/valiselaw5.backward -/
def valiselaw5_backward.l1 : Nat → List Int → Int → List Int → Option (List Int)
  | 0, _, _, _ => none
  | k + 1, l119, i_120, l_l_0 => if 0 ≤ i_120 then (gd ((0 : Int) ≤ i_120 ∧ i_120 < (l_l_0.length : Int)) (bnd (l119 ++ [rd l_l_0 i_120]) fun l134 => gd ((l134.length : Int) * 8 ≤ 140737488355328) (bnd (IntKind.i64.wrap (i_120 - 1)) fun x139 => valiselaw5_backward.l1 k l134 x139 l_l_0))) else (some l119)
def valiselaw5_backward.f (l_l_0 : List Int) : Option (List Int) := bnd (IntKind.i64.wrap ((l_l_0.length : Int) - 1)) fun x3 => (valiselaw5_backward.l1 FU ([] : List Int) x3 l_l_0).bind fun l74 => some l74
/-! valise/valiselaw5.apartInts -/
def valiselaw5_apartInts.l1 : Nat → List Int → Int → Option (List Int)
  | 0, _, _ => none
  | k + 1, l70, i_71 => if i_71 < (l70.length : Int) then (gd ((0 : Int) ≤ i_71 ∧ i_71 < (l70.length : Int)) (bnd (l70.set (i_71 : Int).toNat 9) fun l80 => bnd (IntKind.i64.wrap (i_71 + 1)) fun x83 => valiselaw5_apartInts.l1 k l80 x83 )) else (some l70)
def valiselaw5_apartInts.l3 : Nat → List Int → Int → Option (List Int)
  | 0, _, _ => none
  | k + 1, l156, i_157 => if i_157 < (l156.length : Int) then (gd ((0 : Int) ≤ i_157 ∧ i_157 < (l156.length : Int)) (bnd (l156.set (i_157 : Int).toNat 8) fun l166 => bnd (IntKind.i64.wrap (i_157 + 1)) fun x169 => valiselaw5_apartInts.l3 k l166 x169 )) else (some l156)
def valiselaw5_apartInts.l5 : Nat → Int → List Int → List Int → List Int → List Int → Option (Sum (Bool × List Int × List Int) (Unit))
  | 0, _, _, _, _, _ => none
  | k + 1, i_259, l_a_0, l_b_1, l43, l129 => if i_259 < (l43.length : Int) then (gd ((0 : Int) ≤ i_259 ∧ i_259 < (l43.length : Int)) (if rd l43 i_259 ≠ 9 then (gd (l43.length = l_a_0.length) (gd (l129.length = l_b_1.length) (some (.inl (false, l43, l129))))) else (bnd (IntKind.i64.wrap (i_259 + 1)) fun x269 => valiselaw5_apartInts.l5 k x269 l_a_0 l_b_1 l43 l129))) else (some (.inr ()))
def valiselaw5_apartInts.l7 : Nat → Int → List Int → List Int → List Int → List Int → Option (Sum (Bool × List Int × List Int) (Unit))
  | 0, _, _, _, _, _ => none
  | k + 1, i_330, l_a_0, l_b_1, l43, l129 => if i_330 < (l129.length : Int) then (gd ((0 : Int) ≤ i_330 ∧ i_330 < (l129.length : Int)) (if rd l129 i_330 ≠ 8 then (gd (l43.length = l_a_0.length) (gd (l129.length = l_b_1.length) (some (.inl (false, l43, l129))))) else (bnd (IntKind.i64.wrap (i_330 + 1)) fun x340 => valiselaw5_apartInts.l7 k x340 l_a_0 l_b_1 l43 l129))) else (some (.inr ()))
def valiselaw5_apartInts.f (l_a_0 : List Int) (l_b_1 : List Int) : Option (Bool × List Int × List Int) := (valiselaw5_apartInts.l1 FU l_a_0 0 ).bind fun l43 => (valiselaw5_apartInts.l3 FU l_b_1 0 ).bind fun l129 => bnd (l43 ++ [5]) fun l180 => gd ((l180.length : Int) * 8 ≤ 140737488355328) (bnd (l129 ++ [6]) fun l194 => gd ((l194.length : Int) * 8 ≤ 140737488355328) ((valiselaw5_apartInts.l5 FU 0 l_a_0 l_b_1 l43 l129).bind fun (yj202 : Sum (Bool × List Int × List Int) (Unit)) => onR yj202 (fun r => some r) fun () => (valiselaw5_apartInts.l7 FU 0 l_a_0 l_b_1 l43 l129).bind fun (yj283 : Sum (Bool × List Int × List Int) (Unit)) => onR yj283 (fun r => some r) fun () => gd ((0 : Int) ≤ (l43.length : Int) ∧ (l43.length : Int) < (l180.length : Int)) ((if rd l180 (l43.length : Int) = 5 then (gd ((0 : Int) ≤ (l129.length : Int) ∧ (l129.length : Int) < (l194.length : Int)) (some (decide (rd l194 (l129.length : Int) = 6)))) else (some false)).bind fun b368 => gd (l43.length = l_a_0.length) (gd (l129.length = l_b_1.length) (some (b368, l43, l129))))))
/-! valise/valiselaw5.CodeWords -/
def valiselaw5_CodeWords.f (l_lens_0 : List Int) : Option (Bool) := (valiselaw5_framed.f l_lens_0).bind fun z5 => gd ((0 : Int) ≤ (l_lens_0.length : Int) ∧ (l_lens_0.length : Int) ≤ (z5.length : Int)) ((code_Codes.f (z5.take ((l_lens_0.length : Int) : Int).toNat)).bind fun (z17, z18) => (valiseref5_Codes.f l_lens_0).bind fun (z28, z29) => (if z18 ≠ z29 then (some true) else ((valiselaw5_same.f z17 z28).bind fun z54 => some (!z54))).bind fun b47 => (if b47 = true then (some true) else ((valiselaw5_whole.f z5 l_lens_0).bind fun z71 => some (!z71))).bind fun b64 => if b64 = true then (some false) else ((code_Codes.f (z5.take ((l_lens_0.length : Int) : Int).toNat)).bind fun (z81, z82) => (code_Codes.f [1, 2, 2]).bind fun (z97, z98) => (valiselaw5_same.f z81 z28).bind fun z106 => (if (!z106) = true then (some true) else ((valiselaw5_same.f z17 z28).bind fun z123 => some (!z123))).bind fun b116 => if b116 = true then (some false) else ((valiselaw5_same.f z97 [0, 2, 3]).bind fun z136 => if (!z136) = true then (some false) else ((valiselaw5_spoil.f z17).bind fun z147 => (code_Codes.f (z5.take ((l_lens_0.length : Int) : Int).toNat)).bind fun (z156, z157) => (valiselaw5_same.f z81 z28).bind fun z165 => (if (!z165) = true then (some true) else ((valiselaw5_same.f z156 z28).bind fun z182 => some (!z182))).bind fun b175 => if b175 = true then (some false) else ((valiselaw5_same.f z97 [0, 2, 3]).bind fun z195 => (if (!z195) = true then (some true) else ((valiselaw5_whole.f z5 l_lens_0).bind fun z212 => some (!z212))).bind fun b205 => if b205 = true then (some false) else ((valiselaw5_backward.f l_lens_0).bind fun z222 => bnd (cpyV z5 ((l_lens_0.length : Int) : Int).toNat z222) fun l230 => (code_Codes.f (l230.take ((l_lens_0.length : Int) : Int).toNat)).bind fun (z237, z238) => (valiseref5_Codes.f z222).bind fun (z248, z249) => (valiselaw5_same.f z237 z248).bind fun z257 => (if (z257 = true) ∧ (z238 = z249) then ((valiselaw5_same.f z81 z28).bind fun z290 => some z290) else (some false)).bind fun b283 => (if b283 = true then ((valiselaw5_whole.f l230 z222).bind fun z307 => some z307) else (some false)).bind fun b300 => if b300 = true then ((valiselaw5_apartInts.f z147 z81).bind fun (z317, z318, z319) => if z317 = true then ((valiselaw5_apartInts.f z319 z156).bind fun (z331, z332, z333) => if z331 = true then ((valiselaw5_apartInts.f z333 z97).bind fun (z345, z346, z347) => if z345 = true then ((valiselaw5_apartInts.f z347 z237).bind fun (z359, z360, z361) => some z359) else (some false)) else (some false)) else (some false)) else (some false)))))))
end Go.V.Pu
