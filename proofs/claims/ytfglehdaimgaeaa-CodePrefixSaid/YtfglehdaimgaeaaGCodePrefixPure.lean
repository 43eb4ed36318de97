import Derived.Test.YtfglehdaimgaeaaV13
set_option linter.unusedVariables false
namespace Go.V.Pu
open Go Go.V

/-! valise/valiselaw5.copied -/
def valiselaw5_copied.f (l_l_0 : List Int) : Option (List Int) := gd ((0 : Int) ≤ (l_l_0.length : Int) ∧ (l_l_0.length : Int) ≤ (IntKind.i64.wrap ((l_l_0.length : Int) + 4))) (gd ((IntKind.i64.wrap ((l_l_0.length : Int) + 4)) * 8 ≤ 281474976710656) (bnd (List.replicate ((l_l_0.length : Int) : Int).toNat (0 : Int)) fun l6 => bnd (cpy l6 l_l_0) fun l13 => some l13))
/-! valise/code.count -/
def code_count.l1 : Nat → List Int → Int → List Int → Option (Sum (List Int × Int) (List Int))
  | 0, _, _, _ => none
  | k + 1, y129, t130, l_lens_0 => if t130 < (l_lens_0.length : Int) then (gd ((0 : Int) ≤ t130 ∧ t130 < (l_lens_0.length : Int)) (bnd (rd l_lens_0 t130) fun x137 => if (x137 < 0) ∨ (15 < x137) then (some (.inl ((List.replicate 16 (0 : Int)), 50))) else (gd ((0 : Int) ≤ x137 ∧ x137 < (16 : Int)) (gd (y129.length = 16) (bnd (y129.set (x137 : Int).toNat (IntKind.i64.wrap ((rd y129 x137) + 1))) fun l151 => code_count.l1 k l151 (IntKind.i64.wrap (t130 + 1)) l_lens_0))))) else (some (.inr y129))
def code_count.f (l_lens_0 : List Int) : Option (List Int × Int) := if 288 < (l_lens_0.length : Int) then (some ((List.replicate 16 (0 : Int)), 1)) else ((code_count.l1 FU (List.replicate 16 (0 : Int)) 0 l_lens_0).bind fun (yj12 : Sum (List Int × Int) (List Int)) => onR yj12 (fun r => some r) fun y83 => gd (y83.length = 16) (bnd (y83.set (0 : Int).toNat 0) fun l158 => some (l158, 0)))
/-! valise/code.shape -/
def code_shape.l1 : Nat → Int → Int → Int → List Int → Option (Int × Int)
  | 0, _, _, _, _ => none
  | k + 1, words_77, used_78, l_79, l_n_0 => if l_79 ≤ 15 then (gd ((0 : Int) ≤ l_79 ∧ l_79 < (16 : Int)) (gd (l_n_0.length = 16) (bnd (IntKind.i64.wrap (words_77 + (rd l_n_0 l_79))) fun x87 => gd (¬ (IntKind.i64.wrap (15 - l_79)) < 0) (bnd (IntKind.i64.wrap (used_78 + (shl .i64 (rd l_n_0 l_79) (IntKind.i64.wrap (15 - l_79))))) fun x90 => bnd (IntKind.i64.wrap (l_79 + 1)) fun x92 => code_shape.l1 k x87 x90 x92 l_n_0)))) else (some (words_77, used_78))
def code_shape.f (l_n_0 : List Int) : Option (Int) := (code_shape.l1 FU 0 0 1 l_n_0).bind fun (words_49, used_50) => if words_49 = 0 then (some 0) else ((if words_49 = 1 then (gd (l_n_0.length = 16) (some (decide (rd l_n_0 1 = 1)))) else (some false)).bind fun b99 => if b99 = true then (some 1) else (if 32768 < used_50 then (some 3) else (if used_50 = 32768 then (some 4) else (some 2))))
/-! valise/code.first -/
def code_first.l1 : Nat → List Int → Int → Int → List Int → Option (List Int)
  | 0, _, _, _, _ => none
  | k + 1, y107, word_108, l_109, l_n_0 => if l_109 ≤ 15 then (gd ((0 : Int) ≤ (IntKind.i64.wrap (l_109 - 1)) ∧ (IntKind.i64.wrap (l_109 - 1)) < (16 : Int)) (gd (l_n_0.length = 16) (bnd (shl .i64 (IntKind.i64.wrap (word_108 + (rd l_n_0 (IntKind.i64.wrap (l_109 - 1))))) 1) fun x117 => gd ((0 : Int) ≤ l_109 ∧ l_109 < (16 : Int)) (gd (y107.length = 16) (bnd (y107.set (l_109 : Int).toNat x117) fun l123 => bnd (IntKind.i64.wrap (l_109 + 1)) fun x127 => code_first.l1 k l123 x117 x127 l_n_0))))) else (some y107)
def code_first.f (l_n_0 : List Int) : Option (List Int) := (code_first.l1 FU (List.replicate 16 (0 : Int)) 0 1 l_n_0).bind fun y71 => gd (y71.length = 16) (some y71)
/-! valise/code.words -/
def code_words.l1 : Nat → List Int → List Int → Int → List Int → Option (List Int)
  | 0, _, _, _, _ => none
  | k + 1, l246, y247, t248, l_lens_0 => if t248 < (l_lens_0.length : Int) then (gd ((0 : Int) ≤ t248 ∧ t248 < (l_lens_0.length : Int)) (bnd (rd l_lens_0 t248) fun x255 => (if 0 < x255 then (gd ((0 : Int) ≤ x255 ∧ x255 < (16 : Int)) (gd (y247.length = 16) (gd ((0 : Int) ≤ t248 ∧ t248 < (l246.length : Int)) (bnd (l246.set (t248 : Int).toNat (rd y247 x255)) fun l284 => bnd (y247.set (x255 : Int).toNat (IntKind.i64.wrap ((rd y247 x255) + 1))) fun l289 => some (l284, l289))))) else (some (l246, y247))).bind fun (l274, y275) => code_words.l1 k l274 y275 (IntKind.i64.wrap (t248 + 1)) l_lens_0)) else (some l246)
def code_words.f (l_lens_0 : List Int) (l_next_1 : List Int) : Option (List Int) := gd ((0 : Int) ≤ (l_lens_0.length : Int) ∧ (l_lens_0.length : Int) * 8 ≤ 281474976710656) (bnd (List.replicate ((l_lens_0.length : Int) : Int).toNat (0 : Int)) fun l9 => (code_words.l1 FU l9 l_next_1 0 l_lens_0).bind fun l154 => some l154)
/-! valise/code.Codes -/
def code_Codes.f (l_lens_0 : List Int) : Option (List Int × Int) := (code_count.f l_lens_0).bind fun (z5, z6) => gd (z5.length = 16) (if z6 ≠ 0 then (some (([] : List Int), z6)) else ((code_shape.f z5).bind fun z21 => if z21 = 3 then (some (([] : List Int), 51)) else ((code_first.f z5).bind fun z32 => (code_words.f l_lens_0 z32).bind fun z39 => some (z39, 0))))
/-! valise/valiselaw5.num -/
def valiselaw5_num.f (e_0 : Int) : Option (Int) := some e_0
/-! valise/valiselaw5.begins -/
def valiselaw5_begins.l1 : Nat → Int → Int → Int → Option (Int)
  | 0, _, _, _ => none
  | k + 1, b_45, i_46, m_3 => if i_46 < m_3 then (bnd (IntKind.i64.wrap (Int.tdiv b_45 2)) fun x51 => bnd (IntKind.i64.wrap (i_46 + 1)) fun x53 => valiselaw5_begins.l1 k x51 x53 m_3) else (some b_45)
def valiselaw5_begins.f (a_0 : Int) (l_1 : Int) (b_2 : Int) (m_3 : Int) : Option (Bool) := (valiselaw5_begins.l1 FU b_2 l_1 m_3).bind fun b_28 => some (decide (a_0 = b_28))
/-! valise/valiselaw5.apart -/
def valiselaw5_apart.f (l_0 : Int) (a_1 : Int) (m_2 : Int) (b_3 : Int) (earlier_4 : Bool) : Option (Bool) := if ((l_0 = 0) ∨ (m_2 = 0)) ∨ (m_2 < l_0) then (some true) else ((valiselaw5_begins.f a_1 l_0 b_3 m_2).bind fun z12 => if z12 = true then (some false) else (gd (¬ (IntKind.u64.wrap (IntKind.i64.wrap (15 - l_0))) < 0) (gd (¬ (IntKind.u64.wrap (IntKind.i64.wrap (15 - m_2))) < 0) ((if l_0 < m_2 then (some true) else (some earlier_4)).bind fun b19 => some (decide (shl .i64 a_1 (IntKind.u64.wrap (IntKind.i64.wrap (15 - l_0))) < shl .i64 b_3 (IntKind.u64.wrap (IntKind.i64.wrap (15 - m_2)))) == b19)))))
/-! valise/valiselaw5.CodePrefix -/
def valiselaw5_CodePrefix.l1 : Nat → Int → Int → List Int → List Int → Int → Option (Sum (Bool) (Int))
  | 0, _, _, _, _, _ => none
  | k + 1, sum_271, i_272, l_lens_0, z15, z16 => if i_272 < (l_lens_0.length : Int) then ((if 288 < (l_lens_0.length : Int) then (some true) else (gd ((0 : Int) ≤ i_272 ∧ i_272 < (l_lens_0.length : Int)) (some (decide (rd l_lens_0 i_272 < 0))))).bind fun b279 => (if b279 = true then (some true) else (gd ((0 : Int) ≤ i_272 ∧ i_272 < (l_lens_0.length : Int)) (some (decide (15 < rd l_lens_0 i_272))))).bind fun b288 => if b288 = true then (some (.inl (decide ((z16 ≠ 0) ∧ ((z15.length : Int) = 0))))) else (gd ((0 : Int) ≤ i_272 ∧ i_272 < (l_lens_0.length : Int)) ((if 0 < rd l_lens_0 i_272 then (gd (¬ (IntKind.u64.wrap (IntKind.i64.wrap (15 - (rd l_lens_0 i_272)))) < 0) (bnd (IntKind.i64.wrap (sum_271 + (shl .i64 1 (IntKind.u64.wrap (IntKind.i64.wrap (15 - (rd l_lens_0 i_272))))))) fun x316 => some x316)) else (some sum_271)).bind fun sum_313 => bnd (IntKind.i64.wrap (i_272 + 1)) fun x320 => valiselaw5_CodePrefix.l1 k sum_313 x320 l_lens_0 z15 z16))) else (some (.inr sum_271))
def valiselaw5_CodePrefix.l15 : Nat → Int → List Int → List Int → Int → Option (Sum (Bool) (Unit))
  | 0, _, _, _, _ => none
  | k + 1, j_1298, l_lens_0, z15, i_1156 => if j_1298 < (l_lens_0.length : Int) then (gd ((0 : Int) ≤ i_1156 ∧ i_1156 < (l_lens_0.length : Int)) (gd ((0 : Int) ≤ j_1298 ∧ j_1298 < (l_lens_0.length : Int)) (gd ((0 : Int) ≤ j_1298 ∧ j_1298 < (z15.length : Int)) ((valiselaw5_apart.f (rd l_lens_0 i_1156) (rd z15 i_1156) (rd l_lens_0 j_1298) (rd z15 j_1298) (decide (i_1156 < j_1298))).bind fun z1311 => (if i_1156 ≠ j_1298 then (some (!z1311)) else (some false)).bind fun b1315 => if b1315 = true then (some (.inl false)) else (bnd (IntKind.i64.wrap (j_1298 + 1)) fun x1321 => valiselaw5_CodePrefix.l15 k x1321 l_lens_0 z15 i_1156))))) else (some (.inr ()))
def valiselaw5_CodePrefix.l13 : Nat → Int → List Int → List Int → Option (Sum (Bool) (Unit))
  | 0, _, _, _ => none
  | k + 1, i_1156, l_lens_0, z15 => if i_1156 < (l_lens_0.length : Int) then (gd ((0 : Int) ≤ i_1156 ∧ i_1156 < (z15.length : Int)) ((if rd z15 i_1156 < 0 then (some true) else (gd ((0 : Int) ≤ i_1156 ∧ i_1156 < (l_lens_0.length : Int)) (gd (¬ (IntKind.u64.wrap (rd l_lens_0 i_1156)) < 0) (some (decide (shl .i64 1 (IntKind.u64.wrap (rd l_lens_0 i_1156)) ≤ rd z15 i_1156)))))).bind fun b1166 => if b1166 = true then (some (.inl false)) else ((valiselaw5_CodePrefix.l15 FU 0 l_lens_0 z15 i_1156).bind fun (yj1178 : Sum (Bool) (Unit)) => onR yj1178 (fun r => some (.inl r)) fun () => bnd (IntKind.i64.wrap (i_1156 + 1)) fun x1325 => valiselaw5_CodePrefix.l13 k x1325 l_lens_0 z15))) else (some (.inr ()))
def valiselaw5_CodePrefix.f (l_lens_0 : List Int) : Option (Bool) := (valiselaw5_copied.f l_lens_0).bind fun z5 => (code_Codes.f z5).bind fun (z15, z16) => (valiselaw5_CodePrefix.l1 FU 0 0 l_lens_0 z15 z16).bind fun (yj22 : Sum (Bool) (Int)) => onR yj22 (fun r => some r) fun sum_172 => if 32768 < sum_172 then (some (decide ((z16 = 51) ∧ ((z15.length : Int) = 0)))) else (if (z16 ≠ 0) ∨ ((z15.length : Int) ≠ (l_lens_0.length : Int)) then (some false) else ((valiselaw5_CodePrefix.l13 FU 0 l_lens_0 z15).bind fun (yj346 : Sum (Bool) (Unit)) => onR yj346 (fun r => some r) fun () => (code_Codes.f [1, 1, 1]).bind fun (z1338, z1339) => some (decide (z1339 = 51))))
end Go.V.Pu
