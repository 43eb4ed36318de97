import Derived.Test.YtfglehdaimgaeaaV13
set_option linter.unusedVariables false
namespace Go.V.Pu
open Go Go.V

/-! valise/valiselaw5.copied -/
def valiselaw5_copied.f (l_l_0 : List Int) : Option (List Int) := gd ((0 : Int) ≤ (l_l_0.length : Int) ∧ (l_l_0.length : Int) ≤ (IntKind.i64.wrap ((l_l_0.length : Int) + 4))) (gd ((IntKind.i64.wrap ((l_l_0.length : Int) + 4)) * 8 ≤ 281474976710656) (bnd (List.replicate ((l_l_0.length : Int) : Int).toNat (0 : Int)) fun l6 => bnd (cpy l6 l_l_0) fun l13 => some l13))
/-! valise/valiselaw5.framed -/
def valiselaw5_framed.f (l_l_0 : List Int) : Option (List Int) := (valiselaw5_copied.f l_l_0).bind fun z5 => bnd (z5 ++ [(-71), (-72), (-73)]) fun l18 => gd ((l18.length : Int) * 8 ≤ 140737488355328) (some l18)
/-! valise/code.count -/
def code_count.l1 : Nat → List Int → Int → List Int → Option (Sum (List Int × Int) (List Int))
  | 0, _, _, _ => none
  | k + 1, y129, t130, l_lens_0 => if t130 < (l_lens_0.length : Int) then (gd ((0 : Int) ≤ t130 ∧ t130 < (l_lens_0.length : Int)) (bnd (rd l_lens_0 t130) fun x137 => if (x137 < 0) ∨ (15 < x137) then (some (.inl ((List.replicate 16 (0 : Int)), 50))) else (gd ((0 : Int) ≤ x137 ∧ x137 < (16 : Int)) (gd (y129.length = 16) (bnd (y129.set (x137 : Int).toNat (IntKind.i64.wrap ((rd y129 x137) + 1))) fun l151 => code_count.l1 k l151 (IntKind.i64.wrap (t130 + 1)) l_lens_0))))) else (some (.inr y129))
def code_count.f (l_lens_0 : List Int) : Option (List Int × Int) := if 288 < (l_lens_0.length : Int) then (some ((List.replicate 16 (0 : Int)), 1)) else ((code_count.l1 FU (List.replicate 16 (0 : Int)) 0 l_lens_0).bind fun (yj12 : Sum (List Int × Int) (List Int)) => onR yj12 (fun r => some r) fun y83 => gd (y83.length = 16) (bnd (y83.set (0 : Int).toNat 0) fun l158 => some (l158, 0)))
/-! valise/code.shape -/
def code_shape.l1 : Nat → Int → Int → Int → List Int → Option (Int × Int)
  | 0, _, _, _, _ => none
  | k + 1, words_77, used_78, l_79, l_n_0 => if l_79 ≤ 15 then (gd ((0 : Int) ≤ l_79 ∧ l_79 < (16 : Int)) (gd (l_n_0.length = 16) (bnd (IntKind.i64.wrap (words_77 + (rd l_n_0 l_79))) fun x87 => gd (¬ (IntKind.i64.wrap (15 - l_79)) < 0) (bnd (IntKind.i64.wrap (used_78 + (shl .i64 (rd l_n_0 l_79) (IntKind.i64.wrap (15 - l_79))))) fun x90 => bnd (IntKind.i64.wrap (l_79 + 1)) fun x92 => code_shape.l1 k x87 x90 x92 l_n_0)))) else (some (words_77, used_78))
def code_shape.f (l_n_0 : List Int) : Option (Int) := (code_shape.l1 FU 0 0 1 l_n_0).bind fun (words_49, used_50) => if words_49 = 0 then (some 0) else ((if words_49 = 1 then (gd (l_n_0.length = 16) (some (decide (rd l_n_0 1 = 1)))) else (some false)).bind fun b99 => if b99 = true then (some 1) else (if 32768 < used_50 then (some 3) else (if used_50 = 32768 then (some 4) else (some 2))))
/-! valise/code.Check -/
def code_Check.f (l_lens_0 : List Int) : Option (Int × Int) := (code_count.f l_lens_0).bind fun (z5, z6) => gd (z5.length = 16) (if z6 ≠ 0 then (some (0, z6)) else ((code_shape.f z5).bind fun z19 => some (z19, 0)))
/-! valise/valiseref5.valid -/
def valiseref5_valid.l1 : Nat → Int → List Int → Option (Sum (Int) (Unit))
  | 0, _, _ => none
  | k + 1, i_67, l_lens_0 => if i_67 < (l_lens_0.length : Int) then (gd ((0 : Int) ≤ i_67 ∧ i_67 < (l_lens_0.length : Int)) (if (rd l_lens_0 i_67 < 0) ∨ (15 < rd l_lens_0 i_67) then (some (.inl 50)) else (bnd (IntKind.i64.wrap (i_67 + 1)) fun x79 => valiseref5_valid.l1 k x79 l_lens_0))) else (some (.inr ()))
def valiseref5_valid.f (l_lens_0 : List Int) : Option (Int) := if 288 < (l_lens_0.length : Int) then (some 1) else ((valiseref5_valid.l1 FU 0 l_lens_0).bind fun (yj2 : Sum (Int) (Unit)) => onR yj2 (fun r => some r) fun () => some 0)
/-! valise/valiseref5.rows -/
def valiseref5_rows.l1 : Nat → Int → Int → Option (Int)
  | 0, _, _ => none
  | k + 1, n_45, i_46 => if i_46 < 15 then (bnd (IntKind.i64.wrap (2 * n_45)) fun x51 => bnd (IntKind.i64.wrap (i_46 + 1)) fun x53 => valiseref5_rows.l1 k x51 x53 ) else (some n_45)
def valiseref5_rows.f (l_0 : Int) : Option (Int) := (valiseref5_rows.l1 FU 1 l_0 ).bind fun n_28 => some n_28
/-! valise/valiseref5.used -/
def valiseref5_used.l1 : Nat → Int → Int → Int → List Int → Option (Int × Int)
  | 0, _, _, _, _ => none
  | k + 1, sum_184, n_185, i_186, l_lens_0 => if i_186 < (l_lens_0.length : Int) then (gd ((0 : Int) ≤ i_186 ∧ i_186 < (l_lens_0.length : Int)) ((if 0 < rd l_lens_0 i_186 then ((valiseref5_rows.f (rd l_lens_0 i_186)).bind fun z210 => bnd (IntKind.i64.wrap (sum_184 + z210)) fun x214 => bnd (IntKind.i64.wrap (n_185 + 1)) fun x216 => some (x214, x216)) else (some (sum_184, n_185))).bind fun (sum_205, n_206) => bnd (IntKind.i64.wrap (i_186 + 1)) fun x220 => valiseref5_used.l1 k sum_205 n_206 x220 l_lens_0)) else (some (sum_184, n_185))
def valiseref5_used.f (l_lens_0 : List Int) : Option (Int × Int) := (valiseref5_used.l1 FU 0 0 0 l_lens_0).bind fun (sum_111, n_112) => some (sum_111, n_112)
/-! valise/valiseref5.Check -/
def valiseref5_Check.f (l_lens_0 : List Int) : Option (Int × Int) := (valiseref5_valid.f l_lens_0).bind fun z3 => if z3 ≠ 0 then (some (0, z3)) else ((valiseref5_used.f l_lens_0).bind fun (z10, z11) => if z11 = 0 then (some (0, 0)) else (if (z11 = 1) ∧ (z10 = 16384) then (some (1, 0)) else (if 32768 < z10 then (some (3, 0)) else (if z10 = 32768 then (some (4, 0)) else (some (2, 0))))))
/-! valise/valiselaw5.num -/
def valiselaw5_num.f (e_0 : Int) : Option (Int) := some e_0
/-! valise/valiselaw5.same -/
def valiselaw5_same.l1 : Nat → Int → List Int → List Int → Option (Sum (Bool) (Unit))
  | 0, _, _, _ => none
  | k + 1, i_72, l_a_0, l_b_1 => if i_72 < (l_a_0.length : Int) then (gd ((0 : Int) ≤ i_72 ∧ i_72 < (l_a_0.length : Int)) (gd ((0 : Int) ≤ i_72 ∧ i_72 < (l_b_1.length : Int)) (if rd l_a_0 i_72 ≠ rd l_b_1 i_72 then (some (.inl false)) else (bnd (IntKind.i64.wrap (i_72 + 1)) fun x85 => valiselaw5_same.l1 k x85 l_a_0 l_b_1)))) else (some (.inr ()))
def valiselaw5_same.f (l_a_0 : List Int) (l_b_1 : List Int) : Option (Bool) := if (l_a_0.length : Int) ≠ (l_b_1.length : Int) then (some false) else ((valiselaw5_same.l1 FU 0 l_a_0 l_b_1).bind fun (yj2 : Sum (Bool) (Unit)) => onR yj2 (fun r => some r) fun () => some true)
/-! valise/valiselaw5.whole -/
def valiselaw5_whole.f (l_m_0 : List Int) (l_l_1 : List Int) : Option (Bool) := bnd ((l_l_1.length : Int)) fun x1 => (if (l_m_0.length : Int) ≠ IntKind.i64.wrap (x1 + 3) then (some true) else (gd ((0 : Int) ≤ x1 ∧ x1 < (l_m_0.length : Int)) (some (decide (rd l_m_0 x1 ≠ (-71)))))).bind fun b5 => (if b5 = true then (some true) else (gd ((0 : Int) ≤ (IntKind.i64.wrap (x1 + 1)) ∧ (IntKind.i64.wrap (x1 + 1)) < (l_m_0.length : Int)) (some (decide (rd l_m_0 (IntKind.i64.wrap (x1 + 1)) ≠ (-72)))))).bind fun b14 => (if b14 = true then (some true) else (gd ((0 : Int) ≤ (IntKind.i64.wrap (x1 + 2)) ∧ (IntKind.i64.wrap (x1 + 2)) < (l_m_0.length : Int)) (some (decide (rd l_m_0 (IntKind.i64.wrap (x1 + 2)) ≠ (-73)))))).bind fun b23 => if b23 = true then (some false) else (gd ((0 : Int) ≤ x1 ∧ x1 ≤ (l_m_0.length : Int)) ((valiselaw5_same.f (l_m_0.take (x1 : Int).toNat) l_l_1).bind fun z35 => some z35))
/-! valise/valiselaw5.CodeChecks -/
def valiselaw5_CodeChecks.f (l_lens_0 : List Int) : Option (Bool) := (valiselaw5_framed.f l_lens_0).bind fun z5 => gd ((0 : Int) ≤ (l_lens_0.length : Int) ∧ (l_lens_0.length : Int) ≤ (z5.length : Int)) ((code_Check.f (z5.take ((l_lens_0.length : Int) : Int).toNat)).bind fun (z15, z16) => (valiseref5_Check.f l_lens_0).bind fun (z22, z23) => (if (z15 = z22) ∧ (z16 = z23) then ((valiselaw5_whole.f z5 l_lens_0).bind fun z56 => some z56) else (some false)).bind fun b49 => some b49)
end Go.V.Pu
