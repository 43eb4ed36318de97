import Derived.Test.YtbegkkmngkpjmaaV9
set_option linter.unusedVariables false
namespace Go.V.Pu
open Go Go.V

/-! valise/valiselaw6.copied -/
def valiselaw6_copied.l1 : Nat → List Int → Int → List Int → Option (List Int)
  | 0, _, _, _ => none
  | k + 1, l117, i_118, l_a_0 => if i_118 < (l_a_0.length : Int) then (gd ((0 : Int) ≤ i_118 ∧ i_118 < (l_a_0.length : Int)) (bnd (l117 ++ [rd l_a_0 i_118]) fun l132 => gd ((l132.length : Int) * 8 ≤ 140737488355328) (bnd (IntKind.i64.wrap (i_118 + 1)) fun x137 => valiselaw6_copied.l1 k l132 x137 l_a_0))) else (some l117)
def valiselaw6_copied.f (l_a_0 : List Int) : Option (List Int) := (valiselaw6_copied.l1 FU ([] : List Int) 0 l_a_0).bind fun l72 => some l72
/-! valise/valiselaw6.lent -/
def valiselaw6_lent.l1 : Nat → List Int → Int → Option (List Int)
  | 0, _, _ => none
  | k + 1, l115, i_116 => if i_116 < 8 then (bnd (l115 ++ [(-77)]) fun l128 => gd ((l128.length : Int) * 8 ≤ 140737488355328) (bnd (IntKind.i64.wrap (i_116 + 1)) fun x133 => valiselaw6_lent.l1 k l128 x133 )) else (some l115)
def valiselaw6_lent.f (l_a_0 : List Int) : Option ((List Int × Nat)) := (valiselaw6_copied.f l_a_0).bind fun z5 => (valiselaw6_lent.l1 FU z5 0 ).bind fun l74 => gd ((0 : Int) ≤ (l_a_0.length : Int) ∧ (l_a_0.length : Int) ≤ (l74.length : Int)) (some (l74, ((l_a_0.length : Int) : Int).toNat))
/-! valise/build.used -/
def build_used.l1 : Nat → List Int → Int → List Int → Option (Sum (List Int × Int) (List Int))
  | 0, _, _, _ => none
  | k + 1, l240, t241, l_freq_0 => if t241 < (l_freq_0.length : Int) then (gd ((0 : Int) ≤ t241 ∧ t241 < (l_freq_0.length : Int)) (bnd (rd l_freq_0 t241) fun x248 => if (x248 < 0) ∨ (4294967296 < x248) then (some (.inl (([] : List Int), 61))) else ((if 0 < x248 then (bnd (l240 ++ [t241]) fun l279 => gd ((l279.length : Int) * 8 ≤ 140737488355328) (some l279)) else (some l240)).bind fun l270 => build_used.l1 k l270 (IntKind.i64.wrap (t241 + 1)) l_freq_0))) else (some (.inr l240))
def build_used.f (l_freq_0 : List Int) : Option (List Int × Int) := if 288 < (l_freq_0.length : Int) then (some (([] : List Int), 1)) else ((build_used.l1 FU ([] : List Int) 0 l_freq_0).bind fun (yj6 : Sum (List Int × Int) (List Int)) => onR yj6 (fun r => some r) fun l147 => some (l147, 0))
/-! valise/build.Cost -/
def build_Cost.l1 : Nat → Int → List Int → Option (Sum (Int × Int) (Unit))
  | 0, _, _ => none
  | k + 1, t53, l_lens_1 => if t53 < (l_lens_1.length : Int) then (gd ((0 : Int) ≤ t53 ∧ t53 < (l_lens_1.length : Int)) (bnd (rd l_lens_1 t53) fun x60 => if (x60 < 0) ∨ (288 < x60) then (some (.inl (0, 1))) else (build_Cost.l1 k (IntKind.i64.wrap (t53 + 1)) l_lens_1))) else (some (.inr ()))
def build_Cost.l3 : Nat → Int → Int → List Int → List Int → Option (Int)
  | 0, _, _, _, _ => none
  | k + 1, sum_142, t143, l_freq_0, l_lens_1 => if t143 < (l_freq_0.length : Int) then (gd ((0 : Int) ≤ t143 ∧ t143 < (l_freq_0.length : Int)) (bnd (rd l_freq_0 t143) fun x150 => gd ((0 : Int) ≤ t143 ∧ t143 < (l_lens_1.length : Int)) (bnd (IntKind.i64.wrap (sum_142 + (IntKind.i64.wrap (x150 * (rd l_lens_1 t143))))) fun x154 => build_Cost.l3 k x154 (IntKind.i64.wrap (t143 + 1)) l_freq_0 l_lens_1))) else (some sum_142)
def build_Cost.f (l_freq_0 : List Int) (l_lens_1 : List Int) : Option (Int × Int) := if (288 < (l_freq_0.length : Int)) ∨ ((l_lens_1.length : Int) ≠ (l_freq_0.length : Int)) then (some (0, 1)) else ((build_Cost.l1 FU 0 l_lens_1).bind fun (yj3 : Sum (Int × Int) (Unit)) => onR yj3 (fun r => some r) fun () => (build_used.f l_freq_0).bind fun (z70, z71) => if z71 ≠ 0 then (some (0, z71)) else ((build_Cost.l3 FU 0 0 l_freq_0 l_lens_1).bind fun sum_117 => some (sum_117, 0)))
/-! valise/valiseref6.weighs -/
def valiseref6_weighs.l1 : Nat → Int → List Int → Option (Sum (Bool) (Unit))
  | 0, _, _ => none
  | k + 1, s_51, l_freq_0 => if s_51 < (l_freq_0.length : Int) then (gd ((0 : Int) ≤ s_51 ∧ s_51 < (l_freq_0.length : Int)) (if (rd l_freq_0 s_51 < 0) ∨ (4294967296 < rd l_freq_0 s_51) then (some (.inl false)) else (bnd (IntKind.i64.wrap (s_51 + 1)) fun x60 => valiseref6_weighs.l1 k x60 l_freq_0))) else (some (.inr ()))
def valiseref6_weighs.f (l_freq_0 : List Int) : Option (Bool) := (valiseref6_weighs.l1 FU 0 l_freq_0).bind fun (yj1 : Sum (Bool) (Unit)) => onR yj1 (fun r => some r) fun () => some true
/-! valise/valiseref6.Cost -/
def valiseref6_Cost.l1 : Nat → Int → List Int → Option (Sum (Int × Int) (Unit))
  | 0, _, _ => none
  | k + 1, s_53, l_lens_1 => if s_53 < (l_lens_1.length : Int) then (gd ((0 : Int) ≤ s_53 ∧ s_53 < (l_lens_1.length : Int)) (if (rd l_lens_1 s_53 < 0) ∨ (288 < rd l_lens_1 s_53) then (some (.inl (0, 1))) else (bnd (IntKind.i64.wrap (s_53 + 1)) fun x62 => valiseref6_Cost.l1 k x62 l_lens_1))) else (some (.inr ()))
def valiseref6_Cost.l3 : Nat → Int → Int → List Int → List Int → Option (Int)
  | 0, _, _, _, _ => none
  | k + 1, n_153, s_154, l_freq_0, l_lens_1 => if s_154 < (l_freq_0.length : Int) then (gd ((0 : Int) ≤ s_154 ∧ s_154 < (l_freq_0.length : Int)) (gd ((0 : Int) ≤ s_154 ∧ s_154 < (l_lens_1.length : Int)) (bnd (IntKind.i64.wrap (n_153 + (IntKind.i64.wrap ((rd l_freq_0 s_154) * (rd l_lens_1 s_154))))) fun x163 => bnd (IntKind.i64.wrap (s_154 + 1)) fun x168 => valiseref6_Cost.l3 k x163 x168 l_freq_0 l_lens_1))) else (some n_153)
def valiseref6_Cost.f (l_freq_0 : List Int) (l_lens_1 : List Int) : Option (Int × Int) := if (288 < (l_freq_0.length : Int)) ∨ ((l_lens_1.length : Int) ≠ (l_freq_0.length : Int)) then (some (0, 1)) else ((valiseref6_Cost.l1 FU 0 l_lens_1).bind fun (yj3 : Sum (Int × Int) (Unit)) => onR yj3 (fun r => some r) fun () => (valiseref6_weighs.f l_freq_0).bind fun z70 => if (!z70) = true then (some (0, 61)) else ((valiseref6_Cost.l3 FU 0 0 l_freq_0 l_lens_1).bind fun n_122 => some (n_122, 0)))
/-! valise/valiselaw6.num -/
def valiselaw6_num.f (e_0 : Int) : Option (Int) := some e_0
/-! valise/valiselaw6.still -/
def valiselaw6_still.l1 : Nat → Int → List Int → List Int → Option (Sum (Bool) (Unit))
  | 0, _, _, _ => none
  | k + 1, i_174, l_given_0, l_a_1 => if i_174 < ((l_given_0.take (IntKind.i64.wrap ((l_a_1.length : Int) + 8) : Int).toNat).length : Int) then ((if i_174 < (l_a_1.length : Int) then (gd ((0 : Int) ≤ i_174 ∧ i_174 < ((l_given_0.take (IntKind.i64.wrap ((l_a_1.length : Int) + 8) : Int).toNat).length : Int)) (gd ((0 : Int) ≤ i_174 ∧ i_174 < (l_a_1.length : Int)) (some (decide (rd (l_given_0.take (IntKind.i64.wrap ((l_a_1.length : Int) + 8) : Int).toNat) i_174 ≠ rd l_a_1 i_174))))) else (some false)).bind fun b183 => (if b183 = true then (some true) else ((if (l_a_1.length : Int) ≤ i_174 then (gd ((0 : Int) ≤ i_174 ∧ i_174 < ((l_given_0.take (IntKind.i64.wrap ((l_a_1.length : Int) + 8) : Int).toNat).length : Int)) (some (decide (rd (l_given_0.take (IntKind.i64.wrap ((l_a_1.length : Int) + 8) : Int).toNat) i_174 ≠ (-77))))) else (some false)).bind fun b199 => some b199)).bind fun b195 => if b195 = true then (some (.inl false)) else (bnd (IntKind.i64.wrap (i_174 + 1)) fun x207 => valiselaw6_still.l1 k x207 l_given_0 l_a_1)) else (some (.inr ()))
def valiselaw6_still.f (l_given_0 : List Int) (m_given_0 : Nat) (l_a_1 : List Int) : Option (Bool) := if ((l_given_0.take m_given_0).length : Int) ≠ (l_a_1.length : Int) then (some false) else (gd ((0 : Int) ≤ (IntKind.i64.wrap ((l_a_1.length : Int) + 8)) ∧ (IntKind.i64.wrap ((l_a_1.length : Int) + 8)) ≤ (l_given_0.length : Int)) ((valiselaw6_still.l1 FU 0 l_given_0 l_a_1).bind fun (yj4 : Sum (Bool) (Unit)) => onR yj4 (fun r => some r) fun () => some true))
/-! valise/valiselaw6.BuildCosts -/
def valiselaw6_BuildCosts.f (l_freq_0 : List Int) (l_lens_1 : List Int) : Option (Bool) := (valiselaw6_lent.f l_freq_0).bind fun (z5, z6) => (valiselaw6_lent.f l_lens_1).bind fun (z16, z17) => (build_Cost.f (z5.take z6) (z16.take z17)).bind fun (z27, z28) => (valiseref6_Cost.f l_freq_0 l_lens_1).bind fun (z35, z36) => (valiselaw6_num.f z28).bind fun z43 => if (z43 = z36) ∧ (z27 = z35) then ((valiselaw6_still.f z5 z6 l_freq_0).bind fun z52 => if z52 = true then ((valiselaw6_still.f z16 z17 l_lens_1).bind fun z60 => some z60) else (some false)) else (some false)
end Go.V.Pu
