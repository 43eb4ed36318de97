import Derived.Test.YtlmlbahoaendpaaV13
set_option linter.unusedVariables false
namespace Go.V.Pu
open Go Go.V
def E_api_Run : El (Int × Int) := ⟨fun x => [.int .i64 x.1, .int .i64 x.2], 2, fun _ => rfl, (0, 0), fun x v h => by
  simp only [List.mem_cons, List.not_mem_nil, or_false] at h
  rcases h with rfl | rfl <;> rfl⟩
/-! valise/valiselaw7.roomy -/
def valiselaw7_roomy.l1 : Nat → List Int → Int → Option (List Int)
  | 0, _, _ => none
  | k + 1, l86, i_87 => if i_87 < (l86.length : Int) then (gd ((0 : Int) ≤ i_87 ∧ i_87 < (l86.length : Int)) (bnd (l86.set (i_87 : Int).toNat 165) fun l96 => bnd (IntKind.i64.wrap (i_87 + 1)) fun x99 => valiselaw7_roomy.l1 k l96 x99 )) else (some l86)
def valiselaw7_roomy.f (l_l_0 : List Int) : Option ((List Int × Nat)) := gd ((0 : Int) ≤ (IntKind.i64.wrap ((l_l_0.length : Int) + 9)) ∧ (IntKind.i64.wrap ((l_l_0.length : Int) + 9)) * 8 ≤ 281474976710656) (bnd (List.replicate (IntKind.i64.wrap ((l_l_0.length : Int) + 9) : Int).toNat (0 : Int)) fun l5 => bnd (cpy l5 l_l_0) fun l12 => bnd ((l_l_0.length : Int)) fun x15 => (valiselaw7_roomy.l1 FU l12 x15 ).bind fun l59 => gd ((0 : Int) ≤ (l_l_0.length : Int) ∧ (l_l_0.length : Int) ≤ (l59.length : Int)) (some (l59, ((l_l_0.length : Int) : Int).toNat)))
/-! valise/header.lengths -/
def header_lengths.l1 : Nat → Int → List Int → Option (Sum (Bool) (Unit))
  | 0, _, _ => none
  | k + 1, t66, l_l_0 => if t66 < (l_l_0.length : Int) then (gd ((0 : Int) ≤ t66 ∧ t66 < (l_l_0.length : Int)) (bnd (rd l_l_0 t66) fun x73 => if (x73 < 0) ∨ (15 < x73) then (some (.inl false)) else (header_lengths.l1 k (IntKind.i64.wrap (t66 + 1)) l_l_0))) else (some (.inr ()))
def header_lengths.f (l_l_0 : List Int) : Option (Bool) := (header_lengths.l1 FU 0 l_l_0).bind fun (yj1 : Sum (Bool) (Unit)) => onR yj1 (fun r => some r) fun () => some true
/-! valise/header.Runs -/
def header_Runs.l13 : Nat → Int → List Int → Int → Int → Option (Int)
  | 0, _, _, _, _ => none
  | k + 1, m_1073, l_lens_0, at_988, x995 => (if IntKind.i64.wrap (at_988 + m_1073) < (l_lens_0.length : Int) then (gd ((0 : Int) ≤ (IntKind.i64.wrap (at_988 + m_1073)) ∧ (IntKind.i64.wrap (at_988 + m_1073)) < (l_lens_0.length : Int)) (some (decide (rd l_lens_0 (IntKind.i64.wrap (at_988 + m_1073)) = x995)))) else (some false)).bind fun b1078 => if b1078 = true then (bnd (IntKind.i64.wrap (m_1073 + 1)) fun x1087 => header_Runs.l13 k x1087 l_lens_0 at_988 x995) else (some m_1073)
def header_Runs.l11 : Nat → List (Int × Int) → Int → List Int → Option (List (Int × Int))
  | 0, _, _, _ => none
  | k + 1, l987, at_988, l_lens_0 => if at_988 < (l_lens_0.length : Int) then (gd ((0 : Int) ≤ at_988 ∧ at_988 < (l_lens_0.length : Int)) (bnd (rd l_lens_0 at_988) fun x995 => (header_Runs.l13 FU 1 l_lens_0 at_988 x995).bind fun m_1043 => (if (x995 = 0) ∧ (11 ≤ m_1043) then (some (18, min m_1043 138)) else (if (x995 = 0) ∧ (3 ≤ m_1043) then (some (17, m_1043)) else ((if ((x995 ≠ 0) ∧ (3 ≤ m_1043)) ∧ (0 < at_988) then (gd ((0 : Int) ≤ (IntKind.i64.wrap (at_988 - 1)) ∧ (IntKind.i64.wrap (at_988 - 1)) < (l_lens_0.length : Int)) (some (decide (rd l_lens_0 (IntKind.i64.wrap (at_988 - 1)) = x995)))) else (some false)).bind fun b1155 => if b1155 = true then (some (16, min m_1043 6)) else (some (x995, 1))))).bind fun (y1133, y1134) => bnd (l987 ++ [(y1133, y1134)]) fun l1174 => gd ((l1174.length : Int) * 16 ≤ 140737488355328) (bnd (IntKind.i64.wrap (at_988 + y1134)) fun x1179 => header_Runs.l11 k l1174 x1179 l_lens_0))) else (some l987)
def header_Runs.f (l_lens_0 : List Int) : Option (List (Int × Int) × Int) := (header_lengths.f l_lens_0).bind fun z4 => if (!z4) = true then (some (([] : List (Int × Int)), 1)) else ((header_Runs.l11 FU ([] : List (Int × Int)) 0 l_lens_0).bind fun l598 => some (l598, 0))
/-! valise/valiseref7.lengths -/
def valiseref7_lengths.l1 : Nat → Int → List Int → Option (Sum (Bool) (Unit))
  | 0, _, _ => none
  | k + 1, i_66, l_lens_0 => if i_66 < (l_lens_0.length : Int) then (gd ((0 : Int) ≤ i_66 ∧ i_66 < (l_lens_0.length : Int)) (if (rd l_lens_0 i_66 < 0) ∨ (15 < rd l_lens_0 i_66) then (some (.inl false)) else (bnd (IntKind.i64.wrap (i_66 + 1)) fun x78 => valiseref7_lengths.l1 k x78 l_lens_0))) else (some (.inr ()))
def valiseref7_lengths.f (l_lens_0 : List Int) : Option (Bool) := (valiseref7_lengths.l1 FU 0 l_lens_0).bind fun (yj1 : Sum (Bool) (Unit)) => onR yj1 (fun r => some r) fun () => some true
/-! valise/valiseref7.equals -/
def valiseref7_equals.l1 : Nat → Int → List Int → Int → Option (Int)
  | 0, _, _, _ => none
  | k + 1, m_112, l_lens_0, at_1 => (if IntKind.i64.wrap (at_1 + m_112) < (l_lens_0.length : Int) then (gd ((0 : Int) ≤ (IntKind.i64.wrap (at_1 + m_112)) ∧ (IntKind.i64.wrap (at_1 + m_112)) < (l_lens_0.length : Int)) (gd ((0 : Int) ≤ at_1 ∧ at_1 < (l_lens_0.length : Int)) (some (decide (rd l_lens_0 (IntKind.i64.wrap (at_1 + m_112)) = rd l_lens_0 at_1))))) else (some false)).bind fun b119 => if b119 = true then (bnd (IntKind.i64.wrap (m_112 + 1)) fun x133 => valiseref7_equals.l1 k x133 l_lens_0 at_1) else (some m_112)
def valiseref7_equals.f (l_lens_0 : List Int) (at_1 : Int) : Option (Int) := (valiseref7_equals.l1 FU 0 l_lens_0 at_1).bind fun m_68 => some m_68
/-! valise/valiseref7.lesser -/
def valiseref7_lesser.f (a_0 : Int) (b_1 : Int) : Option (Int) := if a_0 < b_1 then (some a_0) else (some b_1)
/-! valise/valiseref7.run -/
def valiseref7_run.f (l_lens_0 : List Int) (at_1 : Int) : Option ((Int × Int)) := gd ((0 : Int) ≤ at_1 ∧ at_1 < (l_lens_0.length : Int)) (bnd (rd l_lens_0 at_1) fun x7 => (valiseref7_equals.f l_lens_0 at_1).bind fun z11 => if (x7 = 0) ∧ (11 ≤ z11) then ((valiseref7_lesser.f z11 138).bind fun z22 => some (18, z22)) else (if (x7 = 0) ∧ (3 ≤ z11) then (some (17, z11)) else ((if (x7 ≠ 0) ∧ (0 < at_1) then (gd ((0 : Int) ≤ (IntKind.i64.wrap (at_1 - 1)) ∧ (IntKind.i64.wrap (at_1 - 1)) < (l_lens_0.length : Int)) (some (decide (rd l_lens_0 (IntKind.i64.wrap (at_1 - 1)) = x7)))) else (some false)).bind fun b41 => if (b41 = true) ∧ (3 ≤ z11) then ((valiseref7_lesser.f z11 6).bind fun z55 => some (16, z55)) else (some (x7, 1)))))
/-! valise/valiseref7.Runs -/
def valiseref7_Runs.l1 : Nat → List (Int × Int) → Int → List Int → Option (List (Int × Int))
  | 0, _, _, _ => none
  | k + 1, l186, at_187, l_lens_0 => if at_187 < (l_lens_0.length : Int) then ((valiseref7_run.f l_lens_0 at_187).bind fun (z196, z197) => bnd (l186 ++ [(z196, z197)]) fun l213 => gd ((l213.length : Int) * 16 ≤ 140737488355328) (bnd (IntKind.i64.wrap (at_187 + z197)) fun x218 => valiseref7_Runs.l1 k l213 x218 l_lens_0)) else (some l186)
def valiseref7_Runs.f (l_lens_0 : List Int) : Option (List (Int × Int) × Int) := (valiseref7_lengths.f l_lens_0).bind fun z3 => if (!z3) = true then (some (([] : List (Int × Int)), 1)) else ((valiseref7_Runs.l1 FU ([] : List (Int × Int)) 0 l_lens_0).bind fun l117 => some (l117, 0))
/-! valise/valiselaw7.num -/
def valiselaw7_num.f (e_0 : Int) : Option (Int) := some e_0
/-! valise/valiselaw7.alike -/
def valiselaw7_alike.l1 : Nat → Int → List (Int × Int) → List (Int × Int) → Option (Sum (Bool) (Unit))
  | 0, _, _, _ => none
  | k + 1, i_72, l_a_0, l_b_1 => if i_72 < (l_a_0.length : Int) then (gd ((0 : Int) ≤ i_72 ∧ i_72 < (l_a_0.length : Int)) (gd ((0 : Int) ≤ i_72 ∧ i_72 < (l_b_1.length : Int)) (if ¬ ((((rdx E_api_Run l_a_0 i_72).1) = ((rdx E_api_Run l_b_1 i_72).1)) ∧ (((rdx E_api_Run l_a_0 i_72).2) = ((rdx E_api_Run l_b_1 i_72).2))) then (some (.inl false)) else (bnd (IntKind.i64.wrap (i_72 + 1)) fun x85 => valiselaw7_alike.l1 k x85 l_a_0 l_b_1)))) else (some (.inr ()))
def valiselaw7_alike.f (l_a_0 : List (Int × Int)) (l_b_1 : List (Int × Int)) : Option (Bool) := if (l_a_0.length : Int) ≠ (l_b_1.length : Int) then (some false) else ((valiselaw7_alike.l1 FU 0 l_a_0 l_b_1).bind fun (yj2 : Sum (Bool) (Unit)) => onR yj2 (fun r => some r) fun () => some true)
/-! valise/valiselaw7.equal -/
def valiselaw7_equal.l1 : Nat → Int → List Int → List Int → Option (Sum (Bool) (Unit))
  | 0, _, _, _ => none
  | k + 1, i_72, l_a_0, l_b_1 => if i_72 < (l_a_0.length : Int) then (gd ((0 : Int) ≤ i_72 ∧ i_72 < (l_a_0.length : Int)) (gd ((0 : Int) ≤ i_72 ∧ i_72 < (l_b_1.length : Int)) (if rd l_a_0 i_72 ≠ rd l_b_1 i_72 then (some (.inl false)) else (bnd (IntKind.i64.wrap (i_72 + 1)) fun x85 => valiselaw7_equal.l1 k x85 l_a_0 l_b_1)))) else (some (.inr ()))
def valiselaw7_equal.f (l_a_0 : List Int) (l_b_1 : List Int) : Option (Bool) := if (l_a_0.length : Int) ≠ (l_b_1.length : Int) then (some false) else ((valiselaw7_equal.l1 FU 0 l_a_0 l_b_1).bind fun (yj2 : Sum (Bool) (Unit)) => onR yj2 (fun r => some r) fun () => some true)
/-! valise/valiselaw7.spared -/
def valiselaw7_spared.l1 : Nat → Int → List Int → Nat → Option (Sum (Bool) (Unit))
  | 0, _, _, _ => none
  | k + 1, i_50, l_l_0, m_l_0 => if i_50 < ((l_l_0.take (IntKind.i64.wrap (((l_l_0.take m_l_0).length : Int) + 9) : Int).toNat).length : Int) then (gd ((0 : Int) ≤ i_50 ∧ i_50 < ((l_l_0.take (IntKind.i64.wrap (((l_l_0.take m_l_0).length : Int) + 9) : Int).toNat).length : Int)) (if rd (l_l_0.take (IntKind.i64.wrap (((l_l_0.take m_l_0).length : Int) + 9) : Int).toNat) i_50 ≠ 165 then (some (.inl false)) else (bnd (IntKind.i64.wrap (i_50 + 1)) fun x58 => valiselaw7_spared.l1 k x58 l_l_0 m_l_0))) else (some (.inr ()))
def valiselaw7_spared.f (l_l_0 : List Int) (m_l_0 : Nat) : Option (Bool) := gd ((0 : Int) ≤ (IntKind.i64.wrap (((l_l_0.take m_l_0).length : Int) + 9)) ∧ (IntKind.i64.wrap (((l_l_0.take m_l_0).length : Int) + 9)) ≤ (l_l_0.length : Int)) (bnd (((l_l_0.take m_l_0).length : Int)) fun x3 => (valiselaw7_spared.l1 FU x3 l_l_0 m_l_0).bind fun (yj5 : Sum (Bool) (Unit)) => onR yj5 (fun r => some r) fun () => some true)
/-! valise/valiselaw7.HeaderRuns -/
def valiselaw7_HeaderRuns.f (l_lens_0 : List Int) : Option (Bool) := (valiselaw7_roomy.f l_lens_0).bind fun (z5, z6) => (header_Runs.f (z5.take z6)).bind fun (z16, z17) => (valiseref7_Runs.f l_lens_0).bind fun (z27, z28) => (if z17 = z28 then ((valiselaw7_alike.f z16 z27).bind fun z53 => some z53) else (some false)).bind fun b46 => (if b46 = true then ((valiselaw7_equal.f (z5.take z6) l_lens_0).bind fun z70 => some z70) else (some false)).bind fun b63 => (if b63 = true then ((valiselaw7_spared.f z5 z6).bind fun z87 => some z87) else (some false)).bind fun b80 => some b80
end Go.V.Pu
