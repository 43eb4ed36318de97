import Derived.Test.YtlmlbahoaendpaaDoorV13
set_option linter.unusedVariables false
namespace Go.V.Pu
open Go Go.V
def T_header_least : List Int := [1, 1, 1, 1, 1, 1, 1, 1, 1, 1, 1, 1, 1, 1, 1, 1, 3, 3, 11]
theorem T_header_least_len : T_header_least.length = 19 := rfl
def T_header_further : List Int := [0, 0, 0, 0, 0, 0, 0, 0, 0, 0, 0, 0, 0, 0, 0, 0, 2, 3, 7]
theorem T_header_further_len : T_header_further.length = 19 := rfl
def E_api_Run : El (Int × Int) := ⟨fun x => [.int .i64 x.1, .int .i64 x.2], 2, fun _ => rfl, (0, 0), fun x v h => by
  simp only [List.mem_cons, List.not_mem_nil, or_false] at h
  rcases h with rfl | rfl <;> rfl⟩
/-! valise/valiselaw7.ints -/
def valiselaw7_ints.f (l_l_0 : List Int) : Option (List Int) := gd ((0 : Int) ≤ (l_l_0.length : Int) ∧ (l_l_0.length : Int) * 8 ≤ 281474976710656) (bnd (List.replicate ((l_l_0.length : Int) : Int).toNat (0 : Int)) fun l5 => bnd (cpy l5 l_l_0) fun l12 => some l12)
/-! valise/header.lengths -/
def header_lengths.l1 : Nat → Int → List Int → Option (Sum (Bool) (Unit))
  | 0, _, _ => none
  | k + 1, t66, l_l_0 => if t66 < (l_l_0.length : Int) then (gd ((0 : Int) ≤ t66 ∧ t66 < (l_l_0.length : Int)) (bnd (rd l_l_0 t66) fun x73 => if (x73 < 0) ∨ (15 < x73) then (some (.inl false)) else (header_lengths.l1 k (IntKind.i64.wrap (t66 + 1)) l_l_0))) else (some (.inr ()))
def header_lengths.f (l_l_0 : List Int) : Option (Bool) := (header_lengths.l1 FU 0 l_l_0).bind fun (yj1 : Sum (Bool) (Unit)) => onR yj1 (fun r => some r) fun () => some true
/-! valise/header.Runs -/
def header_Runs.l13 : Nat → Int → List Int → Int → Int → Option (Int)
  | 0, _, _, _, _ => none
  | k + 1, m_1073, l_lens_0, at_988, x995 => (if IntKind.i64.wrap (at_988 + m_1073) < (l_lens_0.length : Int) then (gd ((0 : Int) ≤ (IntKind.i64.wrap (at_988 + m_1073)) ∧ (IntKind.i64.wrap (at_988 + m_1073)) < (l_lens_0.length : Int)) (some (decide (rd l_lens_0 (IntKind.i64.wrap (at_988 + m_1073)) = x995)))) else (some false)).bind fun b1078 => if b1078 = true then (bnd (IntKind.i64.wrap (m_1073 + 1)) fun x1087 => header_Runs.l13 k x1087 l_lens_0 at_988 x995) else (some m_1073)
def header_Runs.l11 : Nat → List (Int × Int) → Int → List Int → Option (List (Int × Int))
  | 0, _, _, _ => none
  | k + 1, l987, at_988, l_lens_0 => if at_988 < (l_lens_0.length : Int) then (gd ((0 : Int) ≤ at_988 ∧ at_988 < (l_lens_0.length : Int)) (bnd (rd l_lens_0 at_988) fun x995 => (header_Runs.l13 FU 1 l_lens_0 at_988 x995).bind fun m_1043 => (if (x995 = 0) ∧ (11 ≤ m_1043) then (some (18, min m_1043 138)) else (if (x995 = 0) ∧ (3 ≤ m_1043) then (some (17, m_1043)) else ((if ((x995 ≠ 0) ∧ (3 ≤ m_1043)) ∧ (0 < at_988) then (gd ((0 : Int) ≤ (IntKind.i64.wrap (at_988 - 1)) ∧ (IntKind.i64.wrap (at_988 - 1)) < (l_lens_0.length : Int)) (some (decide (rd l_lens_0 (IntKind.i64.wrap (at_988 - 1)) = x995)))) else (some false)).bind fun b1155 => if b1155 = true then (some (16, min m_1043 6)) else (some (x995, 1))))).bind fun (y1133, y1134) => bnd (l987 ++ [(y1133, y1134)]) fun l1174 => gd ((l1174.length : Int) * 16 ≤ 140737488355328) (bnd (IntKind.i64.wrap (at_988 + y1134)) fun x1179 => header_Runs.l11 k l1174 x1179 l_lens_0))) else (some l987)
def header_Runs.f (l_lens_0 : List Int) : Option (List (Int × Int) × Int) := (header_lengths.f l_lens_0).bind fun z4 => if (!z4) = true then (some (([] : List (Int × Int)), 1)) else ((header_Runs.l11 FU ([] : List (Int × Int)) 0 l_lens_0).bind fun l598 => some (l598, 0))
/-! valise/valiselaw7.within -/
def valiselaw7_within.l1 : Nat → Int → List Int → Option (Sum (Bool) (Unit))
  | 0, _, _ => none
  | k + 1, i_66, l_lens_0 => if i_66 < (l_lens_0.length : Int) then (gd ((0 : Int) ≤ i_66 ∧ i_66 < (l_lens_0.length : Int)) (if (rd l_lens_0 i_66 < 0) ∨ (15 < rd l_lens_0 i_66) then (some (.inl false)) else (bnd (IntKind.i64.wrap (i_66 + 1)) fun x78 => valiselaw7_within.l1 k x78 l_lens_0))) else (some (.inr ()))
def valiselaw7_within.f (l_lens_0 : List Int) : Option (Bool) := (valiselaw7_within.l1 FU 0 l_lens_0).bind fun (yj1 : Sum (Bool) (Unit)) => onR yj1 (fun r => some r) fun () => some true
/-! valise/valiselaw7.num -/
def valiselaw7_num.f (e_0 : Int) : Option (Int) := some e_0
/-! valise/valiselaw7.further -/
def valiselaw7_further.f (sym_0 : Int) : Option (Int × Int × Int) := if sym_0 = 16 then (some (2, 3, 6)) else (if sym_0 = 17 then (some (3, 3, 10)) else (if sym_0 = 18 then (some (7, 11, 138)) else (some (0, 1, 1))))
/-! valise/header.lay -/
def header_lay.l1 : Nat → List Int → Int → Int → Int → Option (List Int)
  | 0, _, _, _, _ => none
  | k + 1, l128, t129, r_1_Count, v_19 => if t129 < r_1_Count then (bnd (l128 ++ [v_19]) fun l141 => gd ((l141.length : Int) * 8 ≤ 140737488355328) (header_lay.l1 k l141 (IntKind.i64.wrap (t129 + 1)) r_1_Count v_19)) else (some l128)
def header_lay.f (l_l_0 : List Int) (r_1_Sym : Int) (r_1_Count : Int) : Option (List Int) := (if r_1_Sym = 16 then (gd ((0 : Int) ≤ (IntKind.i64.wrap ((l_l_0.length : Int) - 1)) ∧ (IntKind.i64.wrap ((l_l_0.length : Int) - 1)) < (l_l_0.length : Int)) (bnd (rd l_l_0 (IntKind.i64.wrap ((l_l_0.length : Int) - 1))) fun x23 => some x23)) else ((if r_1_Sym = 17 then (some (decide (r_1_Sym = 17))) else (some (decide (r_1_Sym = 18)))).bind fun t27 => if t27 = true then (some 0) else (some r_1_Sym))).bind fun v_19 => (header_lay.l1 FU l_l_0 0 r_1_Count v_19).bind fun l91 => some l91
/-! valise/header.Expand -/
def header_Expand.l1 : Nat → List Int → Int → List (Int × Int) → Option (Sum (List Int × Int) (List Int))
  | 0, _, _, _ => none
  | k + 1, l312, t313, l_runs_0 => if t313 < (l_runs_0.length : Int) then (gd ((0 : Int) ≤ t313 ∧ t313 < (l_runs_0.length : Int)) ((if ((rdx E_api_Run l_runs_0 t313).1 < 0) ∨ (19 ≤ (rdx E_api_Run l_runs_0 t313).1) then (some true) else (gd ((0 : Int) ≤ ((rdx E_api_Run l_runs_0 t313).1) ∧ ((rdx E_api_Run l_runs_0 t313).1) < (19 : Int)) (some (decide ((rdx E_api_Run l_runs_0 t313).2 < rd T_header_least ((rdx E_api_Run l_runs_0 t313).1)))))).bind fun b332 => (if b332 = true then (some true) else (gd ((0 : Int) ≤ ((rdx E_api_Run l_runs_0 t313).1) ∧ ((rdx E_api_Run l_runs_0 t313).1) < (19 : Int)) (gd (¬ (rd T_header_further ((rdx E_api_Run l_runs_0 t313).1)) < 0) (some (decide (shl .i64 1 (rd T_header_further ((rdx E_api_Run l_runs_0 t313).1)) ≤ IntKind.i64.wrap (((rdx E_api_Run l_runs_0 t313).2) - (rd T_header_least ((rdx E_api_Run l_runs_0 t313).1))))))))).bind fun b342 => if b342 = true then (some (.inl (([] : List Int), 77))) else (if ((rdx E_api_Run l_runs_0 t313).1 = 16) ∧ ((l312.length : Int) = 0) then (some (.inl (([] : List Int), 73))) else ((header_lay.f l312 ((rdx E_api_Run l_runs_0 t313).1) ((rdx E_api_Run l_runs_0 t313).2)).bind fun z367 => header_Expand.l1 k z367 (IntKind.i64.wrap (t313 + 1)) l_runs_0)))) else (some (.inr l312))
def header_Expand.f (l_runs_0 : List (Int × Int)) : Option (List Int × Int) := (header_Expand.l1 FU ([] : List Int) 0 l_runs_0).bind fun (yj3 : Sum (List Int × Int) (List Int)) => onR yj3 (fun r => some r) fun l189 => some (l189, 0)
/-! valise/valiselaw7.equal -/
def valiselaw7_equal.l1 : Nat → Int → List Int → List Int → Option (Sum (Bool) (Unit))
  | 0, _, _, _ => none
  | k + 1, i_72, l_a_0, l_b_1 => if i_72 < (l_a_0.length : Int) then (gd ((0 : Int) ≤ i_72 ∧ i_72 < (l_a_0.length : Int)) (gd ((0 : Int) ≤ i_72 ∧ i_72 < (l_b_1.length : Int)) (if rd l_a_0 i_72 ≠ rd l_b_1 i_72 then (some (.inl false)) else (bnd (IntKind.i64.wrap (i_72 + 1)) fun x85 => valiselaw7_equal.l1 k x85 l_a_0 l_b_1)))) else (some (.inr ()))
def valiselaw7_equal.f (l_a_0 : List Int) (l_b_1 : List Int) : Option (Bool) := if (l_a_0.length : Int) ≠ (l_b_1.length : Int) then (some false) else ((valiselaw7_equal.l1 FU 0 l_a_0 l_b_1).bind fun (yj2 : Sum (Bool) (Unit)) => onR yj2 (fun r => some r) fun () => some true)
/-! valise/valiselaw7.HeaderRunsGoBack -/
def valiselaw7_HeaderRunsGoBack.l1 : Nat → Int → List (Int × Int) → Option (Sum (Bool) (Unit))
  | 0, _, _ => none
  | k + 1, i_189, z15 => if i_189 < (z15.length : Int) then (gd ((0 : Int) ≤ i_189 ∧ i_189 < (z15.length : Int)) ((valiselaw7_further.f ((rdx E_api_Run z15 i_189).1)).bind fun (z198, z199, z200) => if ((((rdx E_api_Run z15 i_189).1 < 0) ∨ (18 < (rdx E_api_Run z15 i_189).1)) ∨ ((rdx E_api_Run z15 i_189).2 < z199)) ∨ (z200 < (rdx E_api_Run z15 i_189).2) then (some (.inl false)) else (bnd (IntKind.i64.wrap (i_189 + 1)) fun x217 => valiselaw7_HeaderRunsGoBack.l1 k x217 z15))) else (some (.inr ()))
def valiselaw7_HeaderRunsGoBack.f (l_lens_0 : List Int) : Option (Bool) := (valiselaw7_ints.f l_lens_0).bind fun z5 => (header_Runs.f z5).bind fun (z15, z16) => (valiselaw7_within.f l_lens_0).bind fun z24 => if (!z24) = true then (some (decide ((z16 = 1) ∧ ((z15.length : Int) = 0)))) else (if (z16 ≠ 0) ∨ ((l_lens_0.length : Int) < (z15.length : Int)) then (some false) else ((valiselaw7_HeaderRunsGoBack.l1 FU 0 z15).bind fun (yj44 : Sum (Bool) (Unit)) => onR yj44 (fun r => some r) fun () => (header_Expand.f z15).bind fun (z225, z226) => (if z226 = 0 then ((valiselaw7_equal.f z225 l_lens_0).bind fun z245 => some z245) else (some false)).bind fun b238 => some b238))
end Go.V.Pu
