import Derived.Test.YteckboojmmeecaaDoorV13
set_option linter.unusedVariables false
namespace Go.V.Pu
open Go Go.V
def E_api_Run : El (Int × Int) := ⟨fun x => [.int .i64 x.1, .int .i64 x.2], 2, fun _ => rfl, (0, 0), fun x v h => by
  simp only [List.mem_cons, List.not_mem_nil, or_false] at h
  rcases h with rfl | rfl <;> rfl⟩
def T_header_least : List Int := [1, 1, 1, 1, 1, 1, 1, 1, 1, 1, 1, 1, 1, 1, 1, 1, 3, 3, 11]
theorem T_header_least_len : T_header_least.length = 19 := rfl
def T_header_further : List Int := [0, 0, 0, 0, 0, 0, 0, 0, 0, 0, 0, 0, 0, 0, 0, 0, 2, 3, 7]
theorem T_header_further_len : T_header_further.length = 19 := rfl
/-! valise/valiselaw7.runs -/
def valiselaw7_runs.f (l_l_0 : List (Int × Int)) : Option (List (Int × Int)) := gd ((0 : Int) ≤ (l_l_0.length : Int) ∧ (l_l_0.length : Int) * 16 ≤ 281474976710656) (bnd (List.replicate ((l_l_0.length : Int) : Int).toNat (E_api_Run).def_) fun l5 => bnd (cpy l5 l_l_0) fun l12 => some l12)
/-! valise/header.lay -/
def header_lay.l1 : Nat → List Int → Int → Int → Int → Option (List Int)
  | 0, _, _, _, _ => none
  | k + 1, l128, t129, r_1_Count, v_19 => if t129 < r_1_Count then (bnd (l128 ++ [v_19]) fun l141 => gd ((l141.length : Int) * 8 ≤ 140737488355328) (header_lay.l1 k l141 (IntKind.i64.wrap (t129 + 1)) r_1_Count v_19)) else (some l128)
def header_lay.f (l_l_0 : List Int) (r_1_Sym : Int) (r_1_Count : Int) : Option (List Int) := (if r_1_Sym = 16 then (gd ((0 : Int) ≤ (IntKind.i64.wrap ((l_l_0.length : Int) - 1)) ∧ (IntKind.i64.wrap ((l_l_0.length : Int) - 1)) < (l_l_0.length : Int)) (bnd (rd l_l_0 (IntKind.i64.wrap ((l_l_0.length : Int) - 1))) fun x23 => some x23)) else ((if r_1_Sym = 17 then (some (decide (r_1_Sym = 17))) else (some (decide (r_1_Sym = 18)))).bind fun t27 => if t27 = true then (some 0) else (some r_1_Sym))).bind fun v_19 => (header_lay.l1 FU l_l_0 0 r_1_Count v_19).bind fun l91 => some l91
/-! valise/header.Expand -/
def header_Expand.l1 : Nat → List Int → Int → List (Int × Int) → Option (Sum (List Int × Int) (List Int))
  | 0, _, _, _ => none
  | k + 1, l312, t313, l_runs_0 => if t313 < (l_runs_0.length : Int) then (gd ((0 : Int) ≤ t313 ∧ t313 < (l_runs_0.length : Int)) ((if ((rdx E_api_Run l_runs_0 t313).1 < 0) ∨ (19 ≤ (rdx E_api_Run l_runs_0 t313).1) then (some true) else (gd ((0 : Int) ≤ ((rdx E_api_Run l_runs_0 t313).1) ∧ ((rdx E_api_Run l_runs_0 t313).1) < (19 : Int)) (some (decide ((rdx E_api_Run l_runs_0 t313).2 < rd T_header_least ((rdx E_api_Run l_runs_0 t313).1)))))).bind fun b332 => (if b332 = true then (some true) else (gd ((0 : Int) ≤ ((rdx E_api_Run l_runs_0 t313).1) ∧ ((rdx E_api_Run l_runs_0 t313).1) < (19 : Int)) (gd (¬ (rd T_header_further ((rdx E_api_Run l_runs_0 t313).1)) < 0) (some (decide (shl .i64 1 (rd T_header_further ((rdx E_api_Run l_runs_0 t313).1)) ≤ IntKind.i64.wrap (((rdx E_api_Run l_runs_0 t313).2) - (rd T_header_least ((rdx E_api_Run l_runs_0 t313).1))))))))).bind fun b342 => if b342 = true then (some (.inl (([] : List Int), 77))) else (if ((rdx E_api_Run l_runs_0 t313).1 = 16) ∧ ((l312.length : Int) = 0) then (some (.inl (([] : List Int), 73))) else ((header_lay.f l312 ((rdx E_api_Run l_runs_0 t313).1) ((rdx E_api_Run l_runs_0 t313).2)).bind fun z367 => header_Expand.l1 k z367 (IntKind.i64.wrap (t313 + 1)) l_runs_0)))) else (some (.inr l312))
def header_Expand.f (l_runs_0 : List (Int × Int)) : Option (List Int × Int) := (header_Expand.l1 FU ([] : List Int) 0 l_runs_0).bind fun (yj3 : Sum (List Int × Int) (List Int)) => onR yj3 (fun r => some r) fun l189 => some (l189, 0)
/-! valise/valiseref7.Further -/
def valiseref7_Further.f (sym_0 : Int) : Option (Int × Int) := if sym_0 = 16 then (some (2, 3)) else (if sym_0 = 17 then (some (3, 3)) else (if sym_0 = 18 then (some (7, 11)) else (some (0, 1))))
/-! valise/valiseref7.most -/
def valiseref7_most.f (sym_0 : Int) : Option (Int) := (valiseref7_Further.f sym_0).bind fun (z3, z4) => gd (¬ (IntKind.u64.wrap z3) < 0) (some (IntKind.i64.wrap ((IntKind.i64.wrap (z4 + (shl .i64 1 (IntKind.u64.wrap z3)))) - 1)))
/-! valise/valiseref7.Expand -/
def valiseref7_Expand.l13 : Nat → List Int → Int → List (Int × Int) → Int → Int → Option (List Int)
  | 0, _, _, _, _, _ => none
  | k + 1, l1165, k_1166, l_runs_0, i_993, v_1049 => if k_1166 < (rdx E_api_Run l_runs_0 i_993).2 then (bnd (l1165 ++ [v_1049]) fun l1178 => gd ((l1178.length : Int) * 8 ≤ 140737488355328) (bnd (IntKind.i64.wrap (k_1166 + 1)) fun x1183 => valiseref7_Expand.l13 k l1178 x1183 l_runs_0 i_993 v_1049)) else (some l1165)
def valiseref7_Expand.l11 : Nat → List Int → Int → List (Int × Int) → Option (Sum (List Int × Int) (List Int))
  | 0, _, _, _ => none
  | k + 1, l992, i_993, l_runs_0 => if i_993 < (l_runs_0.length : Int) then (gd ((0 : Int) ≤ i_993 ∧ i_993 < (l_runs_0.length : Int)) (if ((rdx E_api_Run l_runs_0 i_993).1 < 0) ∨ (18 < (rdx E_api_Run l_runs_0 i_993).1) then (some (.inl (([] : List Int), 77))) else ((valiseref7_Further.f ((rdx E_api_Run l_runs_0 i_993).1)).bind fun (z1015, z1016) => (if (rdx E_api_Run l_runs_0 i_993).2 < z1016 then (some true) else ((valiseref7_most.f ((rdx E_api_Run l_runs_0 i_993).1)).bind fun z1030 => some (decide (z1030 < (rdx E_api_Run l_runs_0 i_993).2)))).bind fun b1023 => if b1023 = true then (some (.inl (([] : List Int), 77))) else (bnd ((rdx E_api_Run l_runs_0 i_993).1) fun x1037 => (if (rdx E_api_Run l_runs_0 i_993).1 = 16 then (if (l992.length : Int) = 0 then (some (.inl (([] : List Int), 73))) else (gd ((0 : Int) ≤ (IntKind.i64.wrap ((l992.length : Int) - 1)) ∧ (IntKind.i64.wrap ((l992.length : Int) - 1)) < (l992.length : Int)) (bnd (rd l992 (IntKind.i64.wrap ((l992.length : Int) - 1))) fun x1056 => some (.inr x1056)))) else (if 16 < (rdx E_api_Run l_runs_0 i_993).1 then (some (.inr 0)) else (some (.inr x1037)))).bind fun (yj1039 : Sum (List Int × Int) (Int)) => onR yj1039 (fun r => some (.inl r)) fun v_1049 => (valiseref7_Expand.l13 FU l992 0 l_runs_0 i_993 v_1049).bind fun l1124 => bnd (IntKind.i64.wrap (i_993 + 1)) fun x1187 => valiseref7_Expand.l11 k l1124 x1187 l_runs_0)))) else (some (.inr l992))
def valiseref7_Expand.f (l_runs_0 : List (Int × Int)) : Option (List Int × Int) := (valiseref7_Expand.l11 FU ([] : List Int) 0 l_runs_0).bind fun (yj3 : Sum (List Int × Int) (List Int)) => onR yj3 (fun r => some r) fun l597 => some (l597, 0)
/-! valise/valiselaw7.num -/
def valiselaw7_num.f (e_0 : Int) : Option (Int) := some e_0
/-! valise/valiselaw7.equal -/
def valiselaw7_equal.l1 : Nat → Int → List Int → List Int → Option (Sum (Bool) (Unit))
  | 0, _, _, _ => none
  | k + 1, i_72, l_a_0, l_b_1 => if i_72 < (l_a_0.length : Int) then (gd ((0 : Int) ≤ i_72 ∧ i_72 < (l_a_0.length : Int)) (gd ((0 : Int) ≤ i_72 ∧ i_72 < (l_b_1.length : Int)) (if rd l_a_0 i_72 ≠ rd l_b_1 i_72 then (some (.inl false)) else (bnd (IntKind.i64.wrap (i_72 + 1)) fun x85 => valiselaw7_equal.l1 k x85 l_a_0 l_b_1)))) else (some (.inr ()))
def valiselaw7_equal.f (l_a_0 : List Int) (l_b_1 : List Int) : Option (Bool) := if (l_a_0.length : Int) ≠ (l_b_1.length : Int) then (some false) else ((valiselaw7_equal.l1 FU 0 l_a_0 l_b_1).bind fun (yj2 : Sum (Bool) (Unit)) => onR yj2 (fun r => some r) fun () => some true)
/-! valise/valiselaw7.alike -/
def valiselaw7_alike.l1 : Nat → Int → List (Int × Int) → List (Int × Int) → Option (Sum (Bool) (Unit))
  | 0, _, _, _ => none
  | k + 1, i_72, l_a_0, l_b_1 => if i_72 < (l_a_0.length : Int) then (gd ((0 : Int) ≤ i_72 ∧ i_72 < (l_a_0.length : Int)) (gd ((0 : Int) ≤ i_72 ∧ i_72 < (l_b_1.length : Int)) (if ¬ ((((rdx E_api_Run l_a_0 i_72).1) = ((rdx E_api_Run l_b_1 i_72).1)) ∧ (((rdx E_api_Run l_a_0 i_72).2) = ((rdx E_api_Run l_b_1 i_72).2))) then (some (.inl false)) else (bnd (IntKind.i64.wrap (i_72 + 1)) fun x85 => valiselaw7_alike.l1 k x85 l_a_0 l_b_1)))) else (some (.inr ()))
def valiselaw7_alike.f (l_a_0 : List (Int × Int)) (l_b_1 : List (Int × Int)) : Option (Bool) := if (l_a_0.length : Int) ≠ (l_b_1.length : Int) then (some false) else ((valiselaw7_alike.l1 FU 0 l_a_0 l_b_1).bind fun (yj2 : Sum (Bool) (Unit)) => onR yj2 (fun r => some r) fun () => some true)
/-! valise/valiselaw7.HeaderExpands -/
def valiselaw7_HeaderExpands.f (l_list_0 : List (Int × Int)) : Option (Bool) := (valiselaw7_runs.f l_list_0).bind fun z5 => bnd (z5 ++ [((-77), 0)]) fun l18 => gd ((l18.length : Int) * 16 ≤ 140737488355328) (gd ((0 : Int) ≤ (l_list_0.length : Int) ∧ (l_list_0.length : Int) ≤ (l18.length : Int)) ((header_Expand.f (l18.take ((l_list_0.length : Int) : Int).toNat)).bind fun (z29, z30) => (valiseref7_Expand.f l_list_0).bind fun (z40, z41) => (if z30 = z41 then ((valiselaw7_equal.f z29 z40).bind fun z66 => some z66) else (some false)).bind fun b59 => (if b59 = true then ((valiselaw7_alike.f (l18.take ((l_list_0.length : Int) : Int).toNat) l_list_0).bind fun z83 => some z83) else (some false)).bind fun b76 => (if b76 = true then (gd ((0 : Int) ≤ (l_list_0.length : Int) ∧ (l_list_0.length : Int) < (l18.length : Int)) (some (decide ((((rdx E_api_Run l18 (l_list_0.length : Int)).1) = (-77)) ∧ (((rdx E_api_Run l18 (l_list_0.length : Int)).2) = 0))))) else (some false)).bind fun b89 => some b89))
end Go.V.Pu
