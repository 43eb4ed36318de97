import Derived.Test.YteckboojmmeecaaDoorChecked
import Derived.Test.YteckboojmmeecaaDoorGHeaderExpandsPure
set_option linter.unusedVariables false
set_option linter.unusedSimpArgs false
set_option maxRecDepth 10000
set_option maxHeartbeats 1000000
namespace Go.Proofs.YteckboojmmeecaaDoor
open Go Go.V Go.V.Pu
theorem mix : Tryd.prog.follows .mixedOrders = true := by kernel_rfl
theorem info37 : (Tryd.prog.info? 37).map (fun i => (i.zero, i.size, i.bytes)) = some (some (.agg #[.int .i64 0, .int .i64 0]), 2, 16) := by kernel_rfl
theorem size37 : (Tryd.prog.info? 37).map (·.size) = some 2 := by kernel_rfl
theorem nm18 : (Tryd.f18.name == "runtime.NumGoroutine") = false := by kernel_rfl
theorem wide37 : Wide Tryd.prog 37 2 := Wide.of Tryd.underlying37 rfl (by kernel_rfl)
theorem zero37 : (Tryd.prog.info? 37).map (·.zero) = some (some (.agg #[.int .i64 0, .int .i64 0])) := by kernel_rfl
theorem field37_0 : FieldAt Tryd.prog 37 0 0 := fun w a => by kernel_rfl
theorem flat3 : Flat Tryd.prog 3 := Flat.of Tryd.underlying3 rfl
theorem field37_1 : FieldAt Tryd.prog 37 1 1 := fun w a => by kernel_rfl
theorem size3 : (Tryd.prog.info? 3).map (·.size) = some 1 := by kernel_rfl
theorem info3 : (Tryd.prog.info? 3).map (fun i => (i.zero, i.size, i.bytes)) = some (some (.int .i64 0), 1, 8) := by kernel_rfl
theorem nm28 : (Tryd.f28.name == "runtime.NumGoroutine") = false := by kernel_rfl
theorem nm19 : (Tryd.f19.name == "runtime.NumGoroutine") = false := by kernel_rfl
theorem nm29 : (Tryd.f29.name == "runtime.NumGoroutine") = false := by kernel_rfl
theorem nm30 : (Tryd.f30.name == "runtime.NumGoroutine") = false := by kernel_rfl
theorem nm20 : (Tryd.f20.name == "runtime.NumGoroutine") = false := by kernel_rfl
theorem nm21 : (Tryd.f21.name == "runtime.NumGoroutine") = false := by kernel_rfl
theorem nm22 : (Tryd.f22.name == "runtime.NumGoroutine") = false := by kernel_rfl
theorem stood37 : Tryd.prog.stoodInHeld 37 = false := by kernel_rfl
theorem eqg37 : Tryd.prog.eqGuardType Tryd.prog.depth 37 = false := by kernel_rfl
theorem nm23 : (Tryd.f23.name == "runtime.NumGoroutine") = false := by kernel_rfl
/-! function 18: valise/valiselaw7.runs -/
theorem valiselaw7_runs.calls {S0 : Nat → Prop} {w0 : World} {A_l_0 : Option Addr} {c_l_0 : Nat} {l_l_0 : List (Int × Int)} {r : List (Int × Int)} (HS0 : Hp S0 w0 w0 [.rd A_l_0 (rowC E_api_Run l_l_0)]) (hc_l_0 : l_l_0.length ≤ c_l_0) (h : valiselaw7_runs.f l_l_0 = some r) :
    Calls Tryd.prog 18 ([.slice A_l_0 l_l_0.length c_l_0] : List Value).toArray w0 (fun e w => ∃ (A1 : Option Addr), ∃ (c1 : Nat), e = .returned (.slice A1 r.length c1) ∧ Hp S0 w0 w [.own A1 c1 (rowC E_api_Run r) 37 E_api_Run.sz]) := by
  have H : ((gd ((0 : Int) ≤ (l_l_0.length : Int) ∧ (l_l_0.length : Int) * 16 ≤ 281474976710656) (bnd (List.replicate ((l_l_0.length : Int) : Int).toNat (E_api_Run).def_) fun l5 => bnd (cpy l5 l_l_0) fun l12 => some l12)) : Option (List (Int × Int))) = some r := h
  refine calls_start Tryd.func18 rfl rfl ?_
  refine L_seq ?_
  refine L_region ?_
  refine F_val rfl rfl rfl (O_assign rfl rfl) ?_
  refine F_nil ?_
  refine L_seq ?_
  refine L_region ?_
  refine F_val rfl rfl rfl (O_move rfl rfl) ?_
  refine F_val rfl rfl rfl (O_len rfl rfl Tryd.underlying34) ?_
  obtain ⟨⟨g3, g4⟩, H⟩ := of_gd H
  obtain ⟨l5, h6, H⟩ := of_bnd H
  refine F_makeE (E := E_api_Run) rfl rfl rfl rfl rfl rfl Tryd.underlying34 info37 rfl (by decide) (by decide) g3 g4 HS0 h6 (fun w1 A7 c8 HS2 => ?_)
  have HS2 : Hp S0 w0 w1 [.rd A_l_0 (rowC E_api_Run l_l_0), .own A7 c8 (rowC E_api_Run l5) 37 E_api_Run.sz] := HS2
  refine F_val rfl rfl rfl (O_assign rfl rfl) ?_
  refine F_nil ?_
  refine L_seq ?_
  refine L_region ?_
  refine F_val rfl rfl rfl (O_move rfl rfl) ?_
  refine F_val rfl rfl rfl (O_move rfl rfl) ?_
  obtain ⟨l12, h13, H⟩ := of_bnd H
  refine F_copyE (E := E_api_Run) (xs := l5) (ys := l_l_0) (i := 1) rfl rfl rfl rfl Tryd.underlying34 size37 rfl rfl HS2 rfl (HS2.cells_rd (i := 0) rfl) h13 (fun w10 HS11 => ?_)
  have e14 : l5.length = l12.length := by rw [← h13, cpy_length]
  refine F_know (i := 3) rfl (congrArg (fun n => Value.slice A7 n c8) e14) ?_
  have HS11 : Hp S0 w0 w10 [.rd A_l_0 (rowC E_api_Run l_l_0), .own A7 c8 (rowC E_api_Run l12) 37 E_api_Run.sz] := HS11
  refine F_nil ?_
  refine L_seq ?_
  refine L_region ?_
  refine F_val rfl rfl rfl (O_move rfl rfl) ?_
  refine F_val rfl rfl rfl (O_assign rfl rfl) ?_
  refine F_nil ?_
  refine L_ret (fun a ha => (post_ret1 ha rfl rfl ?_))
  obtain rfl := Option.some.inj H
  exact ⟨_, _, rfl, HS11.sel [1] rfl⟩

/-! function 28: valise/header.lay -/
theorem header_lay.calls {S0 : Nat → Prop} {w0 : World} {A_l_0 : Option Addr} {c_l_0 : Nat} {l_l_0 : List Int} {r_1_Sym : Int} {r_1_Count : Int} {r : List Int} (HS0 : Hp S0 w0 w0 [.own A_l_0 c_l_0 (rowC (Eint .i64) l_l_0) 3 (Eint .i64).sz]) (h : header_lay.f l_l_0 r_1_Sym r_1_Count = some r) :
    Calls Tryd.prog 28 ([.slice A_l_0 l_l_0.length c_l_0, .agg #[.int .i64 r_1_Sym, .int .i64 r_1_Count]] : List Value).toArray w0 (fun e w => ∃ (A1 : Option Addr), ∃ (c1 : Nat), e = .returned (.slice A1 r.length c1) ∧ Hp S0 w0 w [.own A1 c1 (rowC (Eint .i64) r) 3 (Eint .i64).sz]) := by
  have H : (((if r_1_Sym = 16 then (gd ((0 : Int) ≤ (IntKind.i64.wrap ((l_l_0.length : Int) - 1)) ∧ (IntKind.i64.wrap ((l_l_0.length : Int) - 1)) < (l_l_0.length : Int)) (bnd (rd l_l_0 (IntKind.i64.wrap ((l_l_0.length : Int) - 1))) fun x23 => some x23)) else ((if r_1_Sym = 17 then (some (decide (r_1_Sym = 17))) else (some (decide (r_1_Sym = 18)))).bind fun t27 => if t27 = true then (some 0) else (some r_1_Sym))).bind fun v_19 => (header_lay.l1 FU l_l_0 0 r_1_Count v_19).bind fun l91 => some l91) : Option (List Int)) = some r := h
  refine calls_start Tryd.func28 rfl rfl ?_
  refine L_seq ?_
  refine L_region ?_
  refine F_box (C := [.int .i64 r_1_Sym, .int .i64 r_1_Count]) rfl rfl rfl rfl rfl rfl HS0 (fun w1 g3 HS2 => ?_)
  have HS2 : Hp S0 w0 w1 [.own A_l_0 c_l_0 (rowC (Eint .i64) l_l_0) 3 (Eint .i64).sz, .box g3 [.int .i64 r_1_Sym, .int .i64 r_1_Count] 37] := HS2
  refine F_val rfl rfl rfl (O_assign rfl rfl) ?_
  refine F_nil ?_
  refine L_seq ?_
  refine L_region ?_
  refine F_val rfl rfl rfl (O_fieldB rfl rfl field37_0) ?_
  refine F_val rfl rfl rfl (O_loadB rfl rfl flat3 (HS2.cells_box (i := 1) rfl) rfl) ?_
  refine F_val rfl rfl rfl (O_assign rfl rfl) ?_
  refine F_nil ?_
  refine L_seq ?_
  refine L_seq ?_
  refine L_region ?_
  refine F_val rfl rfl rfl (O_fieldB rfl rfl field37_0) ?_
  refine F_val rfl rfl rfl (O_loadB rfl rfl flat3 (HS2.cells_box (i := 1) rfl) rfl) ?_
  refine F_nil ?_
  refine L_blk (fun Q5 hN5 hX5 hO5 => ?_)
  refine L_seq ?_
  refine L_region ?_
  refine F_val rfl rfl rfl (O_eq rfl rfl rfl) ?_
  refine F_val rfl rfl rfl (O_assign rfl rfl) ?_
  refine F_nil ?_
  obtain ⟨yj6, Hyj6, H⟩ := of_bind H
  refine L_join (fun a w => ∃ (v_19 : Int), yj6 = v_19 ∧ Is Tryd.f28.ntmps a [(0, .slice A_l_0 l_l_0.length c_l_0), (3, .pointer (some ⟨g3, 0, none⟩)), (5, .int .i64 v_19)] ∧ Hp S0 w0 w [.own A_l_0 c_l_0 (rowC (Eint .i64) l_l_0) 3 (Eint .i64).sz, .box g3 [.int .i64 r_1_Sym, .int .i64 r_1_Count] 37]) (fun Qj6 hNj6 hOj6 => ?_) (fun a w hR => ?_)
  · skip
    have H := Hyj6
    refine L_condP rfl (fun c20 => ?_) (fun c20 => ?_)
    · have H := of_pos H c20
      refine L_region ?_
      refine F_val rfl rfl rfl (O_move rfl rfl) ?_
      refine F_val rfl rfl rfl (O_move rfl rfl) ?_
      refine F_val rfl rfl rfl (O_len rfl rfl Tryd.underlying38) ?_
      refine F_val rfl rfl rfl (O_sub rfl rfl rfl) ?_
      obtain ⟨⟨g21, g22⟩, H⟩ := of_gd H
      refine F_val rfl rfl rfl (O_idx rfl rfl rfl Tryd.underlying38 size3 g21 g22 (Cells.isA (HS2.cells_own (i := 0) rfl) (rowC_ne (E := (Eint .i64)) g21 g22 (by decide)))) ?_
      refine F_val rfl rfl rfl (O_loadC rfl rfl flat3 (HS2.cells_own (i := 0) rfl) (int_cell g21 g22)) ?_
      obtain ⟨x23, h24, H⟩ := of_bnd H
      refine F_val rfl rfl rfl (O_assign' rfl rfl (congrArg (Value.int .i64) h24)) ?_
      refine F_nil ?_
      refine L_nil (fun a ha => hNj6 a _ ⟨_, (Option.some.inj H).symm, Is.cons ha (Is.cons ha (Is.cons ha (Is.nil ha) rfl) rfl) rfl, HS2.sel [0, 1] rfl⟩)
    · have H := of_neg H c20
      refine L_seq ?_
      refine L_seq ?_
      refine L_region ?_
      refine F_val rfl rfl rfl (O_eq rfl rfl rfl) ?_
      refine F_val rfl rfl rfl (O_assign rfl rfl) ?_
      refine F_nil ?_
      obtain ⟨yj25, Hyj25, H⟩ := of_bind H
      refine L_join (fun a w => ∃ (t27 : Bool), yj25 = t27 ∧ Is Tryd.f28.ntmps a [(0, .slice A_l_0 l_l_0.length c_l_0), (3, .pointer (some ⟨g3, 0, none⟩)), (5, .int .i64 r_1_Sym), (18, .bool t27)] ∧ Hp S0 w0 w [.own A_l_0 c_l_0 (rowC (Eint .i64) l_l_0) 3 (Eint .i64).sz, .box g3 [.int .i64 r_1_Sym, .int .i64 r_1_Count] 37]) (fun Qj25 hNj25 hOj25 => ?_) (fun a w hR => ?_)
      · skip
        have H := Hyj25
        refine L_condP rfl (fun c28 => ?_) (fun c28 => ?_)
        · have H := of_pos H c28
          refine L_skip ?_
          refine L_nil (fun a ha => hNj25 a _ ⟨_, (Option.some.inj H).symm, Is.cons ha (Is.cons ha (Is.cons ha (Is.cons ha (Is.nil ha) rfl) rfl) rfl) rfl, HS2.sel [0, 1] rfl⟩)
        · have H := of_neg H c28
          refine L_region ?_
          refine F_val rfl rfl rfl (O_eq rfl rfl rfl) ?_
          refine F_val rfl rfl rfl (O_assign rfl rfl) ?_
          refine F_nil ?_
          refine L_nil (fun a ha => hNj25 a _ ⟨_, (Option.some.inj H).symm, Is.cons ha (Is.cons ha (Is.cons ha (Is.cons ha (Is.nil ha) rfl) rfl) rfl) rfl, HS2.sel [0, 1] rfl⟩)
      · obtain ⟨t27, ej, ha, HS30⟩ := hR
        obtain rfl := ej.symm
        refine wpLF_app ?_ ha
        refine L_cond rfl (fun c31 => ?_) (fun c31 => ?_)
        · have H := of_pos H c31
          refine L_region ?_
          refine F_val rfl rfl rfl (O_assign rfl rfl) ?_
          refine F_nil ?_
          refine L_nil (fun a ha => hNj6 a _ ⟨_, (Option.some.inj H).symm, Is.cons ha (Is.cons ha (Is.cons ha (Is.nil ha) rfl) rfl) rfl, HS30.sel [0, 1] rfl⟩)
        · have H := of_neg H (by rw [c31]; exact Bool.false_ne_true)
          refine L_skip ?_
          refine L_nil (fun a ha => hNj6 a _ ⟨_, (Option.some.inj H).symm, Is.cons ha (Is.cons ha (Is.cons ha (Is.nil ha) rfl) rfl) rfl, HS30.sel [0, 1] rfl⟩)
  · obtain ⟨v_19, ej, ha, HS33⟩ := hR
    obtain rfl := ej.symm
    refine wpLF_app ?_ ha
    refine L_endB hN5 ?_
    refine L_seq ?_
    refine L_seq ?_
    refine L_region ?_
    refine F_val rfl rfl rfl (O_fieldB rfl rfl field37_1) ?_
    refine F_val rfl rfl rfl (O_loadB rfl rfl flat3 (HS33.cells_box (i := 1) rfl) rfl) ?_
    refine F_val rfl rfl rfl (O_move rfl rfl) ?_
    refine F_nil ?_
    obtain ⟨yj34, Hyj34, H⟩ := of_bind H
    refine L_join (fun a w => ∃ (l91 : List Int), ∃ (A89 : Option Addr), ∃ (c90 : Nat), yj34 = l91 ∧ Is Tryd.f28.ntmps a [(0, .slice A89 l91.length c90)] ∧ Hp S0 w0 w [.own A89 c90 (rowC (Eint .i64) l91) 3 (Eint .i64).sz]) (fun Qj34 hNj34 hOj34 => ?_) (fun a w hR => ?_)
    · skip
      have H := Hyj34
      refine L_blk (fun Qb92 hNb92 hXb92 hOb92 => ?_)
      refine L_lp (fun k a w => ∃ (l128 : List Int), ∃ (t129 : Int), ∃ (A126 : Option Addr), ∃ (c127 : Nat), Is Tryd.f28.ntmps a [(0, .slice A126 l128.length c127), (5, .int .i64 v_19), (22, .int .i64 r_1_Count), (23, .int .i64 t129)] ∧ Hp S0 w0 w [.own A126 c127 (rowC (Eint .i64) l128) 3 (Eint .i64).sz] ∧ header_lay.l1 k l128 t129 r_1_Count v_19 = some yj34) FU (fun a ha => ⟨_, _, _, _, Is.cons ha (Is.cons ha (Is.cons ha (Is.cons ha (Is.nil ha) rfl) rfl) rfl) rfl, HS33.sel [0] rfl, H⟩) (fun kp125 a w130 hI Qp125 hNp125 hOp125 => ?_)
      obtain ⟨l128, t129, A126, c127, ha, HS131, HAp125⟩ := hI
      cases kp125 with
      | zero => cases (show (none : Option _) = some _ from HAp125)
      | succ kp125 =>
        have H := (header_lay.l1.eq_2 ..).symm.trans HAp125
        refine wpLF_app ?_ ha
        refine L_seq ?_
        refine L_region ?_
        refine F_val rfl rfl rfl (O_lt rfl rfl rfl) ?_
        refine F_nil ?_
        refine L_seq ?_
        refine L_condP rfl (fun c132 => ?_) (fun c132 => ?_)
        · have H := of_pos H c132
          refine L_skip ?_
          refine L_seq ?_
          refine L_blk (fun Q133 hN133 hX133 hO133 => ?_)
          refine L_region ?_
          refine F_val rfl rfl rfl (O_move rfl rfl) ?_
          refine F_val rfl rfl rfl (O_move rfl rfl) ?_
          refine F_litE (E := (Eint .i64)) (e := 3) [(0, .int .i64 v_19)] [v_19] rfl rfl rfl rfl rfl rfl rfl (by decide) (fun w => by kernel_rfl) HS131 (fun w134 A136 c137 HS135 => ?_)
          have HS135 : Hp S0 w0 w134 [.own A126 c127 (rowC (Eint .i64) l128) 3 (Eint .i64).sz, .own A136 c137 (rowC (Eint .i64) [v_19]) 3 (Eint .i64).sz] := HS135
          obtain ⟨l141, h142, H⟩ := of_bnd H
          obtain ⟨g143, H⟩ := of_gd H
          refine F_appE (E := (Eint .i64)) (xs := l128) (ys := [v_19]) (i := 0) rfl rfl rfl rfl Tryd.underlying38 info3 rfl (by decide) (by decide) rfl rfl HS135 rfl (HS135.cells_own (i := 1) rfl) h142 g143 (fun w139 A144 c145 HS140 => ?_)
          have HS140 : Hp S0 w0 w139 [.own A144 c145 (rowC (Eint .i64) l141) 3 (Eint .i64).sz, .own A136 c137 (rowC (Eint .i64) [v_19]) 3 (Eint .i64).sz] := HS140
          refine F_val rfl rfl rfl (O_assign rfl rfl) ?_
          refine F_nil ?_
          refine L_endB hN133 ?_
          refine L_region ?_
          refine F_val rfl rfl rfl (O_add rfl rfl rfl) ?_
          refine F_val rfl rfl rfl (O_move rfl rfl) ?_
          refine F_nil ?_
          refine L_nil (fun a ha => hNp125 _ a _ (Nat.lt_succ_self _) ⟨_, _, _, _, Is.cons ha (Is.cons ha (Is.cons ha (Is.cons ha (Is.nil ha) rfl) rfl) rfl) rfl, HS140.sel [0] rfl, H⟩)
        · have H := of_neg H c132
          refine L_exitB (fun a w h => hOp125 (.exit 1) a w rfl (hXb92 a w h)) ?_
          refine L_nil (fun a ha => hNj34 a _ ⟨_, _, _, (Option.some.inj H).symm, Is.cons ha (Is.nil ha) rfl, HS131.sel [0] rfl⟩)
    · obtain ⟨l91, A89, c90, ej, ha, HS147⟩ := hR
      obtain rfl := ej.symm
      refine wpLF_app ?_ ha
      refine L_seq ?_
      refine L_region ?_
      refine F_val rfl rfl rfl (O_move rfl rfl) ?_
      refine F_val rfl rfl rfl (O_assign rfl rfl) ?_
      refine F_nil ?_
      refine L_ret (fun a ha => (post_ret1 ha rfl rfl ?_))
      obtain rfl := Option.some.inj H
      exact ⟨_, _, rfl, HS147.sel [0] rfl⟩

/-! function 19: valise/header.Expand -/
theorem header_Expand.calls {S0 : Nat → Prop} {w0 : World} {A_runs_0 : Option Addr} {c_runs_0 : Nat} {l_runs_0 : List (Int × Int)} {r : List Int × Int} (HS0 : Hp S0 w0 w0 [.rd A_runs_0 (rowC E_api_Run l_runs_0), .rd (some ⟨4, 0, none⟩) (rowC (Eint .i64) T_header_least), .rd (some ⟨5, 0, none⟩) (rowC (Eint .i64) T_header_further)]) (hc_runs_0 : l_runs_0.length ≤ c_runs_0) (h : header_Expand.f l_runs_0 = some r) :
    Calls Tryd.prog 19 ([.slice A_runs_0 l_runs_0.length c_runs_0] : List Value).toArray w0 (fun e w => ∃ (A1 : Option Addr), ∃ (c1 : Nat), e = .returned (.tuple #[.slice A1 r.1.length c1, .int .i64 r.2]) ∧ Hp S0 w0 w [.own A1 c1 (rowC (Eint .i64) r.1) 3 (Eint .i64).sz]) := by
  have H : (((header_Expand.l1 FU ([] : List Int) 0 l_runs_0).bind fun (yj3 : Sum (List Int × Int) (List Int)) => onR yj3 (fun r => some r) fun l189 => some (l189, 0)) : Option (List Int × Int)) = some r := h
  refine calls_start Tryd.func19 rfl rfl ?_
  refine L_seq ?_
  refine L_region ?_
  refine F_val rfl rfl rfl (O_assign rfl rfl) ?_
  refine F_val rfl rfl rfl (O_assign rfl rfl) ?_
  refine F_nil ?_
  refine L_seq ?_
  refine L_region ?_
  refine F_val rfl rfl rfl (O_assign rfl rfl) ?_
  have HS1 := HS0.addNil 3 (Eint .i64).sz
  have HS1 : Hp S0 w0 w0 [.rd A_runs_0 (rowC E_api_Run l_runs_0), .rd (some ⟨4, 0, none⟩) (rowC (Eint .i64) T_header_least), .rd (some ⟨5, 0, none⟩) (rowC (Eint .i64) T_header_further), .own none 0 (rowC (Eint .i64) ([] : List Int)) 3 (Eint .i64).sz] := HS1
  refine F_nil ?_
  refine L_seq ?_
  refine L_seq ?_
  refine L_region ?_
  refine F_val rfl rfl rfl (O_move rfl rfl) ?_
  refine F_val rfl rfl rfl (O_len rfl rfl Tryd.underlying34) ?_
  refine F_val rfl rfl rfl (O_move rfl rfl) ?_
  refine F_nil ?_
  obtain ⟨yj3, Hyj3, H⟩ := of_bind H
  refine L_join (fun a w => ∃ (l189 : List Int), ∃ (A187 : Option Addr), ∃ (c188 : Nat), yj3 = Sum.inr l189 ∧ Is Tryd.f19.ntmps a [(4, .slice A187 l189.length c188)] ∧ Hp S0 w0 w [.rd A_runs_0 (rowC E_api_Run l_runs_0), .rd (some ⟨4, 0, none⟩) (rowC (Eint .i64) T_header_least), .rd (some ⟨5, 0, none⟩) (rowC (Eint .i64) T_header_further), .own A187 c188 (rowC (Eint .i64) l189) 3 (Eint .i64).sz]) (fun Qj3 hNj3 hOj3 => ?_) (fun a w hR => ?_)
  · have HOj3 := H
    have H := Hyj3
    refine L_blk (fun Qb190 hNb190 hXb190 hOb190 => ?_)
    refine L_lp (fun k a w => ∃ (l312 : List Int), ∃ (t313 : Int), ∃ (A310 : Option Addr), ∃ (c311 : Nat), Is Tryd.f19.ntmps a [(4, .slice A310 l312.length c311), (7, .slice A_runs_0 l_runs_0.length c_runs_0), (8, .int .i64 (l_runs_0.length : Int)), (9, .int .i64 t313)] ∧ Hp S0 w0 w [.rd A_runs_0 (rowC E_api_Run l_runs_0), .rd (some ⟨4, 0, none⟩) (rowC (Eint .i64) T_header_least), .rd (some ⟨5, 0, none⟩) (rowC (Eint .i64) T_header_further), .own A310 c311 (rowC (Eint .i64) l312) 3 (Eint .i64).sz] ∧ header_Expand.l1 k l312 t313 l_runs_0 = some yj3) FU (fun a ha => ⟨_, _, _, _, Is.cons ha (Is.cons ha (Is.cons ha (Is.cons ha (Is.nil ha) rfl) rfl) rfl) rfl, HS1.sel [0, 1, 2, 3] rfl, H⟩) (fun kp309 a w314 hI Qp309 hNp309 hOp309 => ?_)
    obtain ⟨l312, t313, A310, c311, ha, HS315, HAp309⟩ := hI
    cases kp309 with
    | zero => cases (show (none : Option _) = some _ from HAp309)
    | succ kp309 =>
      have H := (header_Expand.l1.eq_2 ..).symm.trans HAp309
      refine wpLF_app ?_ ha
      refine L_seq ?_
      refine L_region ?_
      refine F_val rfl rfl rfl (O_lt rfl rfl rfl) ?_
      refine F_nil ?_
      refine L_seq ?_
      refine L_condP rfl (fun c316 => ?_) (fun c316 => ?_)
      · have H := of_pos H c316
        refine L_skip ?_
        refine L_seq ?_
        refine L_blk (fun Q317 hN317 hX317 hO317 => ?_)
        refine L_seq ?_
        refine L_region ?_
        obtain ⟨⟨g318, g319⟩, H⟩ := of_gd H
        refine F_val rfl rfl rfl (O_idx rfl rfl rfl Tryd.underlying34 size37 g318 g319 (Cells.isA (HS315.cells_rd (i := 0) rfl) (rowC_ne (E := E_api_Run) g318 g319 (by decide)))) ?_
        refine F_val rfl rfl rfl (O_loadEl (E := E_api_Run) rfl rfl wide37 (HS315.cells_rd (i := 0) rfl) g318 g319 (by decide)) ?_
        refine F_alloc (C := [.int .i64 0, .int .i64 0]) rfl rfl rfl rfl zero37 rfl HS315 (fun w320 g322 HS321 => ?_)
        have HS321 : Hp S0 w0 w320 [.rd A_runs_0 (rowC E_api_Run l_runs_0), .rd (some ⟨4, 0, none⟩) (rowC (Eint .i64) T_header_least), .rd (some ⟨5, 0, none⟩) (rowC (Eint .i64) T_header_further), .own A310 c311 (rowC (Eint .i64) l312) 3 (Eint .i64).sz, .box g322 [.int .i64 0, .int .i64 0] 37] := HS321
        refine F_stB 4 ([.int .i64 ((rdx E_api_Run l_runs_0 t313).1), .int .i64 ((rdx E_api_Run l_runs_0 t313).2)]) rfl rfl rfl rfl rfl size37 HS321 rfl rfl rfl rfl rfl (fun w324 HS325 => ?_)
        have HS325 : Hp S0 w0 w324 [.rd A_runs_0 (rowC E_api_Run l_runs_0), .rd (some ⟨4, 0, none⟩) (rowC (Eint .i64) T_header_least), .rd (some ⟨5, 0, none⟩) (rowC (Eint .i64) T_header_further), .own A310 c311 (rowC (Eint .i64) l312) 3 (Eint .i64).sz, .box g322 [.int .i64 ((rdx E_api_Run l_runs_0 t313).1), .int .i64 ((rdx E_api_Run l_runs_0 t313).2)] 37] := HS325
        refine F_nil ?_
        refine L_seq ?_
        refine L_seq ?_
        refine L_quiet mix (by kernel_rfl) ?_
        refine Q_val rfl rfl rfl (fun wq hq => O_fieldB rfl rfl field37_0) ?_
        refine Q_val rfl rfl rfl (fun wq hq => O_loadB rfl rfl flat3 ((HS325.keep hq).cells_box (i := 4) rfl) rfl) ?_
        refine Q_val rfl rfl rfl (fun wq hq => O_lt rfl rfl rfl) ?_
        refine Q_val rfl rfl rfl (fun wq hq => O_move rfl rfl) ?_
        refine Q_grp 4 [(20, .bool (decide (((rdx E_api_Run l_runs_0 t313).1 < 0) ∨ (19 ≤ (rdx E_api_Run l_runs_0 t313).1)))), (4, .slice A310 l312.length c311), (6, .pointer (some ⟨g322, 0, none⟩)), (7, .slice A_runs_0 l_runs_0.length c_runs_0), (8, .int .i64 (l_runs_0.length : Int)), (9, .int .i64 t313)] ?_ ?_
        · rcases Decidable.em ((rdx E_api_Run l_runs_0 t313).1 < 0) with c329 | c329
          · refine Q_know (i := 16) rfl (dec_t c329) ?_
            refine Q_gskip rfl rfl rfl rfl rfl rfl rfl ?_
            refine Q_gskip rfl rfl rfl rfl rfl rfl rfl ?_
            refine Q_gskip rfl rfl rfl rfl rfl rfl rfl ?_
            refine Q_val rfl rfl rfl (fun wq hq => O_pickT rfl rfl rfl) ?_
            refine Q_know (i := 20) rfl (dec_or_t (q := 19 ≤ (rdx E_api_Run l_runs_0 t313).1) c329) ?_
            exact Q_grpE (fun a ha => Is.cons ha (Is.cons ha (Is.cons ha (Is.cons ha (Is.cons ha (Is.cons ha (Is.nil ha) rfl) rfl) rfl) rfl) rfl) rfl)
          · refine Q_know (i := 16) rfl (dec_f c329) ?_
            refine Q_gval rfl rfl rfl rfl rfl rfl (fun wq hq => O_fieldB rfl rfl field37_0) ?_
            refine Q_gval rfl rfl rfl rfl rfl rfl (fun wq hq => O_loadB rfl rfl flat3 ((HS325.keep hq).cells_box (i := 4) rfl) rfl) ?_
            refine Q_gval rfl rfl rfl rfl rfl rfl (fun wq hq => O_ge rfl rfl rfl) ?_
            refine Q_val rfl rfl rfl (fun wq hq => O_pickF rfl rfl rfl) ?_
            refine Q_know (i := 20) rfl (dec_or_f (q := 19 ≤ (rdx E_api_Run l_runs_0 t313).1) c329) ?_
            exact Q_grpE (fun a ha => Is.cons ha (Is.cons ha (Is.cons ha (Is.cons ha (Is.cons ha (Is.cons ha (Is.nil ha) rfl) rfl) rfl) rfl) rfl) rfl)
        · skip
          refine Q_val rfl rfl rfl (fun wq hq => O_move rfl rfl) ?_
          obtain ⟨b332, Hb332, H⟩ := of_bind H
          refine Q_grp 8 [(29, .bool b332), (4, .slice A310 l312.length c311), (6, .pointer (some ⟨g322, 0, none⟩)), (7, .slice A_runs_0 l_runs_0.length c_runs_0), (8, .int .i64 (l_runs_0.length : Int)), (9, .int .i64 t313)] ?_ ?_
          · rcases Decidable.em (((rdx E_api_Run l_runs_0 t313).1 < 0) ∨ (19 ≤ (rdx E_api_Run l_runs_0 t313).1)) with c336 | c336
            · refine Q_know (i := 21) rfl (dec_t c336) ?_
              have H := of_pos Hb332 c336
              refine Q_gskip rfl rfl rfl rfl rfl rfl rfl ?_
              refine Q_gskip rfl rfl rfl rfl rfl rfl rfl ?_
              refine Q_gskip rfl rfl rfl rfl rfl rfl rfl ?_
              refine Q_gskip rfl rfl rfl rfl rfl rfl rfl ?_
              refine Q_gskip rfl rfl rfl rfl rfl rfl rfl ?_
              refine Q_gskip rfl rfl rfl rfl rfl rfl rfl ?_
              refine Q_gskip rfl rfl rfl rfl rfl rfl rfl ?_
              refine Q_val rfl rfl rfl (fun wq hq => O_pickT rfl rfl rfl) ?_
              refine Q_know (i := 29) rfl (congrArg Value.bool (Option.some.inj H)) ?_
              exact Q_grpE (fun a ha => Is.cons ha (Is.cons ha (Is.cons ha (Is.cons ha (Is.cons ha (Is.cons ha (Is.nil ha) rfl) rfl) rfl) rfl) rfl) rfl)
            · refine Q_know (i := 21) rfl (dec_f c336) ?_
              have H := of_neg Hb332 c336
              refine Q_gval rfl rfl rfl rfl rfl rfl (fun wq hq => O_fieldB rfl rfl field37_1) ?_
              refine Q_gval rfl rfl rfl rfl rfl rfl (fun wq hq => O_loadB rfl rfl flat3 ((HS325.keep hq).cells_box (i := 4) rfl) rfl) ?_
              refine Q_gval rfl rfl rfl rfl rfl rfl (fun wq hq => O_fieldB rfl rfl field37_0) ?_
              refine Q_gval rfl rfl rfl rfl rfl rfl (fun wq hq => O_loadB rfl rfl flat3 ((HS325.keep hq).cells_box (i := 4) rfl) rfl) ?_
              obtain ⟨⟨g337, g338⟩, H⟩ := of_gd H
              refine Q_gval rfl rfl rfl rfl rfl rfl (fun wq hq => O_idxA rfl rfl rfl Tryd.underlying50 size3 g337 g338) ?_
              refine Q_gval rfl rfl rfl rfl rfl rfl (fun wq hq => O_loadB rfl rfl flat3 ((HS325.keep hq).cells_rd (i := 1) rfl) (at0 (int_cell g337 (arr_lt T_header_least_len g338)))) ?_
              refine Q_gval rfl rfl rfl rfl rfl rfl (fun wq hq => O_lt rfl rfl rfl) ?_
              refine Q_val rfl rfl rfl (fun wq hq => O_pickF rfl rfl rfl) ?_
              refine Q_know (i := 29) rfl (congrArg Value.bool (Option.some.inj H)) ?_
              exact Q_grpE (fun a ha => Is.cons ha (Is.cons ha (Is.cons ha (Is.cons ha (Is.cons ha (Is.cons ha (Is.nil ha) rfl) rfl) rfl) rfl) rfl) rfl)
          · skip
            refine Q_val rfl rfl rfl (fun wq hq => O_move rfl rfl) ?_
            obtain ⟨b342, Hb342, H⟩ := of_bind H
            refine Q_grp 14 [(44, .bool b342), (4, .slice A310 l312.length c311), (6, .pointer (some ⟨g322, 0, none⟩)), (7, .slice A_runs_0 l_runs_0.length c_runs_0), (8, .int .i64 (l_runs_0.length : Int)), (9, .int .i64 t313)] ?_ ?_
            · rcases Decidable.em (b332 = true) with c346 | c346
              · refine Q_know (i := 30) rfl (congrArg Value.bool c346) ?_
                have H := of_pos Hb342 c346
                refine Q_gskip rfl rfl rfl rfl rfl rfl rfl ?_
                refine Q_gskip rfl rfl rfl rfl rfl rfl rfl ?_
                refine Q_gskip rfl rfl rfl rfl rfl rfl rfl ?_
                refine Q_gskip rfl rfl rfl rfl rfl rfl rfl ?_
                refine Q_gskip rfl rfl rfl rfl rfl rfl rfl ?_
                refine Q_gskip rfl rfl rfl rfl rfl rfl rfl ?_
                refine Q_gskip rfl rfl rfl rfl rfl rfl rfl ?_
                refine Q_gskip rfl rfl rfl rfl rfl rfl rfl ?_
                refine Q_gskip rfl rfl rfl rfl rfl rfl rfl ?_
                refine Q_gskip rfl rfl rfl rfl rfl rfl rfl ?_
                refine Q_gskip rfl rfl rfl rfl rfl rfl rfl ?_
                refine Q_gskip rfl rfl rfl rfl rfl rfl rfl ?_
                refine Q_gskip rfl rfl rfl rfl rfl rfl rfl ?_
                refine Q_val rfl rfl rfl (fun wq hq => O_pickT rfl rfl rfl) ?_
                refine Q_know (i := 44) rfl (congrArg Value.bool (Option.some.inj H)) ?_
                exact Q_grpE (fun a ha => Is.cons ha (Is.cons ha (Is.cons ha (Is.cons ha (Is.cons ha (Is.cons ha (Is.nil ha) rfl) rfl) rfl) rfl) rfl) rfl)
              · refine Q_know (i := 30) rfl (congrArg Value.bool (Bool.eq_false_iff.mpr c346)) ?_
                have H := of_neg Hb342 c346
                refine Q_gval rfl rfl rfl rfl rfl rfl (fun wq hq => O_fieldB rfl rfl field37_1) ?_
                refine Q_gval rfl rfl rfl rfl rfl rfl (fun wq hq => O_loadB rfl rfl flat3 ((HS325.keep hq).cells_box (i := 4) rfl) rfl) ?_
                refine Q_gval rfl rfl rfl rfl rfl rfl (fun wq hq => O_fieldB rfl rfl field37_0) ?_
                refine Q_gval rfl rfl rfl rfl rfl rfl (fun wq hq => O_loadB rfl rfl flat3 ((HS325.keep hq).cells_box (i := 4) rfl) rfl) ?_
                obtain ⟨⟨g347, g348⟩, H⟩ := of_gd H
                refine Q_gval rfl rfl rfl rfl rfl rfl (fun wq hq => O_idxA rfl rfl rfl Tryd.underlying50 size3 g347 g348) ?_
                refine Q_gval rfl rfl rfl rfl rfl rfl (fun wq hq => O_loadB rfl rfl flat3 ((HS325.keep hq).cells_rd (i := 1) rfl) (at0 (int_cell g347 (arr_lt T_header_least_len g348)))) ?_
                refine Q_gval rfl rfl rfl rfl rfl rfl (fun wq hq => O_sub rfl rfl rfl) ?_
                refine Q_gval rfl rfl rfl rfl rfl rfl (fun wq hq => O_fieldB rfl rfl field37_0) ?_
                refine Q_gval rfl rfl rfl rfl rfl rfl (fun wq hq => O_loadB rfl rfl flat3 ((HS325.keep hq).cells_box (i := 4) rfl) rfl) ?_
                refine Q_gval rfl rfl rfl rfl rfl rfl (fun wq hq => O_idxA rfl rfl rfl Tryd.underlying50 size3 g347 g348) ?_
                refine Q_gval rfl rfl rfl rfl rfl rfl (fun wq hq => O_loadB rfl rfl flat3 ((HS325.keep hq).cells_rd (i := 2) rfl) (at0 (int_cell g347 (arr_lt T_header_further_len g348)))) ?_
                obtain ⟨g349, H⟩ := of_gd H
                refine Q_gval rfl rfl rfl rfl rfl rfl (fun wq hq => O_shl rfl rfl rfl g349) ?_
                refine Q_gval rfl rfl rfl rfl rfl rfl (fun wq hq => O_ge rfl rfl rfl) ?_
                refine Q_val rfl rfl rfl (fun wq hq => O_pickF rfl rfl rfl) ?_
                refine Q_know (i := 44) rfl (congrArg Value.bool (Option.some.inj H)) ?_
                exact Q_grpE (fun a ha => Is.cons ha (Is.cons ha (Is.cons ha (Is.cons ha (Is.cons ha (Is.cons ha (Is.nil ha) rfl) rfl) rfl) rfl) rfl) rfl)
            · skip
              refine Q_nil (fun w350 hw351 => ?_)
              have HS352 := HS325.keep hw351
              refine L_cond rfl (fun c353 => ?_) (fun c353 => ?_)
              · have H := of_pos H c353
                refine L_seq ?_
                refine L_region ?_
                refine F_val rfl rfl rfl (O_assign rfl rfl) ?_
                refine F_val rfl rfl rfl (O_assign rfl rfl) ?_
                refine F_nil ?_
                have HS354 := HS352.addNil 3 (Eint .i64).sz
                refine L_ret (fun a ha => (hO317 .ret a _ rfl (hOp309 .ret a _ rfl (hOb190 .ret a _ rfl (hOj3 .ret a _ rfl (post_ret2 ha rfl rfl rfl ?_))))))
                obtain rfl := Option.some.inj H
                obtain rfl := Option.some.inj (show (some (([] : List Int), 77) : Option (List Int × Int)) = some _ from HOj3)
                exact ⟨_, _, rfl, HS354.sel [5] rfl⟩
              · have H := of_neg H (by rw [c353]; exact Bool.false_ne_true)
                refine L_skip ?_
                refine L_seq ?_
                refine L_seq ?_
                refine L_region ?_
                refine F_val rfl rfl rfl (O_fieldB rfl rfl field37_0) ?_
                refine F_val rfl rfl rfl (O_loadB rfl rfl flat3 (HS352.cells_box (i := 4) rfl) rfl) ?_
                refine F_val rfl rfl rfl (O_eq rfl rfl rfl) ?_
                refine F_val rfl rfl rfl (O_move rfl rfl) ?_
                refine F_grp 4 [(52, .bool (decide (((rdx E_api_Run l_runs_0 t313).1 = 16) ∧ ((l312.length : Int) = 0)))), (4, .slice A310 l312.length c311), (6, .pointer (some ⟨g322, 0, none⟩)), (7, .slice A_runs_0 l_runs_0.length c_runs_0), (8, .int .i64 (l_runs_0.length : Int)), (9, .int .i64 t313)] ?_ ?_
                · rcases Decidable.em ((rdx E_api_Run l_runs_0 t313).1 = 16) with c359 | c359
                  · refine F_know (i := 48) rfl (dec_t c359) ?_
                    refine F_gval rfl rfl rfl rfl rfl rfl (O_move rfl rfl) ?_
                    refine F_gval rfl rfl rfl rfl rfl rfl (O_len rfl rfl Tryd.underlying38) ?_
                    refine F_gval rfl rfl rfl rfl rfl rfl (O_eq rfl rfl rfl) ?_
                    refine F_val rfl rfl rfl (O_pickT rfl rfl rfl) ?_
                    refine F_know (i := 52) rfl (dec_and_t (q := (l312.length : Int) = 0) c359) ?_
                    exact F_grpE (fun a ha => Is.cons ha (Is.cons ha (Is.cons ha (Is.cons ha (Is.cons ha (Is.cons ha (Is.nil ha) rfl) rfl) rfl) rfl) rfl) rfl)
                  · refine F_know (i := 48) rfl (dec_f c359) ?_
                    refine F_gskip rfl rfl rfl rfl rfl rfl rfl ?_
                    refine F_gskip rfl rfl rfl rfl rfl rfl rfl ?_
                    refine F_gskip rfl rfl rfl rfl rfl rfl rfl ?_
                    refine F_val rfl rfl rfl (O_pickF rfl rfl rfl) ?_
                    refine F_know (i := 52) rfl (dec_and_f (q := (l312.length : Int) = 0) c359) ?_
                    exact F_grpE (fun a ha => Is.cons ha (Is.cons ha (Is.cons ha (Is.cons ha (Is.cons ha (Is.cons ha (Is.nil ha) rfl) rfl) rfl) rfl) rfl) rfl)
                · skip
                  refine F_nil ?_
                  refine L_condP rfl (fun c360 => ?_) (fun c360 => ?_)
                  · have H := of_pos H c360
                    refine L_seq ?_
                    refine L_region ?_
                    refine F_val rfl rfl rfl (O_assign rfl rfl) ?_
                    refine F_val rfl rfl rfl (O_assign rfl rfl) ?_
                    refine F_nil ?_
                    have HS361 := HS352.addNil 3 (Eint .i64).sz
                    refine L_ret (fun a ha => (hO317 .ret a _ rfl (hOp309 .ret a _ rfl (hOb190 .ret a _ rfl (hOj3 .ret a _ rfl (post_ret2 ha rfl rfl rfl ?_))))))
                    obtain rfl := Option.some.inj H
                    obtain rfl := Option.some.inj (show (some (([] : List Int), 73) : Option (List Int × Int)) = some _ from HOj3)
                    exact ⟨_, _, rfl, HS361.sel [5] rfl⟩
                  · have H := of_neg H c360
                    refine L_skip ?_
                    refine L_region ?_
                    refine F_val rfl rfl rfl (O_move rfl rfl) ?_
                    refine F_val rfl rfl rfl (O_loadWB' (k := 0) (vs := [.int .i64 ((rdx E_api_Run l_runs_0 t313).1), .int .i64 ((rdx E_api_Run l_runs_0 t313).2)]) rfl rfl wide37 (HS352.cells_box (i := 4) rfl) rfl rfl (by simp)) ?_
                    obtain ⟨z367, h366, H⟩ := of_bind H
                    refine F_call (xs := [.tmp 53, .tmp 54]) rfl rfl rfl rfl Tryd.func28 nm28 rfl rfl ((header_lay.calls (HS352.give [3] rfl (Lent.nil)) h366).mono (fun e w hc => ?_))
                    obtain ⟨A370, c371, rfl, HSo⟩ := hc
                    refine ⟨.slice A370 z367.length c371, rfl, ?_⟩
                    have HS369 : Hp S0 w0 w [.rd A_runs_0 (rowC E_api_Run l_runs_0), .rd (some ⟨4, 0, none⟩) (rowC (Eint .i64) T_header_least), .rd (some ⟨5, 0, none⟩) (rowC (Eint .i64) T_header_further), .own A370 c371 (rowC (Eint .i64) z367) 3 (Eint .i64).sz, .box g322 [.int .i64 ((rdx E_api_Run l_runs_0 t313).1), .int .i64 ((rdx E_api_Run l_runs_0 t313).2)] 37] := (HS352.back [3] HSo rfl).sel [0, 1, 2, 5, 4] rfl
                    refine F_val rfl rfl rfl (O_assign rfl rfl) ?_
                    refine F_nil ?_
                    refine L_endB hN317 ?_
                    refine L_region ?_
                    refine F_val rfl rfl rfl (O_add rfl rfl rfl) ?_
                    refine F_val rfl rfl rfl (O_move rfl rfl) ?_
                    refine F_nil ?_
                    refine L_nil (fun a ha => hNp309 _ a _ (Nat.lt_succ_self _) ⟨_, _, _, _, Is.cons ha (Is.cons ha (Is.cons ha (Is.cons ha (Is.nil ha) rfl) rfl) rfl) rfl, HS369.sel [0, 1, 2, 3] rfl, H⟩)
      · have H := of_neg H c316
        refine L_exitB (fun a w h => hOp309 (.exit 0) a w rfl (hXb190 a w h)) ?_
        refine L_nil (fun a ha => hNj3 a _ ⟨_, _, _, (Option.some.inj H).symm, Is.cons ha (Is.nil ha) rfl, HS315.sel [0, 1, 2, 3] rfl⟩)
  · obtain ⟨l189, A187, c188, rfl, ha, HS374⟩ := hR
    refine wpLF_app ?_ ha
    have H := (onR_inr _ _ _).symm.trans H
    refine L_seq ?_
    refine L_region ?_
    refine F_val rfl rfl rfl (O_move rfl rfl) ?_
    refine F_val rfl rfl rfl (O_assign rfl rfl) ?_
    refine F_val rfl rfl rfl (O_assign rfl rfl) ?_
    refine F_nil ?_
    refine L_ret (fun a ha => (post_ret2 ha rfl rfl rfl ?_))
    obtain rfl := Option.some.inj H
    exact ⟨_, _, rfl, HS374.sel [3] rfl⟩

/-! function 29: valise/valiseref7.Further -/
theorem valiseref7_Further.calls {S0 : Nat → Prop} {w0 : World} {sym_0 : Int} {r : Int × Int} (HS0 : Hp S0 w0 w0 []) (h : valiseref7_Further.f sym_0 = some r) :
    Calls Tryd.prog 29 ([.int .i64 sym_0] : List Value).toArray w0 (fun e w => e = .returned (.tuple #[.int .i64 r.1, .int .i64 r.2]) ∧ Hp S0 w0 w []) := by
  have H : ((if sym_0 = 16 then (some (2, 3)) else (if sym_0 = 17 then (some (3, 3)) else (if sym_0 = 18 then (some (7, 11)) else (some (0, 1))))) : Option (Int × Int)) = some r := h
  refine calls_start Tryd.func29 rfl rfl ?_
  refine L_seq ?_
  refine L_region ?_
  refine F_val rfl rfl rfl (O_assign rfl rfl) ?_
  refine F_val rfl rfl rfl (O_assign rfl rfl) ?_
  refine F_nil ?_
  refine L_seq ?_
  refine L_seq ?_
  refine L_region ?_
  refine F_val rfl rfl rfl (O_move rfl rfl) ?_
  refine F_nil ?_
  refine L_blk (fun Q1 hN1 hX1 hO1 => ?_)
  refine L_seq ?_
  refine L_region ?_
  refine F_val rfl rfl rfl (O_eq rfl rfl rfl) ?_
  refine F_val rfl rfl rfl (O_assign rfl rfl) ?_
  refine F_nil ?_
  refine L_condP rfl (fun c2 => ?_) (fun c2 => ?_)
  · have H := of_pos H c2
    refine L_seq ?_
    refine L_region ?_
    refine F_val rfl rfl rfl (O_assign rfl rfl) ?_
    refine F_val rfl rfl rfl (O_assign rfl rfl) ?_
    refine F_nil ?_
    refine L_ret (fun a ha => (hO1 .ret a _ rfl (post_ret2 ha rfl rfl rfl ?_)))
    obtain rfl := Option.some.inj H
    exact ⟨rfl, HS0.sel [] rfl⟩
  · have H := of_neg H c2
    refine L_seq ?_
    refine L_region ?_
    refine F_val rfl rfl rfl (O_eq rfl rfl rfl) ?_
    refine F_val rfl rfl rfl (O_assign rfl rfl) ?_
    refine F_nil ?_
    refine L_condP rfl (fun c3 => ?_) (fun c3 => ?_)
    · have H := of_pos H c3
      refine L_seq ?_
      refine L_region ?_
      refine F_val rfl rfl rfl (O_assign rfl rfl) ?_
      refine F_val rfl rfl rfl (O_assign rfl rfl) ?_
      refine F_nil ?_
      refine L_ret (fun a ha => (hO1 .ret a _ rfl (post_ret2 ha rfl rfl rfl ?_)))
      obtain rfl := Option.some.inj H
      exact ⟨rfl, HS0.sel [] rfl⟩
    · have H := of_neg H c3
      refine L_seq ?_
      refine L_region ?_
      refine F_val rfl rfl rfl (O_eq rfl rfl rfl) ?_
      refine F_val rfl rfl rfl (O_assign rfl rfl) ?_
      refine F_nil ?_
      refine L_condP rfl (fun c4 => ?_) (fun c4 => ?_)
      · have H := of_pos H c4
        refine L_seq ?_
        refine L_region ?_
        refine F_val rfl rfl rfl (O_assign rfl rfl) ?_
        refine F_val rfl rfl rfl (O_assign rfl rfl) ?_
        refine F_nil ?_
        refine L_ret (fun a ha => (hO1 .ret a _ rfl (post_ret2 ha rfl rfl rfl ?_)))
        obtain rfl := Option.some.inj H
        exact ⟨rfl, HS0.sel [] rfl⟩
      · have H := of_neg H c4
        refine L_skip ?_
        refine L_endB hN1 ?_
        refine L_seq ?_
        refine L_region ?_
        refine F_val rfl rfl rfl (O_assign rfl rfl) ?_
        refine F_val rfl rfl rfl (O_assign rfl rfl) ?_
        refine F_nil ?_
        refine L_ret (fun a ha => (post_ret2 ha rfl rfl rfl ?_))
        obtain rfl := Option.some.inj H
        exact ⟨rfl, HS0.sel [] rfl⟩

/-! function 30: valise/valiseref7.most -/
theorem valiseref7_most.calls {S0 : Nat → Prop} {w0 : World} {sym_0 : Int} {r : Int} (HS0 : Hp S0 w0 w0 []) (h : valiseref7_most.f sym_0 = some r) :
    Calls Tryd.prog 30 ([.int .i64 sym_0] : List Value).toArray w0 (fun e w => e = .returned (.int .i64 r) ∧ Hp S0 w0 w []) := by
  have H : (((valiseref7_Further.f sym_0).bind fun (z3, z4) => gd (¬ (IntKind.u64.wrap z3) < 0) (some (IntKind.i64.wrap ((IntKind.i64.wrap (z4 + (shl .i64 1 (IntKind.u64.wrap z3)))) - 1)))) : Option (Int)) = some r := h
  refine calls_start Tryd.func30 rfl rfl ?_
  refine L_seq ?_
  refine L_region ?_
  refine F_val rfl rfl rfl (O_assign rfl rfl) ?_
  refine F_nil ?_
  refine L_seq ?_
  refine L_region ?_
  refine F_val rfl rfl rfl (O_move rfl rfl) ?_
  obtain ⟨⟨z3, z4⟩, h2, H⟩ := of_bind H
  refine F_qcall (v := .tuple #[.int .i64 z3, .int .i64 z4]) (xs := [.tmp 6]) rfl rfl rfl rfl Tryd.func29 nm29 rfl rfl ((valiseref7_Further.calls (HS0.give [] rfl (Lent.nil)) h2).mono (fun e w hc => ?_)) (fun w5 hw6 => ?_)
  · obtain ⟨rfl, h⟩ := hc
    exact ⟨rfl, h.chg0⟩
  have HS7 := HS0.keep hw6
  refine F_val rfl rfl rfl (O_move rfl rfl) ?_
  refine F_val rfl rfl rfl (O_extract (v := .int .i64 z3) rfl rfl rfl) ?_
  refine F_val rfl rfl rfl (O_extract (v := .int .i64 z4) rfl rfl rfl) ?_
  refine F_val rfl rfl rfl (O_assign rfl rfl) ?_
  refine F_val rfl rfl rfl (O_assign rfl rfl) ?_
  refine F_nil ?_
  refine L_seq ?_
  refine L_region ?_
  refine F_val rfl rfl rfl (O_move rfl rfl) ?_
  refine F_val rfl rfl rfl (O_move rfl rfl) ?_
  refine F_val rfl rfl rfl (O_conv rfl rfl ⟨_, Tryd.underlying3⟩ Tryd.underlying46) ?_
  obtain ⟨g8, H⟩ := of_gd H
  refine F_val rfl rfl rfl (O_shl rfl rfl rfl g8) ?_
  refine F_val rfl rfl rfl (O_add rfl rfl rfl) ?_
  refine F_val rfl rfl rfl (O_sub rfl rfl rfl) ?_
  refine F_val rfl rfl rfl (O_assign rfl rfl) ?_
  refine F_nil ?_
  refine L_ret (fun a ha => (post_ret1 ha rfl rfl ?_))
  obtain rfl := Option.some.inj H
  exact ⟨rfl, HS7.sel [] rfl⟩

/-! function 20: valise/valiseref7.Expand -/
theorem valiseref7_Expand.calls {S0 : Nat → Prop} {w0 : World} {A_runs_0 : Option Addr} {c_runs_0 : Nat} {l_runs_0 : List (Int × Int)} {r : List Int × Int} (HS0 : Hp S0 w0 w0 [.rd A_runs_0 (rowC E_api_Run l_runs_0)]) (hc_runs_0 : l_runs_0.length ≤ c_runs_0) (h : valiseref7_Expand.f l_runs_0 = some r) :
    Calls Tryd.prog 20 ([.slice A_runs_0 l_runs_0.length c_runs_0] : List Value).toArray w0 (fun e w => ∃ (A1 : Option Addr), ∃ (c1 : Nat), e = .returned (.tuple #[.slice A1 r.1.length c1, .int .i64 r.2]) ∧ Hp S0 w0 w [.own A1 c1 (rowC (Eint .i64) r.1) 3 (Eint .i64).sz]) := by
  have H : (((valiseref7_Expand.l11 FU ([] : List Int) 0 l_runs_0).bind fun (yj3 : Sum (List Int × Int) (List Int)) => onR yj3 (fun r => some r) fun l597 => some (l597, 0)) : Option (List Int × Int)) = some r := h
  refine calls_start Tryd.func20 rfl rfl ?_
  refine L_seq ?_
  refine L_region ?_
  refine F_val rfl rfl rfl (O_assign rfl rfl) ?_
  refine F_val rfl rfl rfl (O_assign rfl rfl) ?_
  refine F_nil ?_
  refine L_seq ?_
  refine L_region ?_
  refine F_val rfl rfl rfl (O_assign rfl rfl) ?_
  have HS1 := HS0.addNil 3 (Eint .i64).sz
  have HS1 : Hp S0 w0 w0 [.rd A_runs_0 (rowC E_api_Run l_runs_0), .own none 0 (rowC (Eint .i64) ([] : List Int)) 3 (Eint .i64).sz] := HS1
  refine F_nil ?_
  refine L_seq ?_
  refine L_seq ?_
  refine L_region ?_
  refine F_val rfl rfl rfl (O_assign rfl rfl) ?_
  refine F_nil ?_
  obtain ⟨yj3, Hyj3, H⟩ := of_bind H
  refine L_join (fun a w => ∃ (l597 : List Int), ∃ (A595 : Option Addr), ∃ (c596 : Nat), yj3 = Sum.inr l597 ∧ Is Tryd.f20.ntmps a [(4, .slice A595 l597.length c596)] ∧ Hp S0 w0 w [.rd A_runs_0 (rowC E_api_Run l_runs_0), .own A595 c596 (rowC (Eint .i64) l597) 3 (Eint .i64).sz]) (fun Qj3 hNj3 hOj3 => ?_) (fun a w hR => ?_)
  · have HOj3 := H
    have H := Hyj3
    refine L_blk (fun Qb598 hNb598 hXb598 hOb598 => ?_)
    refine L_lp (fun k a w => ∃ (l992 : List Int), ∃ (i_993 : Int), ∃ (A990 : Option Addr), ∃ (c991 : Nat), Is Tryd.f20.ntmps a [(0, .slice A_runs_0 l_runs_0.length c_runs_0), (4, .slice A990 l992.length c991), (5, .int .i64 i_993)] ∧ Hp S0 w0 w [.rd A_runs_0 (rowC E_api_Run l_runs_0), .own A990 c991 (rowC (Eint .i64) l992) 3 (Eint .i64).sz] ∧ valiseref7_Expand.l11 k l992 i_993 l_runs_0 = some yj3) FU (fun a ha => ⟨_, _, _, _, Is.cons ha (Is.cons ha (Is.cons ha (Is.nil ha) rfl) rfl) rfl, HS1.sel [0, 1] rfl, H⟩) (fun kp989 a w994 hI Qp989 hNp989 hOp989 => ?_)
    obtain ⟨l992, i_993, A990, c991, ha, HS995, HAp989⟩ := hI
    cases kp989 with
    | zero => cases (show (none : Option _) = some _ from HAp989)
    | succ kp989 =>
      have H := (valiseref7_Expand.l11.eq_2 ..).symm.trans HAp989
      refine wpLF_app ?_ ha
      refine L_seq ?_
      refine L_seq ?_
      refine L_region ?_
      refine F_val rfl rfl rfl (O_move rfl rfl) ?_
      refine F_val rfl rfl rfl (O_move rfl rfl) ?_
      refine F_val rfl rfl rfl (O_len rfl rfl Tryd.underlying34) ?_
      refine F_val rfl rfl rfl (O_lt rfl rfl rfl) ?_
      refine F_nil ?_
      refine L_condP rfl (fun c996 => ?_) (fun c996 => ?_)
      · have H := of_pos H c996
        refine L_skip ?_
        refine L_seq ?_
        refine L_blk (fun Q997 hN997 hX997 hO997 => ?_)
        refine L_seq ?_
        refine L_region ?_
        refine F_val rfl rfl rfl (O_move rfl rfl) ?_
        refine F_val rfl rfl rfl (O_move rfl rfl) ?_
        obtain ⟨⟨g998, g999⟩, H⟩ := of_gd H
        refine F_val rfl rfl rfl (O_idx rfl rfl rfl Tryd.underlying34 size37 g998 g999 (Cells.isA (HS995.cells_rd (i := 0) rfl) (rowC_ne (E := E_api_Run) g998 g999 (by decide)))) ?_
        refine F_val rfl rfl rfl (O_loadEl (E := E_api_Run) rfl rfl wide37 (HS995.cells_rd (i := 0) rfl) g998 g999 (by decide)) ?_
        refine F_alloc (C := [.int .i64 0, .int .i64 0]) rfl rfl rfl rfl zero37 rfl HS995 (fun w1000 g1002 HS1001 => ?_)
        have HS1001 : Hp S0 w0 w1000 [.rd A_runs_0 (rowC E_api_Run l_runs_0), .own A990 c991 (rowC (Eint .i64) l992) 3 (Eint .i64).sz, .box g1002 [.int .i64 0, .int .i64 0] 37] := HS1001
        refine F_stB 2 ([.int .i64 ((rdx E_api_Run l_runs_0 i_993).1), .int .i64 ((rdx E_api_Run l_runs_0 i_993).2)]) rfl rfl rfl rfl rfl size37 HS1001 rfl rfl rfl rfl rfl (fun w1004 HS1005 => ?_)
        have HS1005 : Hp S0 w0 w1004 [.rd A_runs_0 (rowC E_api_Run l_runs_0), .own A990 c991 (rowC (Eint .i64) l992) 3 (Eint .i64).sz, .box g1002 [.int .i64 ((rdx E_api_Run l_runs_0 i_993).1), .int .i64 ((rdx E_api_Run l_runs_0 i_993).2)] 37] := HS1005
        refine F_nil ?_
        refine L_seq ?_
        refine L_seq ?_
        refine L_region ?_
        refine F_val rfl rfl rfl (O_fieldB rfl rfl field37_0) ?_
        refine F_val rfl rfl rfl (O_loadB rfl rfl flat3 (HS1005.cells_box (i := 2) rfl) rfl) ?_
        refine F_val rfl rfl rfl (O_lt rfl rfl rfl) ?_
        refine F_val rfl rfl rfl (O_move rfl rfl) ?_
        refine F_grp 4 [(28, .bool (decide (((rdx E_api_Run l_runs_0 i_993).1 < 0) ∨ (18 < (rdx E_api_Run l_runs_0 i_993).1)))), (0, .slice A_runs_0 l_runs_0.length c_runs_0), (4, .slice A990 l992.length c991), (5, .int .i64 i_993), (6, .pointer (some ⟨g1002, 0, none⟩))] ?_ ?_
        · rcases Decidable.em ((rdx E_api_Run l_runs_0 i_993).1 < 0) with c1009 | c1009
          · refine F_know (i := 24) rfl (dec_t c1009) ?_
            refine F_gskip rfl rfl rfl rfl rfl rfl rfl ?_
            refine F_gskip rfl rfl rfl rfl rfl rfl rfl ?_
            refine F_gskip rfl rfl rfl rfl rfl rfl rfl ?_
            refine F_val rfl rfl rfl (O_pickT rfl rfl rfl) ?_
            refine F_know (i := 28) rfl (dec_or_t (q := 18 < (rdx E_api_Run l_runs_0 i_993).1) c1009) ?_
            exact F_grpE (fun a ha => Is.cons ha (Is.cons ha (Is.cons ha (Is.cons ha (Is.cons ha (Is.nil ha) rfl) rfl) rfl) rfl) rfl)
          · refine F_know (i := 24) rfl (dec_f c1009) ?_
            refine F_gval rfl rfl rfl rfl rfl rfl (O_fieldB rfl rfl field37_0) ?_
            refine F_gval rfl rfl rfl rfl rfl rfl (O_loadB rfl rfl flat3 (HS1005.cells_box (i := 2) rfl) rfl) ?_
            refine F_gval rfl rfl rfl rfl rfl rfl (O_gt rfl rfl rfl) ?_
            refine F_val rfl rfl rfl (O_pickF rfl rfl rfl) ?_
            refine F_know (i := 28) rfl (dec_or_f (q := 18 < (rdx E_api_Run l_runs_0 i_993).1) c1009) ?_
            exact F_grpE (fun a ha => Is.cons ha (Is.cons ha (Is.cons ha (Is.cons ha (Is.cons ha (Is.nil ha) rfl) rfl) rfl) rfl) rfl)
        · skip
          refine F_nil ?_
          refine L_condP rfl (fun c1010 => ?_) (fun c1010 => ?_)
          · have H := of_pos H c1010
            refine L_seq ?_
            refine L_region ?_
            refine F_val rfl rfl rfl (O_assign rfl rfl) ?_
            refine F_val rfl rfl rfl (O_assign rfl rfl) ?_
            refine F_nil ?_
            have HS1011 := HS1005.addNil 3 (Eint .i64).sz
            refine L_ret (fun a ha => (hO997 .ret a _ rfl (hOp989 .ret a _ rfl (hOb598 .ret a _ rfl (hOj3 .ret a _ rfl (post_ret2 ha rfl rfl rfl ?_))))))
            obtain rfl := Option.some.inj H
            obtain rfl := Option.some.inj (show (some (([] : List Int), 77) : Option (List Int × Int)) = some _ from HOj3)
            exact ⟨_, _, rfl, HS1011.sel [3] rfl⟩
          · have H := of_neg H c1010
            refine L_skip ?_
            refine L_seq ?_
            refine L_region ?_
            refine F_val rfl rfl rfl (O_fieldB rfl rfl field37_0) ?_
            refine F_val rfl rfl rfl (O_loadB rfl rfl flat3 (HS1005.cells_box (i := 2) rfl) rfl) ?_
            obtain ⟨⟨z1015, z1016⟩, h1014, H⟩ := of_bind H
            refine F_qcall (v := .tuple #[.int .i64 z1015, .int .i64 z1016]) (xs := [.tmp 31]) rfl rfl rfl rfl Tryd.func29 nm29 rfl rfl ((valiseref7_Further.calls (HS1005.give [] rfl (Lent.nil)) h1014).mono (fun e w hc => ?_)) (fun w1017 hw1018 => ?_)
            · obtain ⟨rfl, h⟩ := hc
              exact ⟨rfl, h.chg0⟩
            have HS1019 := HS1005.keep hw1018
            refine F_val rfl rfl rfl (O_move rfl rfl) ?_
            refine F_val rfl rfl rfl (O_extract (v := .int .i64 z1015) rfl rfl rfl) ?_
            refine F_val rfl rfl rfl (O_extract (v := .int .i64 z1016) rfl rfl rfl) ?_
            refine F_val rfl rfl rfl (O_assign rfl rfl) ?_
            refine F_val rfl rfl rfl (O_assign rfl rfl) ?_
            refine F_nil ?_
            refine L_seq ?_
            refine L_seq ?_
            refine L_quiet mix (by kernel_rfl) ?_
            refine Q_val rfl rfl rfl (fun wq hq => O_fieldB rfl rfl field37_1) ?_
            refine Q_val rfl rfl rfl (fun wq hq => O_loadB rfl rfl flat3 ((HS1019.keep hq).cells_box (i := 2) rfl) rfl) ?_
            refine Q_val rfl rfl rfl (fun wq hq => O_move rfl rfl) ?_
            refine Q_val rfl rfl rfl (fun wq hq => O_lt rfl rfl rfl) ?_
            refine Q_val rfl rfl rfl (fun wq hq => O_move rfl rfl) ?_
            obtain ⟨b1023, Hb1023, H⟩ := of_bind H
            refine Q_grp 7 [(46, .bool b1023), (0, .slice A_runs_0 l_runs_0.length c_runs_0), (4, .slice A990 l992.length c991), (5, .int .i64 i_993), (6, .pointer (some ⟨g1002, 0, none⟩))] ?_ ?_
            · rcases Decidable.em ((rdx E_api_Run l_runs_0 i_993).2 < z1016) with c1027 | c1027
              · refine Q_know (i := 39) rfl (dec_t c1027) ?_
                have H := of_pos Hb1023 c1027
                refine Q_gskip rfl rfl rfl rfl rfl rfl rfl ?_
                refine Q_gskip rfl rfl rfl rfl rfl rfl rfl ?_
                refine Q_gskip rfl rfl rfl rfl rfl rfl rfl ?_
                refine Q_gskip rfl rfl rfl rfl rfl rfl rfl ?_
                refine Q_gskip rfl rfl rfl rfl rfl rfl rfl ?_
                refine Q_gskip rfl rfl rfl rfl rfl rfl rfl ?_
                refine Q_val rfl rfl rfl (fun wq hq => O_pickT rfl rfl rfl) ?_
                refine Q_know (i := 46) rfl (congrArg Value.bool (Option.some.inj H)) ?_
                exact Q_grpE (fun a ha => Is.cons ha (Is.cons ha (Is.cons ha (Is.cons ha (Is.cons ha (Is.nil ha) rfl) rfl) rfl) rfl) rfl)
              · refine Q_know (i := 39) rfl (dec_f c1027) ?_
                have H := of_neg Hb1023 c1027
                refine Q_gval rfl rfl rfl rfl rfl rfl (fun wq hq => O_fieldB rfl rfl field37_1) ?_
                refine Q_gval rfl rfl rfl rfl rfl rfl (fun wq hq => O_loadB rfl rfl flat3 ((HS1019.keep hq).cells_box (i := 2) rfl) rfl) ?_
                refine Q_gval rfl rfl rfl rfl rfl rfl (fun wq hq => O_fieldB rfl rfl field37_0) ?_
                refine Q_gval rfl rfl rfl rfl rfl rfl (fun wq hq => O_loadB rfl rfl flat3 ((HS1019.keep hq).cells_box (i := 2) rfl) rfl) ?_
                obtain ⟨z1030, h1029, H⟩ := of_bind H
                refine Q_gcall (v := .int .i64 z1030) (xs := [.tmp 43]) rfl rfl rfl rfl rfl rfl rfl Tryd.func30 nm30 rfl rfl (fun wq hq => (valiseref7_most.calls ((HS1019.keep hq).give [] rfl (Lent.nil)) h1029).mono (fun e w hc => ?_)) ?_
                · obtain ⟨rfl, h⟩ := hc
                  exact ⟨rfl, hq.trans h.chg0⟩
                refine Q_gval rfl rfl rfl rfl rfl rfl (fun wq hq => O_gt rfl rfl rfl) ?_
                refine Q_val rfl rfl rfl (fun wq hq => O_pickF rfl rfl rfl) ?_
                refine Q_know (i := 46) rfl (congrArg Value.bool (Option.some.inj H)) ?_
                exact Q_grpE (fun a ha => Is.cons ha (Is.cons ha (Is.cons ha (Is.cons ha (Is.cons ha (Is.nil ha) rfl) rfl) rfl) rfl) rfl)
            · skip
              refine Q_nil (fun w1031 hw1032 => ?_)
              have HS1033 := HS1019.keep hw1032
              refine L_cond rfl (fun c1034 => ?_) (fun c1034 => ?_)
              · have H := of_pos H c1034
                refine L_seq ?_
                refine L_region ?_
                refine F_val rfl rfl rfl (O_assign rfl rfl) ?_
                refine F_val rfl rfl rfl (O_assign rfl rfl) ?_
                refine F_nil ?_
                have HS1035 := HS1033.addNil 3 (Eint .i64).sz
                refine L_ret (fun a ha => (hO997 .ret a _ rfl (hOp989 .ret a _ rfl (hOb598 .ret a _ rfl (hOj3 .ret a _ rfl (post_ret2 ha rfl rfl rfl ?_))))))
                obtain rfl := Option.some.inj H
                obtain rfl := Option.some.inj (show (some (([] : List Int), 77) : Option (List Int × Int)) = some _ from HOj3)
                exact ⟨_, _, rfl, HS1035.sel [3] rfl⟩
              · have H := of_neg H (by rw [c1034]; exact Bool.false_ne_true)
                refine L_skip ?_
                refine L_seq ?_
                refine L_region ?_
                refine F_val rfl rfl rfl (O_fieldB rfl rfl field37_0) ?_
                refine F_val rfl rfl rfl (O_loadB rfl rfl flat3 (HS1033.cells_box (i := 2) rfl) rfl) ?_
                obtain ⟨x1037, h1038, H⟩ := of_bnd H
                refine F_val rfl rfl rfl (O_assign' rfl rfl (congrArg (Value.int .i64) h1038)) ?_
                refine F_nil ?_
                refine L_seq ?_
                refine L_seq ?_
                refine L_region ?_
                refine F_val rfl rfl rfl (O_fieldB rfl rfl field37_0) ?_
                refine F_val rfl rfl rfl (O_loadB rfl rfl flat3 (HS1033.cells_box (i := 2) rfl) rfl) ?_
                refine F_val rfl rfl rfl (O_eq rfl rfl rfl) ?_
                refine F_nil ?_
                obtain ⟨yj1039, Hyj1039, H⟩ := of_bind H
                refine L_join (fun a w => ∃ (v_1049 : Int), yj1039 = Sum.inr v_1049 ∧ Is Tryd.f20.ntmps a [(0, .slice A_runs_0 l_runs_0.length c_runs_0), (4, .slice A990 l992.length c991), (5, .int .i64 i_993), (6, .pointer (some ⟨g1002, 0, none⟩)), (9, .int .i64 v_1049)] ∧ Hp S0 w0 w [.rd A_runs_0 (rowC E_api_Run l_runs_0), .own A990 c991 (rowC (Eint .i64) l992) 3 (Eint .i64).sz, .box g1002 [.int .i64 ((rdx E_api_Run l_runs_0 i_993).1), .int .i64 ((rdx E_api_Run l_runs_0 i_993).2)] 37]) (fun Qj1039 hNj1039 hOj1039 => ?_) (fun a w hR => ?_)
                · have HOj1039 := H
                  have H := Hyj1039
                  refine L_condP rfl (fun c1050 => ?_) (fun c1050 => ?_)
                  · have H := of_pos H c1050
                    refine L_seq ?_
                    refine L_seq ?_
                    refine L_region ?_
                    refine F_val rfl rfl rfl (O_move rfl rfl) ?_
                    refine F_val rfl rfl rfl (O_len rfl rfl Tryd.underlying38) ?_
                    refine F_val rfl rfl rfl (O_eq rfl rfl rfl) ?_
                    refine F_nil ?_
                    refine L_condP rfl (fun c1051 => ?_) (fun c1051 => ?_)
                    · have H := of_pos H c1051
                      refine L_seq ?_
                      refine L_region ?_
                      refine F_val rfl rfl rfl (O_assign rfl rfl) ?_
                      refine F_val rfl rfl rfl (O_assign rfl rfl) ?_
                      refine F_nil ?_
                      have HS1052 := HS1033.addNil 3 (Eint .i64).sz
                      refine L_ret (fun a ha => (hOj1039 .ret a _ rfl (hO997 .ret a _ rfl (hOp989 .ret a _ rfl (hOb598 .ret a _ rfl (hOj3 .ret a _ rfl (post_ret2 ha rfl rfl rfl ?_)))))))
                      obtain rfl := Option.some.inj H
                      obtain rfl := Option.some.inj (show (some (Sum.inl (([] : List Int), 73)) : Option (Sum (List Int × Int) _)) = some _ from HOj1039)
                      obtain rfl := Option.some.inj (show (some (([] : List Int), 73) : Option (List Int × Int)) = some _ from HOj3)
                      exact ⟨_, _, rfl, HS1052.sel [3] rfl⟩
                    · have H := of_neg H c1051
                      refine L_skip ?_
                      refine L_region ?_
                      refine F_val rfl rfl rfl (O_move rfl rfl) ?_
                      refine F_val rfl rfl rfl (O_move rfl rfl) ?_
                      refine F_val rfl rfl rfl (O_len rfl rfl Tryd.underlying38) ?_
                      refine F_val rfl rfl rfl (O_sub rfl rfl rfl) ?_
                      obtain ⟨⟨g1054, g1055⟩, H⟩ := of_gd H
                      refine F_val rfl rfl rfl (O_idx rfl rfl rfl Tryd.underlying38 size3 g1054 g1055 (Cells.isA (HS1033.cells_own (i := 1) rfl) (rowC_ne (E := (Eint .i64)) g1054 g1055 (by decide)))) ?_
                      refine F_val rfl rfl rfl (O_loadC rfl rfl flat3 (HS1033.cells_own (i := 1) rfl) (int_cell g1054 g1055)) ?_
                      obtain ⟨x1056, h1057, H⟩ := of_bnd H
                      refine F_val rfl rfl rfl (O_assign' rfl rfl (congrArg (Value.int .i64) h1057)) ?_
                      refine F_nil ?_
                      refine L_nil (fun a ha => hNj1039 a _ ⟨_, (Option.some.inj H).symm, Is.cons ha (Is.cons ha (Is.cons ha (Is.cons ha (Is.cons ha (Is.nil ha) rfl) rfl) rfl) rfl) rfl, HS1033.sel [0, 1, 2] rfl⟩)
                  · have H := of_neg H c1050
                    refine L_seq ?_
                    refine L_region ?_
                    refine F_val rfl rfl rfl (O_fieldB rfl rfl field37_0) ?_
                    refine F_val rfl rfl rfl (O_loadB rfl rfl flat3 (HS1033.cells_box (i := 2) rfl) rfl) ?_
                    refine F_val rfl rfl rfl (O_gt rfl rfl rfl) ?_
                    refine F_nil ?_
                    refine L_condP rfl (fun c1058 => ?_) (fun c1058 => ?_)
                    · have H := of_pos H c1058
                      refine L_region ?_
                      refine F_val rfl rfl rfl (O_assign rfl rfl) ?_
                      refine F_nil ?_
                      refine L_nil (fun a ha => hNj1039 a _ ⟨_, (Option.some.inj H).symm, Is.cons ha (Is.cons ha (Is.cons ha (Is.cons ha (Is.cons ha (Is.nil ha) rfl) rfl) rfl) rfl) rfl, HS1033.sel [0, 1, 2] rfl⟩)
                    · have H := of_neg H c1058
                      refine L_skip ?_
                      refine L_nil (fun a ha => hNj1039 a _ ⟨_, (Option.some.inj H).symm, Is.cons ha (Is.cons ha (Is.cons ha (Is.cons ha (Is.cons ha (Is.nil ha) rfl) rfl) rfl) rfl) rfl, HS1033.sel [0, 1, 2] rfl⟩)
                · obtain ⟨v_1049, rfl, ha, HS1060⟩ := hR
                  refine wpLF_app ?_ ha
                  have H := (onR_inr _ _ _).symm.trans H
                  refine L_seq ?_
                  refine L_region ?_
                  refine F_val rfl rfl rfl (O_assign rfl rfl) ?_
                  refine F_nil ?_
                  obtain ⟨yj1061, Hyj1061, H⟩ := of_bind H
                  refine L_join (fun a w => ∃ (l1124 : List Int), ∃ (A1122 : Option Addr), ∃ (c1123 : Nat), yj1061 = l1124 ∧ Is Tryd.f20.ntmps a [(0, .slice A_runs_0 l_runs_0.length c_runs_0), (4, .slice A1122 l1124.length c1123), (5, .int .i64 i_993)] ∧ Hp S0 w0 w [.rd A_runs_0 (rowC E_api_Run l_runs_0), .own A1122 c1123 (rowC (Eint .i64) l1124) 3 (Eint .i64).sz]) (fun Qj1061 hNj1061 hOj1061 => ?_) (fun a w hR => ?_)
                  · skip
                    have H := Hyj1061
                    refine L_blk (fun Qb1125 hNb1125 hXb1125 hOb1125 => ?_)
                    refine L_lp (fun k a w => ∃ (l1165 : List Int), ∃ (k_1166 : Int), ∃ (A1163 : Option Addr), ∃ (c1164 : Nat), Is Tryd.f20.ntmps a [(0, .slice A_runs_0 l_runs_0.length c_runs_0), (4, .slice A1163 l1165.length c1164), (5, .int .i64 i_993), (6, .pointer (some ⟨g1002, 0, none⟩)), (9, .int .i64 v_1049), (10, .int .i64 k_1166)] ∧ Hp S0 w0 w [.rd A_runs_0 (rowC E_api_Run l_runs_0), .own A1163 c1164 (rowC (Eint .i64) l1165) 3 (Eint .i64).sz, .box g1002 [.int .i64 ((rdx E_api_Run l_runs_0 i_993).1), .int .i64 ((rdx E_api_Run l_runs_0 i_993).2)] 37] ∧ valiseref7_Expand.l13 k l1165 k_1166 l_runs_0 i_993 v_1049 = some yj1061) FU (fun a ha => ⟨_, _, _, _, Is.cons ha (Is.cons ha (Is.cons ha (Is.cons ha (Is.cons ha (Is.cons ha (Is.nil ha) rfl) rfl) rfl) rfl) rfl) rfl, HS1060.sel [0, 1, 2] rfl, H⟩) (fun kp1162 a w1167 hI Qp1162 hNp1162 hOp1162 => ?_)
                    obtain ⟨l1165, k_1166, A1163, c1164, ha, HS1168, HAp1162⟩ := hI
                    cases kp1162 with
                    | zero => cases (show (none : Option _) = some _ from HAp1162)
                    | succ kp1162 =>
                      have H := (valiseref7_Expand.l13.eq_2 ..).symm.trans HAp1162
                      refine wpLF_app ?_ ha
                      refine L_seq ?_
                      refine L_seq ?_
                      refine L_region ?_
                      refine F_val rfl rfl rfl (O_move rfl rfl) ?_
                      refine F_val rfl rfl rfl (O_fieldB rfl rfl field37_1) ?_
                      refine F_val rfl rfl rfl (O_loadB rfl rfl flat3 (HS1168.cells_box (i := 2) rfl) rfl) ?_
                      refine F_val rfl rfl rfl (O_lt rfl rfl rfl) ?_
                      refine F_nil ?_
                      refine L_condP rfl (fun c1169 => ?_) (fun c1169 => ?_)
                      · have H := of_pos H c1169
                        refine L_skip ?_
                        refine L_seq ?_
                        refine L_blk (fun Q1170 hN1170 hX1170 hO1170 => ?_)
                        refine L_region ?_
                        refine F_val rfl rfl rfl (O_move rfl rfl) ?_
                        refine F_val rfl rfl rfl (O_move rfl rfl) ?_
                        refine F_litE (E := (Eint .i64)) (e := 3) [(0, .int .i64 v_1049)] [v_1049] rfl rfl rfl rfl rfl rfl rfl (by decide) (fun w => by kernel_rfl) HS1168 (fun w1171 A1173 c1174 HS1172 => ?_)
                        have HS1172 : Hp S0 w0 w1171 [.rd A_runs_0 (rowC E_api_Run l_runs_0), .own A1163 c1164 (rowC (Eint .i64) l1165) 3 (Eint .i64).sz, .box g1002 [.int .i64 ((rdx E_api_Run l_runs_0 i_993).1), .int .i64 ((rdx E_api_Run l_runs_0 i_993).2)] 37, .own A1173 c1174 (rowC (Eint .i64) [v_1049]) 3 (Eint .i64).sz] := HS1172
                        obtain ⟨l1178, h1179, H⟩ := of_bnd H
                        obtain ⟨g1180, H⟩ := of_gd H
                        refine F_appE (E := (Eint .i64)) (xs := l1165) (ys := [v_1049]) (i := 1) rfl rfl rfl rfl Tryd.underlying38 info3 rfl (by decide) (by decide) rfl rfl HS1172 rfl (HS1172.cells_own (i := 3) rfl) h1179 g1180 (fun w1176 A1181 c1182 HS1177 => ?_)
                        have HS1177 : Hp S0 w0 w1176 [.rd A_runs_0 (rowC E_api_Run l_runs_0), .own A1181 c1182 (rowC (Eint .i64) l1178) 3 (Eint .i64).sz, .box g1002 [.int .i64 ((rdx E_api_Run l_runs_0 i_993).1), .int .i64 ((rdx E_api_Run l_runs_0 i_993).2)] 37, .own A1173 c1174 (rowC (Eint .i64) [v_1049]) 3 (Eint .i64).sz] := HS1177
                        refine F_val rfl rfl rfl (O_assign rfl rfl) ?_
                        refine F_nil ?_
                        refine L_endB hN1170 ?_
                        refine L_region ?_
                        refine F_val rfl rfl rfl (O_move rfl rfl) ?_
                        refine F_val rfl rfl rfl (O_add rfl rfl rfl) ?_
                        obtain ⟨x1183, h1184, H⟩ := of_bnd H
                        refine F_val rfl rfl rfl (O_assign' rfl rfl (congrArg (Value.int .i64) h1184)) ?_
                        refine F_nil ?_
                        refine L_nil (fun a ha => hNp1162 _ a _ (Nat.lt_succ_self _) ⟨_, _, _, _, Is.cons ha (Is.cons ha (Is.cons ha (Is.cons ha (Is.cons ha (Is.cons ha (Is.nil ha) rfl) rfl) rfl) rfl) rfl) rfl, HS1177.sel [0, 1, 2] rfl, H⟩)
                      · have H := of_neg H c1169
                        refine L_exitB (fun a w h => hOp1162 (.exit 2) a w rfl (hXb1125 a w h)) ?_
                        refine L_nil (fun a ha => hNj1061 a _ ⟨_, _, _, (Option.some.inj H).symm, Is.cons ha (Is.cons ha (Is.cons ha (Is.nil ha) rfl) rfl) rfl, HS1168.sel [0, 1] rfl⟩)
                  · obtain ⟨l1124, A1122, c1123, ej, ha, HS1186⟩ := hR
                    obtain rfl := ej.symm
                    refine wpLF_app ?_ ha
                    refine L_endB hN997 ?_
                    refine L_region ?_
                    refine F_val rfl rfl rfl (O_move rfl rfl) ?_
                    refine F_val rfl rfl rfl (O_add rfl rfl rfl) ?_
                    obtain ⟨x1187, h1188, H⟩ := of_bnd H
                    refine F_val rfl rfl rfl (O_assign' rfl rfl (congrArg (Value.int .i64) h1188)) ?_
                    refine F_nil ?_
                    refine L_nil (fun a ha => hNp989 _ a _ (Nat.lt_succ_self _) ⟨_, _, _, _, Is.cons ha (Is.cons ha (Is.cons ha (Is.nil ha) rfl) rfl) rfl, HS1186.sel [0, 1] rfl, H⟩)
      · have H := of_neg H c996
        refine L_exitB (fun a w h => hOp989 (.exit 0) a w rfl (hXb598 a w h)) ?_
        refine L_nil (fun a ha => hNj3 a _ ⟨_, _, _, (Option.some.inj H).symm, Is.cons ha (Is.nil ha) rfl, HS995.sel [0, 1] rfl⟩)
  · obtain ⟨l597, A595, c596, rfl, ha, HS1190⟩ := hR
    refine wpLF_app ?_ ha
    have H := (onR_inr _ _ _).symm.trans H
    refine L_seq ?_
    refine L_region ?_
    refine F_val rfl rfl rfl (O_move rfl rfl) ?_
    refine F_val rfl rfl rfl (O_assign rfl rfl) ?_
    refine F_val rfl rfl rfl (O_assign rfl rfl) ?_
    refine F_nil ?_
    refine L_ret (fun a ha => (post_ret2 ha rfl rfl rfl ?_))
    obtain rfl := Option.some.inj H
    exact ⟨_, _, rfl, HS1190.sel [1] rfl⟩

/-! function 21: valise/valiselaw7.num -/
theorem valiselaw7_num.calls {S0 : Nat → Prop} {w0 : World} {e_0 : Int} {r : Int} (HS0 : Hp S0 w0 w0 []) (h : valiselaw7_num.f e_0 = some r) :
    Calls Tryd.prog 21 ([.int .i64 e_0] : List Value).toArray w0 (fun e w => e = .returned (.int .i64 r) ∧ Hp S0 w0 w []) := by
  have H : ((some e_0) : Option (Int)) = some r := h
  refine calls_start Tryd.func21 rfl rfl ?_
  refine L_seq ?_
  refine L_region ?_
  refine F_val rfl rfl rfl (O_assign rfl rfl) ?_
  refine F_nil ?_
  refine L_seq ?_
  refine L_region ?_
  refine F_val rfl rfl rfl (O_move rfl rfl) ?_
  refine F_val rfl rfl rfl (O_assign rfl rfl) ?_
  refine F_nil ?_
  refine L_ret (fun a ha => (post_ret1 ha rfl rfl ?_))
  obtain rfl := Option.some.inj H
  exact ⟨rfl, HS0.sel [] rfl⟩

/-! function 22: valise/valiselaw7.equal -/
theorem valiselaw7_equal.calls {S0 : Nat → Prop} {w0 : World} {A_a_0 : Option Addr} {c_a_0 : Nat} {A_b_1 : Option Addr} {c_b_1 : Nat} {l_a_0 : List Int} {l_b_1 : List Int} {r : Bool} (HS0 : Hp S0 w0 w0 [.rd A_a_0 (rowC (Eint .i64) l_a_0), .rd A_b_1 (rowC (Eint .i64) l_b_1)]) (hc_a_0 : l_a_0.length ≤ c_a_0) (hc_b_1 : l_b_1.length ≤ c_b_1) (h : valiselaw7_equal.f l_a_0 l_b_1 = some r) :
    Calls Tryd.prog 22 ([.slice A_a_0 l_a_0.length c_a_0, .slice A_b_1 l_b_1.length c_b_1] : List Value).toArray w0 (fun e w => e = .returned (.bool r) ∧ Hp S0 w0 w []) := by
  have H : ((if (l_a_0.length : Int) ≠ (l_b_1.length : Int) then (some false) else ((valiselaw7_equal.l1 FU 0 l_a_0 l_b_1).bind fun (yj2 : Sum (Bool) (Unit)) => onR yj2 (fun r => some r) fun () => some true)) : Option (Bool)) = some r := h
  refine calls_start Tryd.func22 rfl rfl ?_
  refine L_seq ?_
  refine L_region ?_
  refine F_val rfl rfl rfl (O_assign rfl rfl) ?_
  refine F_nil ?_
  refine L_seq ?_
  refine L_seq ?_
  refine L_region ?_
  refine F_val rfl rfl rfl (O_move rfl rfl) ?_
  refine F_val rfl rfl rfl (O_len rfl rfl Tryd.underlying38) ?_
  refine F_val rfl rfl rfl (O_move rfl rfl) ?_
  refine F_val rfl rfl rfl (O_len rfl rfl Tryd.underlying38) ?_
  refine F_val rfl rfl rfl (O_ne rfl rfl rfl) ?_
  refine F_nil ?_
  refine L_condP rfl (fun c1 => ?_) (fun c1 => ?_)
  · have H := of_pos H c1
    refine L_seq ?_
    refine L_region ?_
    refine F_val rfl rfl rfl (O_assign rfl rfl) ?_
    refine F_nil ?_
    refine L_ret (fun a ha => (post_ret1 ha rfl rfl ?_))
    obtain rfl := Option.some.inj H
    exact ⟨rfl, HS0.sel [] rfl⟩
  · have H := of_neg H c1
    refine L_skip ?_
    refine L_seq ?_
    refine L_seq ?_
    refine L_region ?_
    refine F_val rfl rfl rfl (O_assign rfl rfl) ?_
    refine F_nil ?_
    obtain ⟨yj2, Hyj2, H⟩ := of_bind H
    refine L_join (fun a w => yj2 = Sum.inr () ∧ Is Tryd.f22.ntmps a [] ∧ Hp S0 w0 w [.rd A_a_0 (rowC (Eint .i64) l_a_0), .rd A_b_1 (rowC (Eint .i64) l_b_1)]) (fun Qj2 hNj2 hOj2 => ?_) (fun a w hR => ?_)
    · have HOj2 := H
      have H := Hyj2
      refine L_blk (fun Qb45 hNb45 hXb45 hOb45 => ?_)
      refine L_lp (fun k a w => ∃ (i_72 : Int), Is Tryd.f22.ntmps a [(0, .slice A_a_0 l_a_0.length c_a_0), (1, .slice A_b_1 l_b_1.length c_b_1), (5, .int .i64 i_72)] ∧ Hp S0 w0 w [.rd A_a_0 (rowC (Eint .i64) l_a_0), .rd A_b_1 (rowC (Eint .i64) l_b_1)] ∧ valiselaw7_equal.l1 k i_72 l_a_0 l_b_1 = some yj2) FU (fun a ha => ⟨_, Is.cons ha (Is.cons ha (Is.cons ha (Is.nil ha) rfl) rfl) rfl, HS0.sel [0, 1] rfl, H⟩) (fun kp71 a w73 hI Qp71 hNp71 hOp71 => ?_)
      obtain ⟨i_72, ha, HS74, HAp71⟩ := hI
      cases kp71 with
      | zero => cases (show (none : Option _) = some _ from HAp71)
      | succ kp71 =>
        have H := (valiselaw7_equal.l1.eq_2 ..).symm.trans HAp71
        refine wpLF_app ?_ ha
        refine L_seq ?_
        refine L_seq ?_
        refine L_region ?_
        refine F_val rfl rfl rfl (O_move rfl rfl) ?_
        refine F_val rfl rfl rfl (O_move rfl rfl) ?_
        refine F_val rfl rfl rfl (O_len rfl rfl Tryd.underlying38) ?_
        refine F_val rfl rfl rfl (O_lt rfl rfl rfl) ?_
        refine F_nil ?_
        refine L_condP rfl (fun c75 => ?_) (fun c75 => ?_)
        · have H := of_pos H c75
          refine L_skip ?_
          refine L_seq ?_
          refine L_blk (fun Q76 hN76 hX76 hO76 => ?_)
          refine L_seq ?_
          refine L_quiet mix (by kernel_rfl) ?_
          refine Q_val rfl rfl rfl (fun wq hq => O_move rfl rfl) ?_
          refine Q_val rfl rfl rfl (fun wq hq => O_move rfl rfl) ?_
          obtain ⟨⟨g77, g78⟩, H⟩ := of_gd H
          refine Q_val rfl rfl rfl (fun wq hq => O_idx rfl rfl rfl Tryd.underlying38 size3 g77 g78 (Cells.isA ((HS74.keep hq).cells_rd (i := 0) rfl) (rowC_ne (E := (Eint .i64)) g77 g78 (by decide)))) ?_
          refine Q_val rfl rfl rfl (fun wq hq => O_loadC rfl rfl flat3 ((HS74.keep hq).cells_rd (i := 0) rfl) (int_cell g77 g78)) ?_
          refine Q_val rfl rfl rfl (fun wq hq => O_move rfl rfl) ?_
          refine Q_val rfl rfl rfl (fun wq hq => O_move rfl rfl) ?_
          obtain ⟨⟨g79, g80⟩, H⟩ := of_gd H
          refine Q_val rfl rfl rfl (fun wq hq => O_idx rfl rfl rfl Tryd.underlying38 size3 g79 g80 (Cells.isA ((HS74.keep hq).cells_rd (i := 1) rfl) (rowC_ne (E := (Eint .i64)) g79 g80 (by decide)))) ?_
          refine Q_val rfl rfl rfl (fun wq hq => O_loadC rfl rfl flat3 ((HS74.keep hq).cells_rd (i := 1) rfl) (int_cell g79 g80)) ?_
          refine Q_val rfl rfl rfl (fun wq hq => O_ne rfl rfl rfl) ?_
          refine Q_nil (fun w81 hw82 => ?_)
          have HS83 := HS74.keep hw82
          refine L_condP rfl (fun c84 => ?_) (fun c84 => ?_)
          · have H := of_pos H c84
            refine L_seq ?_
            refine L_region ?_
            refine F_val rfl rfl rfl (O_assign rfl rfl) ?_
            refine F_nil ?_
            refine L_ret (fun a ha => (hO76 .ret a _ rfl (hOp71 .ret a _ rfl (hOb45 .ret a _ rfl (hOj2 .ret a _ rfl (post_ret1 ha rfl rfl ?_))))))
            obtain rfl := Option.some.inj H
            obtain rfl := Option.some.inj (show (some false : Option (Bool)) = some _ from HOj2)
            exact ⟨rfl, HS83.sel [] rfl⟩
          · have H := of_neg H c84
            refine L_skip ?_
            refine L_endB hN76 ?_
            refine L_region ?_
            refine F_val rfl rfl rfl (O_move rfl rfl) ?_
            refine F_val rfl rfl rfl (O_add rfl rfl rfl) ?_
            obtain ⟨x85, h86, H⟩ := of_bnd H
            refine F_val rfl rfl rfl (O_assign' rfl rfl (congrArg (Value.int .i64) h86)) ?_
            refine F_nil ?_
            refine L_nil (fun a ha => hNp71 _ a _ (Nat.lt_succ_self _) ⟨_, Is.cons ha (Is.cons ha (Is.cons ha (Is.nil ha) rfl) rfl) rfl, HS83.sel [0, 1] rfl, H⟩)
        · have H := of_neg H c75
          refine L_exitB (fun a w h => hOp71 (.exit 0) a w rfl (hXb45 a w h)) ?_
          refine L_nil (fun a ha => hNj2 a _ ⟨(Option.some.inj H).symm, Is.nil ha, HS74.sel [0, 1] rfl⟩)
    · obtain ⟨rfl, ha, HS88⟩ := hR
      refine wpLF_app ?_ ha
      have H := (onR_inr _ _ _).symm.trans H
      refine L_seq ?_
      refine L_region ?_
      refine F_val rfl rfl rfl (O_assign rfl rfl) ?_
      refine F_nil ?_
      refine L_ret (fun a ha => (post_ret1 ha rfl rfl ?_))
      obtain rfl := Option.some.inj H
      exact ⟨rfl, HS88.sel [] rfl⟩

/-! function 23: valise/valiselaw7.alike -/
theorem valiselaw7_alike.calls {S0 : Nat → Prop} {w0 : World} {A_a_0 : Option Addr} {c_a_0 : Nat} {A_b_1 : Option Addr} {c_b_1 : Nat} {l_a_0 : List (Int × Int)} {l_b_1 : List (Int × Int)} {r : Bool} (HS0 : Hp S0 w0 w0 [.rd A_a_0 (rowC E_api_Run l_a_0), .rd A_b_1 (rowC E_api_Run l_b_1)]) (hc_a_0 : l_a_0.length ≤ c_a_0) (hc_b_1 : l_b_1.length ≤ c_b_1) (h : valiselaw7_alike.f l_a_0 l_b_1 = some r) :
    Calls Tryd.prog 23 ([.slice A_a_0 l_a_0.length c_a_0, .slice A_b_1 l_b_1.length c_b_1] : List Value).toArray w0 (fun e w => e = .returned (.bool r) ∧ Hp S0 w0 w []) := by
  have H : ((if (l_a_0.length : Int) ≠ (l_b_1.length : Int) then (some false) else ((valiselaw7_alike.l1 FU 0 l_a_0 l_b_1).bind fun (yj2 : Sum (Bool) (Unit)) => onR yj2 (fun r => some r) fun () => some true)) : Option (Bool)) = some r := h
  refine calls_start Tryd.func23 rfl rfl ?_
  refine L_seq ?_
  refine L_region ?_
  refine F_val rfl rfl rfl (O_assign rfl rfl) ?_
  refine F_nil ?_
  refine L_seq ?_
  refine L_seq ?_
  refine L_region ?_
  refine F_val rfl rfl rfl (O_move rfl rfl) ?_
  refine F_val rfl rfl rfl (O_len rfl rfl Tryd.underlying34) ?_
  refine F_val rfl rfl rfl (O_move rfl rfl) ?_
  refine F_val rfl rfl rfl (O_len rfl rfl Tryd.underlying34) ?_
  refine F_val rfl rfl rfl (O_ne rfl rfl rfl) ?_
  refine F_nil ?_
  refine L_condP rfl (fun c1 => ?_) (fun c1 => ?_)
  · have H := of_pos H c1
    refine L_seq ?_
    refine L_region ?_
    refine F_val rfl rfl rfl (O_assign rfl rfl) ?_
    refine F_nil ?_
    refine L_ret (fun a ha => (post_ret1 ha rfl rfl ?_))
    obtain rfl := Option.some.inj H
    exact ⟨rfl, HS0.sel [] rfl⟩
  · have H := of_neg H c1
    refine L_skip ?_
    refine L_seq ?_
    refine L_seq ?_
    refine L_region ?_
    refine F_val rfl rfl rfl (O_assign rfl rfl) ?_
    refine F_nil ?_
    obtain ⟨yj2, Hyj2, H⟩ := of_bind H
    refine L_join (fun a w => yj2 = Sum.inr () ∧ Is Tryd.f23.ntmps a [] ∧ Hp S0 w0 w [.rd A_a_0 (rowC E_api_Run l_a_0), .rd A_b_1 (rowC E_api_Run l_b_1)]) (fun Qj2 hNj2 hOj2 => ?_) (fun a w hR => ?_)
    · have HOj2 := H
      have H := Hyj2
      refine L_blk (fun Qb45 hNb45 hXb45 hOb45 => ?_)
      refine L_lp (fun k a w => ∃ (i_72 : Int), Is Tryd.f23.ntmps a [(0, .slice A_a_0 l_a_0.length c_a_0), (1, .slice A_b_1 l_b_1.length c_b_1), (5, .int .i64 i_72)] ∧ Hp S0 w0 w [.rd A_a_0 (rowC E_api_Run l_a_0), .rd A_b_1 (rowC E_api_Run l_b_1)] ∧ valiselaw7_alike.l1 k i_72 l_a_0 l_b_1 = some yj2) FU (fun a ha => ⟨_, Is.cons ha (Is.cons ha (Is.cons ha (Is.nil ha) rfl) rfl) rfl, HS0.sel [0, 1] rfl, H⟩) (fun kp71 a w73 hI Qp71 hNp71 hOp71 => ?_)
      obtain ⟨i_72, ha, HS74, HAp71⟩ := hI
      cases kp71 with
      | zero => cases (show (none : Option _) = some _ from HAp71)
      | succ kp71 =>
        have H := (valiselaw7_alike.l1.eq_2 ..).symm.trans HAp71
        refine wpLF_app ?_ ha
        refine L_seq ?_
        refine L_seq ?_
        refine L_region ?_
        refine F_val rfl rfl rfl (O_move rfl rfl) ?_
        refine F_val rfl rfl rfl (O_move rfl rfl) ?_
        refine F_val rfl rfl rfl (O_len rfl rfl Tryd.underlying34) ?_
        refine F_val rfl rfl rfl (O_lt rfl rfl rfl) ?_
        refine F_nil ?_
        refine L_condP rfl (fun c75 => ?_) (fun c75 => ?_)
        · have H := of_pos H c75
          refine L_skip ?_
          refine L_seq ?_
          refine L_blk (fun Q76 hN76 hX76 hO76 => ?_)
          refine L_seq ?_
          refine L_quiet mix (by kernel_rfl) ?_
          refine Q_val rfl rfl rfl (fun wq hq => O_move rfl rfl) ?_
          refine Q_val rfl rfl rfl (fun wq hq => O_move rfl rfl) ?_
          obtain ⟨⟨g77, g78⟩, H⟩ := of_gd H
          refine Q_val rfl rfl rfl (fun wq hq => O_idx rfl rfl rfl Tryd.underlying34 size37 g77 g78 (Cells.isA ((HS74.keep hq).cells_rd (i := 0) rfl) (rowC_ne (E := E_api_Run) g77 g78 (by decide)))) ?_
          refine Q_val rfl rfl rfl (fun wq hq => O_loadEl (E := E_api_Run) rfl rfl wide37 ((HS74.keep hq).cells_rd (i := 0) rfl) g77 g78 (by decide)) ?_
          refine Q_val rfl rfl rfl (fun wq hq => O_move rfl rfl) ?_
          refine Q_val rfl rfl rfl (fun wq hq => O_move rfl rfl) ?_
          obtain ⟨⟨g79, g80⟩, H⟩ := of_gd H
          refine Q_val rfl rfl rfl (fun wq hq => O_idx rfl rfl rfl Tryd.underlying34 size37 g79 g80 (Cells.isA ((HS74.keep hq).cells_rd (i := 1) rfl) (rowC_ne (E := E_api_Run) g79 g80 (by decide)))) ?_
          refine Q_val rfl rfl rfl (fun wq hq => O_loadEl (E := E_api_Run) rfl rfl wide37 ((HS74.keep hq).cells_rd (i := 1) rfl) g79 g80 (by decide)) ?_
          refine Q_val rfl rfl rfl (fun wq hq => O_ane (p := (((rdx E_api_Run l_a_0 i_72).1) = ((rdx E_api_Run l_b_1 i_72).1)) ∧ (((rdx E_api_Run l_a_0 i_72).2) = ((rdx E_api_Run l_b_1 i_72).2))) rfl rfl rfl Tryd.underlying37 stood37 eqg37 (eqF_int rfl Tryd.underlying3 rfl rfl (eqF_int1 rfl Tryd.underlying3 rfl rfl))) ?_
          refine Q_nil (fun w81 hw82 => ?_)
          have HS83 := HS74.keep hw82
          refine L_condP rfl (fun c84 => ?_) (fun c84 => ?_)
          · have H := of_pos H c84
            refine L_seq ?_
            refine L_region ?_
            refine F_val rfl rfl rfl (O_assign rfl rfl) ?_
            refine F_nil ?_
            refine L_ret (fun a ha => (hO76 .ret a _ rfl (hOp71 .ret a _ rfl (hOb45 .ret a _ rfl (hOj2 .ret a _ rfl (post_ret1 ha rfl rfl ?_))))))
            obtain rfl := Option.some.inj H
            obtain rfl := Option.some.inj (show (some false : Option (Bool)) = some _ from HOj2)
            exact ⟨rfl, HS83.sel [] rfl⟩
          · have H := of_neg H c84
            refine L_skip ?_
            refine L_endB hN76 ?_
            refine L_region ?_
            refine F_val rfl rfl rfl (O_move rfl rfl) ?_
            refine F_val rfl rfl rfl (O_add rfl rfl rfl) ?_
            obtain ⟨x85, h86, H⟩ := of_bnd H
            refine F_val rfl rfl rfl (O_assign' rfl rfl (congrArg (Value.int .i64) h86)) ?_
            refine F_nil ?_
            refine L_nil (fun a ha => hNp71 _ a _ (Nat.lt_succ_self _) ⟨_, Is.cons ha (Is.cons ha (Is.cons ha (Is.nil ha) rfl) rfl) rfl, HS83.sel [0, 1] rfl, H⟩)
        · have H := of_neg H c75
          refine L_exitB (fun a w h => hOp71 (.exit 0) a w rfl (hXb45 a w h)) ?_
          refine L_nil (fun a ha => hNj2 a _ ⟨(Option.some.inj H).symm, Is.nil ha, HS74.sel [0, 1] rfl⟩)
    · obtain ⟨rfl, ha, HS88⟩ := hR
      refine wpLF_app ?_ ha
      have H := (onR_inr _ _ _).symm.trans H
      refine L_seq ?_
      refine L_region ?_
      refine F_val rfl rfl rfl (O_assign rfl rfl) ?_
      refine F_nil ?_
      refine L_ret (fun a ha => (post_ret1 ha rfl rfl ?_))
      obtain rfl := Option.some.inj H
      exact ⟨rfl, HS88.sel [] rfl⟩

/-! function 7: valise/valiselaw7.HeaderExpands -/
theorem valiselaw7_HeaderExpands.calls {S0 : Nat → Prop} {w0 : World} {A_list_0 : Option Addr} {c_list_0 : Nat} {l_list_0 : List (Int × Int)} {r : Bool} (HS0 : Hp S0 w0 w0 [.rd A_list_0 (rowC E_api_Run l_list_0), .rd (some ⟨4, 0, none⟩) (rowC (Eint .i64) T_header_least), .rd (some ⟨5, 0, none⟩) (rowC (Eint .i64) T_header_further)]) (hc_list_0 : l_list_0.length ≤ c_list_0) (h : valiselaw7_HeaderExpands.f l_list_0 = some r) :
    Calls Tryd.prog 7 ([.slice A_list_0 l_list_0.length c_list_0] : List Value).toArray w0 (fun e w => e = .returned (.bool r) ∧ Hp S0 w0 w []) := by
  have H : (((valiselaw7_runs.f l_list_0).bind fun z5 => bnd (z5 ++ [((-77), 0)]) fun l18 => gd ((l18.length : Int) * 16 ≤ 140737488355328) (gd ((0 : Int) ≤ (l_list_0.length : Int) ∧ (l_list_0.length : Int) ≤ (l18.length : Int)) ((header_Expand.f (l18.take ((l_list_0.length : Int) : Int).toNat)).bind fun (z29, z30) => (valiseref7_Expand.f l_list_0).bind fun (z40, z41) => (if z30 = z41 then ((valiselaw7_equal.f z29 z40).bind fun z66 => some z66) else (some false)).bind fun b59 => (if b59 = true then ((valiselaw7_alike.f (l18.take ((l_list_0.length : Int) : Int).toNat) l_list_0).bind fun z83 => some z83) else (some false)).bind fun b76 => (if b76 = true then (gd ((0 : Int) ≤ (l_list_0.length : Int) ∧ (l_list_0.length : Int) < (l18.length : Int)) (some (decide ((((rdx E_api_Run l18 (l_list_0.length : Int)).1) = (-77)) ∧ (((rdx E_api_Run l18 (l_list_0.length : Int)).2) = 0))))) else (some false)).bind fun b89 => some b89))) : Option (Bool)) = some r := h
  refine calls_start Tryd.func7 rfl rfl ?_
  refine L_seq ?_
  refine L_region ?_
  refine F_val rfl rfl rfl (O_assign rfl rfl) ?_
  refine F_nil ?_
  refine L_seq ?_
  refine L_region ?_
  refine F_val rfl rfl rfl (O_move rfl rfl) ?_
  obtain ⟨z5, h4, H⟩ := of_bind H
  refine F_call (xs := [.tmp 9]) rfl rfl rfl rfl Tryd.func18 nm18 rfl rfl ((valiselaw7_runs.calls (HS0.give [] rfl (Lent.rd HS0 (Lent.nil) (i := 0) rfl ((HS0.cells_rd (i := 0) rfl).self))) hc_list_0 h4).mono (fun e w hc => ?_))
  obtain ⟨A8, c9, rfl, HSo⟩ := hc
  refine ⟨.slice A8 z5.length c9, rfl, ?_⟩
  have HS7 : Hp S0 w0 w [.rd A_list_0 (rowC E_api_Run l_list_0), .rd (some ⟨4, 0, none⟩) (rowC (Eint .i64) T_header_least), .rd (some ⟨5, 0, none⟩) (rowC (Eint .i64) T_header_further), .own A8 c9 (rowC E_api_Run z5) 37 E_api_Run.sz] := (HS0.back [] HSo rfl).sel [0, 1, 2, 3] rfl
  refine F_val rfl rfl rfl (O_build (vs := [(0, .int .i64 (-77))]) (v := .agg #[.int .i64 (-77), .int .i64 0]) rfl rfl rfl (fun w => by kernel_rfl)) ?_
  refine F_litE (E := E_api_Run) (e := 37) [(0, .agg #[.int .i64 (-77), .int .i64 0])] [((-77), 0)] rfl rfl rfl rfl rfl rfl rfl (by decide) (fun w => by kernel_rfl) HS7 (fun w11 A13 c14 HS12 => ?_)
  have HS12 : Hp S0 w0 w11 [.rd A_list_0 (rowC E_api_Run l_list_0), .rd (some ⟨4, 0, none⟩) (rowC (Eint .i64) T_header_least), .rd (some ⟨5, 0, none⟩) (rowC (Eint .i64) T_header_further), .own A8 c9 (rowC E_api_Run z5) 37 E_api_Run.sz, .own A13 c14 (rowC E_api_Run [((-77), 0)]) 37 E_api_Run.sz] := HS12
  obtain ⟨l18, h19, H⟩ := of_bnd H
  obtain ⟨g20, H⟩ := of_gd H
  refine F_appE (E := E_api_Run) (xs := z5) (ys := [((-77), 0)]) (i := 3) rfl rfl rfl rfl Tryd.underlying34 info37 rfl (by decide) (by decide) rfl rfl HS12 rfl (HS12.cells_own (i := 4) rfl) h19 g20 (fun w16 A21 c22 HS17 => ?_)
  have HS17 : Hp S0 w0 w16 [.rd A_list_0 (rowC E_api_Run l_list_0), .rd (some ⟨4, 0, none⟩) (rowC (Eint .i64) T_header_least), .rd (some ⟨5, 0, none⟩) (rowC (Eint .i64) T_header_further), .own A21 c22 (rowC E_api_Run l18) 37 E_api_Run.sz, .own A13 c14 (rowC E_api_Run [((-77), 0)]) 37 E_api_Run.sz] := HS17
  refine F_val rfl rfl rfl (O_assign rfl rfl) ?_
  refine F_nil ?_
  refine L_seq ?_
  refine L_region ?_
  refine F_val rfl rfl rfl (O_move rfl rfl) ?_
  refine F_val rfl rfl rfl (O_move rfl rfl) ?_
  refine F_val rfl rfl rfl (O_len rfl rfl Tryd.underlying34) ?_
  obtain ⟨⟨g23, g24⟩, H⟩ := of_gd H
  refine F_val rfl rfl rfl (O_toE l18 rfl rfl rfl Tryd.underlying34 size37 g23 g24 (HS17.own_capE (i := 3) rfl (by decide))) ?_
  refine F_val rfl rfl rfl (O_assign rfl rfl) ?_
  refine F_nil ?_
  refine L_seq ?_
  refine L_region ?_
  refine F_val rfl rfl rfl (O_move rfl rfl) ?_
  obtain ⟨⟨z29, z30⟩, h28, H⟩ := of_bind H
  refine F_call (xs := [.tmp 19]) rfl rfl rfl rfl Tryd.func19 nm19 rfl rfl ((header_Expand.calls (HS17.give [] rfl (Lent.own HS17 (Lent.rd HS17 (Lent.rd HS17 (Lent.nil) (i := 2) rfl (HS17.cells_rd (i := 2) rfl).self) (i := 1) rfl (HS17.cells_rd (i := 1) rfl).self) (i := 3) rfl rfl (Cells.take (HS17.cells_own (i := 3) rfl) ((l_list_0.length : Int) : Int).toNat))) (Nat.le_trans (List.length_take_le' _ _) (HS17.own_capE (i := 3) rfl (by decide))) h28).mono (fun e w hc => ?_))
  obtain ⟨A33, c34, rfl, HSo⟩ := hc
  refine ⟨.tuple #[.slice A33 z29.length c34, .int .i64 z30], rfl, ?_⟩
  have HS32 : Hp S0 w0 w [.rd A_list_0 (rowC E_api_Run l_list_0), .rd (some ⟨4, 0, none⟩) (rowC (Eint .i64) T_header_least), .rd (some ⟨5, 0, none⟩) (rowC (Eint .i64) T_header_further), .own A21 c22 (rowC E_api_Run l18) 37 E_api_Run.sz, .own A13 c14 (rowC E_api_Run [((-77), 0)]) 37 E_api_Run.sz, .own A33 c34 (rowC (Eint .i64) z29) 3 (Eint .i64).sz] := (HS17.back [] HSo rfl).sel [0, 1, 2, 3, 4, 5] rfl
  refine F_val rfl rfl rfl (O_move rfl rfl) ?_
  refine F_val rfl rfl rfl (O_extract (v := .slice A33 z29.length c34) rfl rfl rfl) ?_
  refine F_val rfl rfl rfl (O_extract (v := .int .i64 z30) rfl rfl rfl) ?_
  refine F_val rfl rfl rfl (O_assign rfl rfl) ?_
  refine F_val rfl rfl rfl (O_assign rfl rfl) ?_
  refine F_nil ?_
  refine L_seq ?_
  refine L_region ?_
  refine F_val rfl rfl rfl (O_move rfl rfl) ?_
  obtain ⟨⟨z40, z41⟩, h39, H⟩ := of_bind H
  refine F_call (xs := [.tmp 24]) rfl rfl rfl rfl Tryd.func20 nm20 rfl rfl ((valiseref7_Expand.calls (HS32.give [] rfl (Lent.rd HS32 (Lent.nil) (i := 0) rfl ((HS32.cells_rd (i := 0) rfl).self))) hc_list_0 h39).mono (fun e w hc => ?_))
  obtain ⟨A44, c45, rfl, HSo⟩ := hc
  refine ⟨.tuple #[.slice A44 z40.length c45, .int .i64 z41], rfl, ?_⟩
  have HS43 : Hp S0 w0 w [.rd A_list_0 (rowC E_api_Run l_list_0), .rd (some ⟨4, 0, none⟩) (rowC (Eint .i64) T_header_least), .rd (some ⟨5, 0, none⟩) (rowC (Eint .i64) T_header_further), .own A21 c22 (rowC E_api_Run l18) 37 E_api_Run.sz, .own A13 c14 (rowC E_api_Run [((-77), 0)]) 37 E_api_Run.sz, .own A33 c34 (rowC (Eint .i64) z29) 3 (Eint .i64).sz, .own A44 c45 (rowC (Eint .i64) z40) 3 (Eint .i64).sz] := (HS32.back [] HSo rfl).sel [0, 1, 2, 3, 4, 5, 6] rfl
  refine F_val rfl rfl rfl (O_move rfl rfl) ?_
  refine F_val rfl rfl rfl (O_extract (v := .slice A44 z40.length c45) rfl rfl rfl) ?_
  refine F_val rfl rfl rfl (O_extract (v := .int .i64 z41) rfl rfl rfl) ?_
  refine F_val rfl rfl rfl (O_assign rfl rfl) ?_
  refine F_val rfl rfl rfl (O_assign rfl rfl) ?_
  refine F_nil ?_
  refine L_seq ?_
  refine L_region ?_
  refine F_val rfl rfl rfl (O_move rfl rfl) ?_
  refine F_qcall (v := .int .i64 z30) (xs := [.tmp 28]) rfl rfl rfl rfl Tryd.func21 nm21 rfl rfl ((valiselaw7_num.calls (HS43.give [] rfl (Lent.nil)) (rfl : valiselaw7_num.f z30 = some z30)).mono (fun e w hc => ?_)) (fun w50 hw51 => ?_)
  · obtain ⟨rfl, h⟩ := hc
    exact ⟨rfl, h.chg0⟩
  have HS52 := HS43.keep hw51
  refine F_val rfl rfl rfl (O_move rfl rfl) ?_
  refine F_val rfl rfl rfl (O_eq rfl rfl rfl) ?_
  refine F_val rfl rfl rfl (O_move rfl rfl) ?_
  obtain ⟨b59, Hb59, H⟩ := of_bind H
  refine F_grpQ 4 [(36, .bool b59), (0, .slice A_list_0 l_list_0.length c_list_0), (3, .slice A21 l18.length c22), (4, .slice A21 (l18.take ((l_list_0.length : Int) : Int).toNat).length c22)] ?_ (fun w60 hw61 => ?_)
  · rcases Decidable.em (z30 = z41) with c63 | c63
    · refine F_know (i := 32) rfl (dec_t c63) ?_
      have H := of_pos Hb59 c63
      refine F_gval rfl rfl rfl rfl rfl rfl (O_move rfl rfl) ?_
      refine F_gval rfl rfl rfl rfl rfl rfl (O_move rfl rfl) ?_
      obtain ⟨z66, h65, H⟩ := of_bind H
      refine F_gqcall (v := .bool z66) (xs := [.tmp 33, .tmp 34]) rfl rfl rfl rfl rfl rfl rfl Tryd.func22 nm22 rfl rfl ((valiselaw7_equal.calls (HS52.give [] rfl (Lent.own HS52 (Lent.own HS52 (Lent.nil) (i := 6) rfl rfl ((HS52.cells_own (i := 6) rfl).self)) (i := 5) rfl rfl ((HS52.cells_own (i := 5) rfl).self))) (HS52.own_capE (i := 5) rfl (by decide)) (HS52.own_capE (i := 6) rfl (by decide)) h65).mono (fun e w hc => ?_)) (fun w67 hw68 => ?_)
      · obtain ⟨rfl, h⟩ := hc
        exact ⟨rfl, h.chg0⟩
      have HS69 := HS52.keep hw68
      refine F_val rfl rfl rfl (O_pickT rfl rfl rfl) ?_
      refine F_know (i := 36) rfl (congrArg Value.bool (Option.some.inj H)) ?_
      exact F_grpQE ((Chg.refl NoB _).trans hw68) (fun a ha => Is.cons ha (Is.cons ha (Is.cons ha (Is.cons ha (Is.nil ha) rfl) rfl) rfl) rfl)
    · refine F_know (i := 32) rfl (dec_f c63) ?_
      have H := of_neg Hb59 c63
      refine F_gskip rfl rfl rfl rfl rfl rfl rfl ?_
      refine F_gskip rfl rfl rfl rfl rfl rfl rfl ?_
      refine F_gskip rfl rfl rfl rfl rfl rfl rfl ?_
      refine F_val rfl rfl rfl (O_pickF rfl rfl rfl) ?_
      refine F_know (i := 36) rfl (congrArg Value.bool (Option.some.inj H)) ?_
      exact F_grpQE (Chg.refl NoB _) (fun a ha => Is.cons ha (Is.cons ha (Is.cons ha (Is.cons ha (Is.nil ha) rfl) rfl) rfl) rfl)
  · have HS62 := HS52.keep hw61
    refine F_val rfl rfl rfl (O_move rfl rfl) ?_
    obtain ⟨b76, Hb76, H⟩ := of_bind H
    refine F_grpQ 4 [(41, .bool b76), (0, .slice A_list_0 l_list_0.length c_list_0), (3, .slice A21 l18.length c22)] ?_ (fun w77 hw78 => ?_)
    · rcases Decidable.em (b59 = true) with c80 | c80
      · refine F_know (i := 37) rfl (congrArg Value.bool c80) ?_
        have H := of_pos Hb76 c80
        refine F_gval rfl rfl rfl rfl rfl rfl (O_move rfl rfl) ?_
        refine F_gval rfl rfl rfl rfl rfl rfl (O_move rfl rfl) ?_
        obtain ⟨z83, h82, H⟩ := of_bind H
        refine F_gqcall (v := .bool z83) (xs := [.tmp 38, .tmp 39]) rfl rfl rfl rfl rfl rfl rfl Tryd.func23 nm23 rfl rfl ((valiselaw7_alike.calls (HS62.give [] rfl (Lent.own HS62 (Lent.rd HS62 (Lent.nil) (i := 0) rfl ((HS62.cells_rd (i := 0) rfl).self)) (i := 3) rfl rfl (Cells.take (HS62.cells_own (i := 3) rfl) ((l_list_0.length : Int) : Int).toNat))) (Nat.le_trans (List.length_take_le' _ _) (HS62.own_capE (i := 3) rfl (by decide))) hc_list_0 h82).mono (fun e w hc => ?_)) (fun w84 hw85 => ?_)
        · obtain ⟨rfl, h⟩ := hc
          exact ⟨rfl, h.chg0⟩
        have HS86 := HS62.keep hw85
        refine F_val rfl rfl rfl (O_pickT rfl rfl rfl) ?_
        refine F_know (i := 41) rfl (congrArg Value.bool (Option.some.inj H)) ?_
        exact F_grpQE ((Chg.refl NoB _).trans hw85) (fun a ha => Is.cons ha (Is.cons ha (Is.cons ha (Is.nil ha) rfl) rfl) rfl)
      · refine F_know (i := 37) rfl (congrArg Value.bool (Bool.eq_false_iff.mpr c80)) ?_
        have H := of_neg Hb76 c80
        refine F_gskip rfl rfl rfl rfl rfl rfl rfl ?_
        refine F_gskip rfl rfl rfl rfl rfl rfl rfl ?_
        refine F_gskip rfl rfl rfl rfl rfl rfl rfl ?_
        refine F_val rfl rfl rfl (O_pickF rfl rfl rfl) ?_
        refine F_know (i := 41) rfl (congrArg Value.bool (Option.some.inj H)) ?_
        exact F_grpQE (Chg.refl NoB _) (fun a ha => Is.cons ha (Is.cons ha (Is.cons ha (Is.nil ha) rfl) rfl) rfl)
    · have HS79 := HS62.keep hw78
      refine F_val rfl rfl rfl (O_move rfl rfl) ?_
      obtain ⟨b89, Hb89, H⟩ := of_bind H
      refine F_grp 8 [(50, .bool b89)] ?_ ?_
      · rcases Decidable.em (b76 = true) with c93 | c93
        · refine F_know (i := 42) rfl (congrArg Value.bool c93) ?_
          have H := of_pos Hb89 c93
          refine F_gval rfl rfl rfl rfl rfl rfl (O_move rfl rfl) ?_
          refine F_gval rfl rfl rfl rfl rfl rfl (O_move rfl rfl) ?_
          refine F_gval rfl rfl rfl rfl rfl rfl (O_len rfl rfl Tryd.underlying34) ?_
          obtain ⟨⟨g94, g95⟩, H⟩ := of_gd H
          refine F_gval rfl rfl rfl rfl rfl rfl (O_idx rfl rfl rfl Tryd.underlying34 size37 g94 g95 (Cells.isA (HS79.cells_own (i := 3) rfl) (rowC_ne (E := E_api_Run) g94 g95 (by decide)))) ?_
          refine F_gval rfl rfl rfl rfl rfl rfl (O_loadEl (E := E_api_Run) rfl rfl wide37 (HS79.cells_own (i := 3) rfl) g94 g95 (by decide)) ?_
          refine F_gval rfl rfl rfl rfl rfl rfl (O_build (vs := [(0, .int .i64 (-77))]) (v := .agg #[.int .i64 (-77), .int .i64 0]) rfl rfl rfl (fun w => by kernel_rfl)) ?_
          refine F_gval rfl rfl rfl rfl rfl rfl (O_aeq (p := (((rdx E_api_Run l18 (l_list_0.length : Int)).1) = (-77)) ∧ (((rdx E_api_Run l18 (l_list_0.length : Int)).2) = 0)) rfl rfl rfl Tryd.underlying37 stood37 eqg37 (eqF_int rfl Tryd.underlying3 rfl rfl (eqF_int1 rfl Tryd.underlying3 rfl rfl))) ?_
          refine F_val rfl rfl rfl (O_pickT rfl rfl rfl) ?_
          refine F_know (i := 50) rfl (congrArg Value.bool (Option.some.inj H)) ?_
          exact F_grpE (fun a ha => Is.cons ha (Is.nil ha) rfl)
        · refine F_know (i := 42) rfl (congrArg Value.bool (Bool.eq_false_iff.mpr c93)) ?_
          have H := of_neg Hb89 c93
          refine F_gskip rfl rfl rfl rfl rfl rfl rfl ?_
          refine F_gskip rfl rfl rfl rfl rfl rfl rfl ?_
          refine F_gskip rfl rfl rfl rfl rfl rfl rfl ?_
          refine F_gskip rfl rfl rfl rfl rfl rfl rfl ?_
          refine F_gskip rfl rfl rfl rfl rfl rfl rfl ?_
          refine F_gskip rfl rfl rfl rfl rfl rfl rfl ?_
          refine F_gskip rfl rfl rfl rfl rfl rfl rfl ?_
          refine F_val rfl rfl rfl (O_pickF rfl rfl rfl) ?_
          refine F_know (i := 50) rfl (congrArg Value.bool (Option.some.inj H)) ?_
          exact F_grpE (fun a ha => Is.cons ha (Is.nil ha) rfl)
      · skip
        refine F_val rfl rfl rfl (O_assign rfl rfl) ?_
        refine F_nil ?_
        refine L_ret (fun a ha => (post_ret1 ha rfl rfl ?_))
        obtain rfl := Option.some.inj H
        exact ⟨rfl, HS79.sel [] rfl⟩

end Go.Proofs.YteckboojmmeecaaDoor
