import Derived.Test.YteckboojmmeecaaDoorChecked
import Derived.Test.YteckboojmmeecaaDoorGBlockDistsOfPure
set_option linter.unusedVariables false
set_option linter.unusedSimpArgs false
set_option maxRecDepth 10000
namespace Go.Proofs.YteckboojmmeecaaDoor
open Go Go.V Go.V.Pu
theorem mix : Tryd.prog.follows .mixedOrders = true := by kernel_rfl
theorem size3 : (Tryd.prog.info? 3).map (·.size) = some 1 := by kernel_rfl
theorem flat3 : Flat Tryd.prog 3 := Flat.of Tryd.underlying3 rfl
theorem nm24 : (Tryd.f24.name == "runtime.NumGoroutine") = false := by kernel_rfl
theorem nm25 : (Tryd.f25.name == "runtime.NumGoroutine") = false := by kernel_rfl
theorem nm9 : (Tryd.f9.name == "runtime.NumGoroutine") = false := by kernel_rfl
theorem nm10 : (Tryd.f10.name == "runtime.NumGoroutine") = false := by kernel_rfl
theorem nm11 : (Tryd.f11.name == "runtime.NumGoroutine") = false := by kernel_rfl
/-! function 9: valise/block.DistOf -/
theorem block_DistOf.calls {S0 : Nat → Prop} {w0 : World} {symbol_0 : Int} {extra_1 : Int} {r : Int × Int} (HS0 : Hp S0 w0 w0 [.rd (some ⟨0, 0, none⟩) (rowC (Eint .i64) T_block_distBits), .rd (some ⟨1, 0, none⟩) (rowC (Eint .i64) T_block_distBase)]) (h : block_DistOf.f symbol_0 extra_1 = some r) :
    Calls Tryd.prog 9 ([.int .i64 symbol_0, .int .i64 extra_1] : List Value).toArray w0 (fun e w => e = .returned (.tuple #[.int .i64 r.1, .int .i64 r.2]) ∧ Hp S0 w0 w []) := by
  have H : ((if ((symbol_0 < 0) ∨ (30 ≤ symbol_0)) ∨ (extra_1 < 0) then (some true) else (gd (0 ≤ symbol_0 ∧ symbol_0 < (30 : Int)) (gd (¬ (rd T_block_distBits symbol_0) < 0) (some (decide (shl .i64 1 (rd T_block_distBits symbol_0) ≤ extra_1)))))).bind fun b6 => if b6 = true then (some (0, 1)) else (gd (0 ≤ symbol_0 ∧ symbol_0 < (30 : Int)) (some (IntKind.i64.wrap ((rd T_block_distBase symbol_0) + extra_1), 0)))) = some r := h
  refine calls_start Tryd.func9 rfl rfl ?_
  refine L_seq ?_
  refine L_region ?_
  refine F_val rfl rfl rfl (O_assign rfl rfl) ?_
  refine F_val rfl rfl rfl (O_assign rfl rfl) ?_
  refine F_nil ?_
  refine L_seq ?_
  refine L_seq ?_
  refine L_region ?_
  refine F_val rfl rfl rfl (O_move rfl rfl) ?_
  refine F_val rfl rfl rfl (O_lt rfl rfl rfl) ?_
  refine F_val rfl rfl rfl (O_move rfl rfl) ?_
  refine F_grp 3 [(11, .bool (decide ((symbol_0 < 0) ∨ (30 ≤ symbol_0)))), (0, .int .i64 symbol_0), (1, .int .i64 extra_1)] ?_ ?_
  · rcases Decidable.em (symbol_0 < 0) with c1 | c1
    · refine F_know (i := 8) rfl (dec_t c1) ?_
      refine F_gskip rfl rfl rfl rfl rfl rfl rfl ?_
      refine F_gskip rfl rfl rfl rfl rfl rfl rfl ?_
      refine F_val rfl rfl rfl (O_pickT rfl rfl rfl) ?_
      refine F_know (i := 11) rfl (dec_or_t (q := 30 ≤ symbol_0) c1) ?_
      exact F_grpE (fun a ha => Is.cons ha (Is.cons ha (Is.cons ha (Is.nil ha) rfl) rfl) rfl)
    · refine F_know (i := 8) rfl (dec_f c1) ?_
      refine F_gval rfl rfl rfl rfl rfl rfl (O_move rfl rfl) ?_
      refine F_gval rfl rfl rfl rfl rfl rfl (O_ge rfl rfl rfl) ?_
      refine F_val rfl rfl rfl (O_pickF rfl rfl rfl) ?_
      refine F_know (i := 11) rfl (dec_or_f (q := 30 ≤ symbol_0) c1) ?_
      exact F_grpE (fun a ha => Is.cons ha (Is.cons ha (Is.cons ha (Is.nil ha) rfl) rfl) rfl)
  · skip
    refine F_val rfl rfl rfl (O_move rfl rfl) ?_
    refine F_grp 3 [(15, .bool (decide (((symbol_0 < 0) ∨ (30 ≤ symbol_0)) ∨ (extra_1 < 0)))), (0, .int .i64 symbol_0), (1, .int .i64 extra_1)] ?_ ?_
    · rcases Decidable.em ((symbol_0 < 0) ∨ (30 ≤ symbol_0)) with c2 | c2
      · refine F_know (i := 12) rfl (dec_t c2) ?_
        refine F_gskip rfl rfl rfl rfl rfl rfl rfl ?_
        refine F_gskip rfl rfl rfl rfl rfl rfl rfl ?_
        refine F_val rfl rfl rfl (O_pickT rfl rfl rfl) ?_
        refine F_know (i := 15) rfl (dec_or_t (q := extra_1 < 0) c2) ?_
        exact F_grpE (fun a ha => Is.cons ha (Is.cons ha (Is.cons ha (Is.nil ha) rfl) rfl) rfl)
      · refine F_know (i := 12) rfl (dec_f c2) ?_
        refine F_gval rfl rfl rfl rfl rfl rfl (O_move rfl rfl) ?_
        refine F_gval rfl rfl rfl rfl rfl rfl (O_lt rfl rfl rfl) ?_
        refine F_val rfl rfl rfl (O_pickF rfl rfl rfl) ?_
        refine F_know (i := 15) rfl (dec_or_f (q := extra_1 < 0) c2) ?_
        exact F_grpE (fun a ha => Is.cons ha (Is.cons ha (Is.cons ha (Is.nil ha) rfl) rfl) rfl)
    · skip
      refine F_val rfl rfl rfl (O_move rfl rfl) ?_
      obtain ⟨b6, Hb6, H⟩ := of_bind H
      refine F_grp 7 [(23, .bool b6), (0, .int .i64 symbol_0), (1, .int .i64 extra_1)] ?_ ?_
      · rcases Decidable.em (((symbol_0 < 0) ∨ (30 ≤ symbol_0)) ∨ (extra_1 < 0)) with c7 | c7
        · refine F_know (i := 16) rfl (dec_t c7) ?_
          have H := of_pos Hb6 c7
          refine F_gskip rfl rfl rfl rfl rfl rfl rfl ?_
          refine F_gskip rfl rfl rfl rfl rfl rfl rfl ?_
          refine F_gskip rfl rfl rfl rfl rfl rfl rfl ?_
          refine F_gskip rfl rfl rfl rfl rfl rfl rfl ?_
          refine F_gskip rfl rfl rfl rfl rfl rfl rfl ?_
          refine F_gskip rfl rfl rfl rfl rfl rfl rfl ?_
          refine F_val rfl rfl rfl (O_pickT rfl rfl rfl) ?_
          refine F_know (i := 23) rfl (congrArg Value.bool (Option.some.inj H)) ?_
          exact F_grpE (fun a ha => Is.cons ha (Is.cons ha (Is.cons ha (Is.nil ha) rfl) rfl) rfl)
        · refine F_know (i := 16) rfl (dec_f c7) ?_
          have H := of_neg Hb6 c7
          refine F_gval rfl rfl rfl rfl rfl rfl (O_move rfl rfl) ?_
          refine F_gval rfl rfl rfl rfl rfl rfl (O_move rfl rfl) ?_
          obtain ⟨⟨g8, g9⟩, H⟩ := of_gd H
          refine F_gval rfl rfl rfl rfl rfl rfl (O_idxA rfl rfl rfl Tryd.underlying47 size3 g8 g9) ?_
          refine F_gval rfl rfl rfl rfl rfl rfl (O_loadB rfl rfl flat3 (HS0.cells_rd (i := 0) rfl) (at0 (int_cell g8 (arr_lt T_block_distBits_len g9)))) ?_
          obtain ⟨g10, H⟩ := of_gd H
          refine F_gval rfl rfl rfl rfl rfl rfl (O_shl rfl rfl rfl g10) ?_
          refine F_gval rfl rfl rfl rfl rfl rfl (O_ge rfl rfl rfl) ?_
          refine F_val rfl rfl rfl (O_pickF rfl rfl rfl) ?_
          refine F_know (i := 23) rfl (congrArg Value.bool (Option.some.inj H)) ?_
          exact F_grpE (fun a ha => Is.cons ha (Is.cons ha (Is.cons ha (Is.nil ha) rfl) rfl) rfl)
      · skip
        refine F_nil ?_
        refine L_cond rfl (fun c11 => ?_) (fun c11 => ?_)
        · have H := of_pos H c11
          refine L_seq ?_
          refine L_region ?_
          refine F_val rfl rfl rfl (O_assign rfl rfl) ?_
          refine F_val rfl rfl rfl (O_assign rfl rfl) ?_
          refine F_nil ?_
          refine L_ret (fun a ha => (post_ret2 ha rfl rfl rfl ?_))
          obtain rfl := Option.some.inj H
          exact ⟨rfl, HS0.sel [] rfl⟩
        · have H := of_neg H (by rw [c11]; exact Bool.false_ne_true)
          refine L_skip ?_
          refine L_seq ?_
          refine L_region ?_
          refine F_val rfl rfl rfl (O_move rfl rfl) ?_
          obtain ⟨⟨g12, g13⟩, H⟩ := of_gd H
          refine F_val rfl rfl rfl (O_idxA rfl rfl rfl Tryd.underlying47 size3 g12 g13) ?_
          refine F_val rfl rfl rfl (O_loadB rfl rfl flat3 (HS0.cells_rd (i := 1) rfl) (at0 (int_cell g12 (arr_lt T_block_distBase_len g13)))) ?_
          refine F_val rfl rfl rfl (O_move rfl rfl) ?_
          refine F_val rfl rfl rfl (O_add rfl rfl rfl) ?_
          refine F_val rfl rfl rfl (O_assign rfl rfl) ?_
          refine F_val rfl rfl rfl (O_assign rfl rfl) ?_
          refine F_nil ?_
          refine L_ret (fun a ha => (post_ret2 ha rfl rfl rfl ?_))
          obtain rfl := Option.some.inj H
          exact ⟨rfl, HS0.sel [] rfl⟩

/-! function 24: valise/valiseref10.distBits -/
theorem valiseref10_distBits.calls {S0 : Nat → Prop} {w0 : World} {symbol_0 : Int} {r : Int} (HS0 : Hp S0 w0 w0 []) (h : valiseref10_distBits.f symbol_0 = some r) :
    Calls Tryd.prog 24 ([.int .i64 symbol_0] : List Value).toArray w0 (fun e w => e = .returned (.int .i64 r) ∧ Hp S0 w0 w []) := by
  have H : (if symbol_0 < 4 then (some 0) else (some (IntKind.i64.wrap (Int.tdiv (IntKind.i64.wrap (symbol_0 - 2)) 2)))) = some r := h
  refine calls_start Tryd.func24 rfl rfl ?_
  refine L_seq ?_
  refine L_region ?_
  refine F_val rfl rfl rfl (O_assign rfl rfl) ?_
  refine F_nil ?_
  refine L_seq ?_
  refine L_seq ?_
  refine L_region ?_
  refine F_val rfl rfl rfl (O_move rfl rfl) ?_
  refine F_val rfl rfl rfl (O_lt rfl rfl rfl) ?_
  refine F_nil ?_
  refine L_condP rfl (fun c1 => ?_) (fun c1 => ?_)
  · have H := of_pos H c1
    refine L_seq ?_
    refine L_region ?_
    refine F_val rfl rfl rfl (O_assign rfl rfl) ?_
    refine F_nil ?_
    refine L_ret (fun a ha => (post_ret1 ha rfl rfl ?_))
    obtain rfl := Option.some.inj H
    exact ⟨rfl, HS0.sel [] rfl⟩
  · have H := of_neg H c1
    refine L_skip ?_
    refine L_seq ?_
    refine L_region ?_
    refine F_val rfl rfl rfl (O_move rfl rfl) ?_
    refine F_val rfl rfl rfl (O_sub rfl rfl rfl) ?_
    refine F_val rfl rfl rfl (O_quo rfl rfl rfl (by decide)) ?_
    refine F_val rfl rfl rfl (O_assign rfl rfl) ?_
    refine F_nil ?_
    refine L_ret (fun a ha => (post_ret1 ha rfl rfl ?_))
    obtain rfl := Option.some.inj H
    exact ⟨rfl, HS0.sel [] rfl⟩

/-! function 25: valise/valiseref10.distBase -/
theorem valiseref10_distBase.calls {S0 : Nat → Prop} {w0 : World} {symbol_0 : Int} {r : Int} (HS0 : Hp S0 w0 w0 []) (h : valiseref10_distBase.f symbol_0 = some r) :
    Calls Tryd.prog 25 ([.int .i64 symbol_0] : List Value).toArray w0 (fun e w => e = .returned (.int .i64 r) ∧ Hp S0 w0 w []) := by
  have H : ((valiseref10_distBase.l1 FU 1 0 symbol_0).bind fun base_52 => some base_52) = some r := h
  refine calls_start Tryd.func25 rfl rfl ?_
  refine L_seq ?_
  refine L_region ?_
  refine F_val rfl rfl rfl (O_assign rfl rfl) ?_
  refine F_nil ?_
  refine L_seq ?_
  refine L_region ?_
  refine F_val rfl rfl rfl (O_assign rfl rfl) ?_
  refine F_nil ?_
  refine L_seq ?_
  refine L_seq ?_
  refine L_region ?_
  refine F_val rfl rfl rfl (O_assign rfl rfl) ?_
  refine F_nil ?_
  obtain ⟨yj1, Hyj1, H⟩ := of_bind H
  refine L_join (fun a w => ∃ (base_52 : Int), yj1 = base_52 ∧ Is Tryd.f25.ntmps a [(3, .int .i64 base_52)] ∧ Hp S0 w0 w []) (fun Qj1 hNj1 hOj1 => ?_) (fun a w hR => ?_)
  · skip
    have H := Hyj1
    refine L_blk (fun Qb53 hNb53 hXb53 hOb53 => ?_)
    refine L_lp (fun k a w => ∃ (base_85 : Int), ∃ (s_86 : Int), Is Tryd.f25.ntmps a [(0, .int .i64 symbol_0), (3, .int .i64 base_85), (4, .int .i64 s_86)] ∧ Hp S0 w0 w [] ∧ valiseref10_distBase.l1 k base_85 s_86 symbol_0 = some yj1) FU (fun a ha => ⟨_, _, Is.cons ha (Is.cons ha (Is.cons ha (Is.nil ha) rfl) rfl) rfl, HS0.sel [] rfl, H⟩) (fun kp84 a w87 hI Qp84 hNp84 hOp84 => ?_)
    obtain ⟨base_85, s_86, ha, HS88, HAp84⟩ := hI
    cases kp84 with
    | zero => cases (show (none : Option _) = some _ from HAp84)
    | succ kp84 =>
      have H := (valiseref10_distBase.l1.eq_2 ..).symm.trans HAp84
      refine wpLF_app ?_ ha
      refine L_seq ?_
      refine L_seq ?_
      refine L_region ?_
      refine F_val rfl rfl rfl (O_move rfl rfl) ?_
      refine F_val rfl rfl rfl (O_move rfl rfl) ?_
      refine F_val rfl rfl rfl (O_lt rfl rfl rfl) ?_
      refine F_nil ?_
      refine L_condP rfl (fun c89 => ?_) (fun c89 => ?_)
      · have H := of_pos H c89
        refine L_skip ?_
        refine L_seq ?_
        refine L_blk (fun Q90 hN90 hX90 hO90 => ?_)
        refine L_region ?_
        refine F_val rfl rfl rfl (O_move rfl rfl) ?_
        refine F_val rfl rfl rfl (O_move rfl rfl) ?_
        obtain ⟨z95, h94, H⟩ := of_bind H
        refine F_call (xs := [.tmp 11]) rfl rfl rfl rfl Tryd.func24 nm24 rfl rfl ((valiseref10_distBits.calls (HS88.give [] rfl (Lent.nil)) h94).mono (fun e w hc => ?_))
        obtain ⟨rfl, HSo⟩ := hc
        refine ⟨.int .i64 z95, rfl, ?_⟩
        have HS97 : Hp S0 w0 w [] := (HS88.back [] HSo rfl).sel [] rfl
        refine F_val rfl rfl rfl (O_conv rfl rfl ⟨_, Tryd.underlying3⟩ Tryd.underlying46) ?_
        obtain ⟨g98, H⟩ := of_gd H
        refine F_val rfl rfl rfl (O_shl rfl rfl rfl g98) ?_
        refine F_val rfl rfl rfl (O_add rfl rfl rfl) ?_
        obtain ⟨x99, h100, H⟩ := of_bnd H
        refine F_val rfl rfl rfl (O_assign' rfl rfl (congrArg (Value.int .i64) h100)) ?_
        refine F_nil ?_
        refine L_endB hN90 ?_
        refine L_region ?_
        refine F_val rfl rfl rfl (O_move rfl rfl) ?_
        refine F_val rfl rfl rfl (O_add rfl rfl rfl) ?_
        obtain ⟨x101, h102, H⟩ := of_bnd H
        refine F_val rfl rfl rfl (O_assign' rfl rfl (congrArg (Value.int .i64) h102)) ?_
        refine F_nil ?_
        refine L_nil (fun a ha => hNp84 _ a _ (Nat.lt_succ_self _) ⟨_, _, Is.cons ha (Is.cons ha (Is.cons ha (Is.nil ha) rfl) rfl) rfl, HS97.sel [] rfl, H⟩)
      · have H := of_neg H c89
        refine L_exitB (fun a w h => hOp84 (.exit 0) a w rfl (hXb53 a w h)) ?_
        refine L_nil (fun a ha => hNj1 a _ ⟨_, (Option.some.inj H).symm, Is.cons ha (Is.nil ha) rfl, HS88.sel [] rfl⟩)
  · obtain ⟨base_52, rfl, ha, HS104⟩ := hR
    refine wpLF_app ?_ ha
    refine L_seq ?_
    refine L_region ?_
    refine F_val rfl rfl rfl (O_move rfl rfl) ?_
    refine F_val rfl rfl rfl (O_assign rfl rfl) ?_
    refine F_nil ?_
    refine L_ret (fun a ha => (post_ret1 ha rfl rfl ?_))
    obtain rfl := Option.some.inj H
    exact ⟨rfl, HS104.sel [] rfl⟩

/-! function 10: valise/valiseref10.DistOf -/
theorem valiseref10_DistOf.calls {S0 : Nat → Prop} {w0 : World} {symbol_0 : Int} {extra_1 : Int} {r : Int × Int} (HS0 : Hp S0 w0 w0 []) (h : valiseref10_DistOf.f symbol_0 extra_1 = some r) :
    Calls Tryd.prog 10 ([.int .i64 symbol_0, .int .i64 extra_1] : List Value).toArray w0 (fun e w => e = .returned (.tuple #[.int .i64 r.1, .int .i64 r.2]) ∧ Hp S0 w0 w []) := by
  have H : (if ((symbol_0 < 0) ∨ (29 < symbol_0)) ∨ (extra_1 < 0) then (some (0, 1)) else ((valiseref10_distBits.f symbol_0).bind fun z8 => gd (¬ (IntKind.u64.wrap z8) < 0) (if shl .i64 1 (IntKind.u64.wrap z8) ≤ extra_1 then (some (0, 1)) else ((valiseref10_distBase.f symbol_0).bind fun z17 => some (IntKind.i64.wrap (z17 + extra_1), 0))))) = some r := h
  refine calls_start Tryd.func10 rfl rfl ?_
  refine L_seq ?_
  refine L_region ?_
  refine F_val rfl rfl rfl (O_assign rfl rfl) ?_
  refine F_val rfl rfl rfl (O_assign rfl rfl) ?_
  refine F_nil ?_
  refine L_seq ?_
  refine L_seq ?_
  refine L_region ?_
  refine F_val rfl rfl rfl (O_move rfl rfl) ?_
  refine F_val rfl rfl rfl (O_lt rfl rfl rfl) ?_
  refine F_val rfl rfl rfl (O_move rfl rfl) ?_
  refine F_grp 3 [(11, .bool (decide ((symbol_0 < 0) ∨ (29 < symbol_0)))), (0, .int .i64 symbol_0), (1, .int .i64 extra_1)] ?_ ?_
  · rcases Decidable.em (symbol_0 < 0) with c1 | c1
    · refine F_know (i := 8) rfl (dec_t c1) ?_
      refine F_gskip rfl rfl rfl rfl rfl rfl rfl ?_
      refine F_gskip rfl rfl rfl rfl rfl rfl rfl ?_
      refine F_val rfl rfl rfl (O_pickT rfl rfl rfl) ?_
      refine F_know (i := 11) rfl (dec_or_t (q := 29 < symbol_0) c1) ?_
      exact F_grpE (fun a ha => Is.cons ha (Is.cons ha (Is.cons ha (Is.nil ha) rfl) rfl) rfl)
    · refine F_know (i := 8) rfl (dec_f c1) ?_
      refine F_gval rfl rfl rfl rfl rfl rfl (O_move rfl rfl) ?_
      refine F_gval rfl rfl rfl rfl rfl rfl (O_gt rfl rfl rfl) ?_
      refine F_val rfl rfl rfl (O_pickF rfl rfl rfl) ?_
      refine F_know (i := 11) rfl (dec_or_f (q := 29 < symbol_0) c1) ?_
      exact F_grpE (fun a ha => Is.cons ha (Is.cons ha (Is.cons ha (Is.nil ha) rfl) rfl) rfl)
  · skip
    refine F_val rfl rfl rfl (O_move rfl rfl) ?_
    refine F_grp 3 [(15, .bool (decide (((symbol_0 < 0) ∨ (29 < symbol_0)) ∨ (extra_1 < 0)))), (0, .int .i64 symbol_0), (1, .int .i64 extra_1)] ?_ ?_
    · rcases Decidable.em ((symbol_0 < 0) ∨ (29 < symbol_0)) with c2 | c2
      · refine F_know (i := 12) rfl (dec_t c2) ?_
        refine F_gskip rfl rfl rfl rfl rfl rfl rfl ?_
        refine F_gskip rfl rfl rfl rfl rfl rfl rfl ?_
        refine F_val rfl rfl rfl (O_pickT rfl rfl rfl) ?_
        refine F_know (i := 15) rfl (dec_or_t (q := extra_1 < 0) c2) ?_
        exact F_grpE (fun a ha => Is.cons ha (Is.cons ha (Is.cons ha (Is.nil ha) rfl) rfl) rfl)
      · refine F_know (i := 12) rfl (dec_f c2) ?_
        refine F_gval rfl rfl rfl rfl rfl rfl (O_move rfl rfl) ?_
        refine F_gval rfl rfl rfl rfl rfl rfl (O_lt rfl rfl rfl) ?_
        refine F_val rfl rfl rfl (O_pickF rfl rfl rfl) ?_
        refine F_know (i := 15) rfl (dec_or_f (q := extra_1 < 0) c2) ?_
        exact F_grpE (fun a ha => Is.cons ha (Is.cons ha (Is.cons ha (Is.nil ha) rfl) rfl) rfl)
    · skip
      refine F_val rfl rfl rfl (O_move rfl rfl) ?_
      rcases Decidable.em (((symbol_0 < 0) ∨ (29 < symbol_0)) ∨ (extra_1 < 0)) with c3 | c3
      · have H := of_pos H c3
        refine F_know (i := 16) rfl (dec_t c3) ?_
        refine F_gskip rfl rfl rfl rfl rfl rfl rfl ?_
        refine F_gskip rfl rfl rfl rfl rfl rfl rfl ?_
        refine F_gskip rfl rfl rfl rfl rfl rfl rfl ?_
        refine F_gskip rfl rfl rfl rfl rfl rfl rfl ?_
        refine F_gskip rfl rfl rfl rfl rfl rfl rfl ?_
        refine F_gskip rfl rfl rfl rfl rfl rfl rfl ?_
        refine F_val rfl rfl rfl (O_pickT rfl rfl rfl) ?_
        refine F_nil ?_
        refine L_cond rfl (fun _ => ?_) (fun hx => by cases hx)
        refine L_seq ?_
        refine L_region ?_
        refine F_val rfl rfl rfl (O_assign rfl rfl) ?_
        refine F_val rfl rfl rfl (O_assign rfl rfl) ?_
        refine F_nil ?_
        refine L_ret (fun a ha => (post_ret2 ha rfl rfl rfl ?_))
        obtain rfl := Option.some.inj H
        exact ⟨rfl, HS0.sel [] rfl⟩
      · have H := of_neg H c3
        refine F_know (i := 16) rfl (dec_f c3) ?_
        refine F_gval rfl rfl rfl rfl rfl rfl (O_move rfl rfl) ?_
        refine F_gval rfl rfl rfl rfl rfl rfl (O_move rfl rfl) ?_
        obtain ⟨z8, h7, H⟩ := of_bind H
        refine F_gcall (xs := [.tmp 18]) rfl rfl rfl rfl rfl rfl rfl Tryd.func24 nm24 rfl rfl ((valiseref10_distBits.calls (HS0.give [] rfl (Lent.nil)) h7).mono (fun e w hc => ?_))
        obtain ⟨rfl, HSo⟩ := hc
        refine ⟨.int .i64 z8, rfl, ?_⟩
        have HS10 : Hp S0 w0 w [] := (HS0.back [] HSo rfl).sel [] rfl
        refine F_gval rfl rfl rfl rfl rfl rfl (O_conv rfl rfl ⟨_, Tryd.underlying3⟩ Tryd.underlying46) ?_
        obtain ⟨g11, H⟩ := of_gd H
        refine F_gval rfl rfl rfl rfl rfl rfl (O_shl rfl rfl rfl g11) ?_
        refine F_gval rfl rfl rfl rfl rfl rfl (O_ge rfl rfl rfl) ?_
        refine F_val rfl rfl rfl (O_pickF rfl rfl rfl) ?_
        refine F_nil ?_
        refine L_condP rfl (fun c12 => ?_) (fun c12 => ?_)
        · have H := of_pos H c12
          refine L_seq ?_
          refine L_region ?_
          refine F_val rfl rfl rfl (O_assign rfl rfl) ?_
          refine F_val rfl rfl rfl (O_assign rfl rfl) ?_
          refine F_nil ?_
          refine L_ret (fun a ha => (post_ret2 ha rfl rfl rfl ?_))
          obtain rfl := Option.some.inj H
          exact ⟨rfl, HS10.sel [] rfl⟩
        · have H := of_neg H c12
          refine L_skip ?_
          refine L_seq ?_
          refine L_region ?_
          refine F_val rfl rfl rfl (O_move rfl rfl) ?_
          obtain ⟨z17, h16, H⟩ := of_bind H
          refine F_call (xs := [.tmp 24]) rfl rfl rfl rfl Tryd.func25 nm25 rfl rfl ((valiseref10_distBase.calls (HS10.give [] rfl (Lent.nil)) h16).mono (fun e w hc => ?_))
          obtain ⟨rfl, HSo⟩ := hc
          refine ⟨.int .i64 z17, rfl, ?_⟩
          have HS19 : Hp S0 w0 w [] := (HS10.back [] HSo rfl).sel [] rfl
          refine F_val rfl rfl rfl (O_move rfl rfl) ?_
          refine F_val rfl rfl rfl (O_add rfl rfl rfl) ?_
          refine F_val rfl rfl rfl (O_assign rfl rfl) ?_
          refine F_val rfl rfl rfl (O_assign rfl rfl) ?_
          refine F_nil ?_
          refine L_ret (fun a ha => (post_ret2 ha rfl rfl rfl ?_))
          obtain rfl := Option.some.inj H
          exact ⟨rfl, HS19.sel [] rfl⟩

/-! function 11: valise/valiselaw10.num -/
theorem valiselaw10_num.calls {S0 : Nat → Prop} {w0 : World} {e_0 : Int} {r : Int} (HS0 : Hp S0 w0 w0 []) (h : valiselaw10_num.f e_0 = some r) :
    Calls Tryd.prog 11 ([.int .i64 e_0] : List Value).toArray w0 (fun e w => e = .returned (.int .i64 r) ∧ Hp S0 w0 w []) := by
  have H : (some e_0) = some r := h
  refine calls_start Tryd.func11 rfl rfl ?_
  refine L_seq ?_
  refine L_region ?_
  refine F_val rfl rfl rfl (O_assign rfl rfl) ?_
  refine F_nil ?_
  refine L_seq ?_
  refine L_region ?_
  refine F_val rfl rfl rfl (O_move rfl rfl) ?_
  refine F_val rfl rfl rfl (O_assign rfl rfl) ?_
  refine F_nil ?_
  refine L_ret (fun a ha => (post_ret1 ha rfl rfl ?_))
  obtain rfl := Option.some.inj H
  exact ⟨rfl, HS0.sel [] rfl⟩

/-! function 3: valise/valiselaw10.BlockDistsOf -/
theorem valiselaw10_BlockDistsOf.calls {S0 : Nat → Prop} {w0 : World} {symbol_0 : Int} {extra_1 : Int} {r : Bool} (HS0 : Hp S0 w0 w0 [.rd (some ⟨0, 0, none⟩) (rowC (Eint .i64) T_block_distBits), .rd (some ⟨1, 0, none⟩) (rowC (Eint .i64) T_block_distBase)]) (h : valiselaw10_BlockDistsOf.f symbol_0 extra_1 = some r) :
    Calls Tryd.prog 3 ([.int .i64 symbol_0, .int .i64 extra_1] : List Value).toArray w0 (fun e w => e = .returned (.bool r) ∧ Hp S0 w0 w []) := by
  have H : ((block_DistOf.f symbol_0 extra_1).bind fun (z5, z6) => (valiseref10_DistOf.f symbol_0 extra_1).bind fun (z13, z14) => if z5 = z13 then ((valiselaw10_num.f z6).bind fun z22 => some (decide (z22 = z14))) else (some false)) = some r := h
  refine calls_start Tryd.func3 rfl rfl ?_
  refine L_seq ?_
  refine L_region ?_
  refine F_val rfl rfl rfl (O_assign rfl rfl) ?_
  refine F_nil ?_
  refine L_seq ?_
  refine L_region ?_
  refine F_val rfl rfl rfl (O_move rfl rfl) ?_
  refine F_val rfl rfl rfl (O_move rfl rfl) ?_
  obtain ⟨⟨z5, z6⟩, h4, H⟩ := of_bind H
  refine F_call (xs := [.tmp 10, .tmp 11]) rfl rfl rfl rfl Tryd.func9 nm9 rfl rfl ((block_DistOf.calls (HS0.give [] rfl (Lent.rd HS0 (Lent.rd HS0 (Lent.nil) (i := 1) rfl (HS0.cells_rd (i := 1) rfl).self) (i := 0) rfl (HS0.cells_rd (i := 0) rfl).self)) h4).mono (fun e w hc => ?_))
  obtain ⟨rfl, HSo⟩ := hc
  refine ⟨.tuple #[.int .i64 z5, .int .i64 z6], rfl, ?_⟩
  have HS8 : Hp S0 w0 w [.rd (some ⟨0, 0, none⟩) (rowC (Eint .i64) T_block_distBits), .rd (some ⟨1, 0, none⟩) (rowC (Eint .i64) T_block_distBase)] := (HS0.back [] HSo rfl).sel [0, 1] rfl
  refine F_val rfl rfl rfl (O_move rfl rfl) ?_
  refine F_val rfl rfl rfl (O_extract (v := .int .i64 z5) rfl rfl rfl) ?_
  refine F_val rfl rfl rfl (O_extract (v := .int .i64 z6) rfl rfl rfl) ?_
  refine F_val rfl rfl rfl (O_assign rfl rfl) ?_
  refine F_val rfl rfl rfl (O_assign rfl rfl) ?_
  refine F_nil ?_
  refine L_seq ?_
  refine L_region ?_
  refine F_val rfl rfl rfl (O_move rfl rfl) ?_
  refine F_val rfl rfl rfl (O_move rfl rfl) ?_
  obtain ⟨⟨z13, z14⟩, h12, H⟩ := of_bind H
  refine F_call (xs := [.tmp 16, .tmp 17]) rfl rfl rfl rfl Tryd.func10 nm10 rfl rfl ((valiseref10_DistOf.calls (HS8.give [] rfl (Lent.nil)) h12).mono (fun e w hc => ?_))
  obtain ⟨rfl, HSo⟩ := hc
  refine ⟨.tuple #[.int .i64 z13, .int .i64 z14], rfl, ?_⟩
  have HS16 : Hp S0 w0 w [.rd (some ⟨0, 0, none⟩) (rowC (Eint .i64) T_block_distBits), .rd (some ⟨1, 0, none⟩) (rowC (Eint .i64) T_block_distBase)] := (HS8.back [] HSo rfl).sel [0, 1] rfl
  refine F_val rfl rfl rfl (O_move rfl rfl) ?_
  refine F_val rfl rfl rfl (O_extract (v := .int .i64 z13) rfl rfl rfl) ?_
  refine F_val rfl rfl rfl (O_extract (v := .int .i64 z14) rfl rfl rfl) ?_
  refine F_val rfl rfl rfl (O_assign rfl rfl) ?_
  refine F_val rfl rfl rfl (O_assign rfl rfl) ?_
  refine F_nil ?_
  refine L_seq ?_
  refine L_region ?_
  refine F_val rfl rfl rfl (O_move rfl rfl) ?_
  refine F_val rfl rfl rfl (O_move rfl rfl) ?_
  refine F_val rfl rfl rfl (O_eq rfl rfl rfl) ?_
  refine F_val rfl rfl rfl (O_move rfl rfl) ?_
  rcases Decidable.em (z5 = z13) with c17 | c17
  · have H := of_pos H c17
    refine F_know (i := 24) rfl (dec_t c17) ?_
    refine F_gval rfl rfl rfl rfl rfl rfl (O_move rfl rfl) ?_
    obtain ⟨z22, h21, H⟩ := of_bind H
    refine F_gcall (xs := [.tmp 25]) rfl rfl rfl rfl rfl rfl rfl Tryd.func11 nm11 rfl rfl ((valiselaw10_num.calls (HS16.give [] rfl (Lent.nil)) h21).mono (fun e w hc => ?_))
    obtain ⟨rfl, HSo⟩ := hc
    refine ⟨.int .i64 z22, rfl, ?_⟩
    have HS24 : Hp S0 w0 w [.rd (some ⟨0, 0, none⟩) (rowC (Eint .i64) T_block_distBits), .rd (some ⟨1, 0, none⟩) (rowC (Eint .i64) T_block_distBase)] := (HS16.back [] HSo rfl).sel [0, 1] rfl
    refine F_gval rfl rfl rfl rfl rfl rfl (O_move rfl rfl) ?_
    refine F_gval rfl rfl rfl rfl rfl rfl (O_eq rfl rfl rfl) ?_
    refine F_val rfl rfl rfl (O_pickT rfl rfl rfl) ?_
    refine F_val rfl rfl rfl (O_assign rfl rfl) ?_
    refine F_nil ?_
    refine L_ret (fun a ha => (post_ret1 ha rfl rfl ?_))
    obtain rfl := Option.some.inj H
    exact ⟨rfl, HS24.sel [] rfl⟩
  · have H := of_neg H c17
    refine F_know (i := 24) rfl (dec_f c17) ?_
    refine F_gskip rfl rfl rfl rfl rfl rfl rfl ?_
    refine F_gskip rfl rfl rfl rfl rfl rfl rfl ?_
    refine F_gskip rfl rfl rfl rfl rfl rfl rfl ?_
    refine F_gskip rfl rfl rfl rfl rfl rfl rfl ?_
    refine F_val rfl rfl rfl (O_pickF rfl rfl rfl) ?_
    refine F_val rfl rfl rfl (O_assign rfl rfl) ?_
    refine F_nil ?_
    refine L_ret (fun a ha => (post_ret1 ha rfl rfl ?_))
    obtain rfl := Option.some.inj H
    exact ⟨rfl, HS16.sel [] rfl⟩

end Go.Proofs.YteckboojmmeecaaDoor
