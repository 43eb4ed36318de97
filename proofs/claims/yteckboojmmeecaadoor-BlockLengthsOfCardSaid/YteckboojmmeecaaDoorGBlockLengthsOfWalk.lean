import Derived.Test.YteckboojmmeecaaDoorChecked
import Derived.Test.YteckboojmmeecaaDoorGBlockLengthsOfPure
set_option linter.unusedVariables false
set_option linter.unusedSimpArgs false
set_option maxRecDepth 10000
namespace Go.Proofs.YteckboojmmeecaaDoor
open Go Go.V Go.V.Pu
theorem mix : Tryd.prog.follows .mixedOrders = true := by kernel_rfl
theorem size3 : (Tryd.prog.info? 3).map (·.size) = some 1 := by kernel_rfl
theorem flat3 : Flat Tryd.prog 3 := Flat.of Tryd.underlying3 rfl
theorem nm27 : (Tryd.f27.name == "runtime.NumGoroutine") = false := by kernel_rfl
theorem nm26 : (Tryd.f26.name == "runtime.NumGoroutine") = false := by kernel_rfl
theorem nm16 : (Tryd.f16.name == "runtime.NumGoroutine") = false := by kernel_rfl
theorem nm17 : (Tryd.f17.name == "runtime.NumGoroutine") = false := by kernel_rfl
theorem nm11 : (Tryd.f11.name == "runtime.NumGoroutine") = false := by kernel_rfl
/-! function 11: valise/valiselaw10.num -/
theorem valiselaw10_num.calls {S0 : Nat → Prop} {w0 : World} {e_0 : Int} {r : Int} (HS0 : Hp S0 w0 w0 []) (h : valiselaw10_num.f e_0 = some r) :
    Calls Tryd.prog 11 ([.int .i64 e_0] : List Value).toArray w0 (fun e w => e = .returned (.int .i64 r) ∧ Hp S0 w0 w []) := by
  have H : (some e_0) = some r := h
  refine calls_start Tryd.func11 rfl rfl ?_
  refine L_seq ?_
  refine L_region ?_
  refine F_val rfl rfl rfl (O_assign rfl rfl) ?_
  refine F_nil ?_
  refine L_seq ?_
  refine L_region ?_
  refine F_val rfl rfl rfl (O_move rfl rfl) ?_
  refine F_val rfl rfl rfl (O_assign rfl rfl) ?_
  refine F_nil ?_
  refine L_ret (fun a ha => (post_ret1 ha rfl rfl ?_))
  obtain rfl := Option.some.inj H
  exact ⟨rfl, HS0.sel [] rfl⟩

/-! function 16: valise/block.LengthOf -/
theorem block_LengthOf.calls {S0 : Nat → Prop} {w0 : World} {symbol_0 : Int} {extra_1 : Int} {r : Int × Int} (HS0 : Hp S0 w0 w0 [.rd (some ⟨2, 0, none⟩) (rowC (Eint .i64) T_block_lengthBase), .rd (some ⟨3, 0, none⟩) (rowC (Eint .i64) T_block_lengthBits)]) (h : block_LengthOf.f symbol_0 extra_1 = some r) :
    Calls Tryd.prog 16 ([.int .i64 symbol_0, .int .i64 extra_1] : List Value).toArray w0 (fun e w => e = .returned (.tuple #[.int .i64 r.1, .int .i64 r.2]) ∧ Hp S0 w0 w []) := by
  have H : (if (symbol_0 ≤ 256) ∨ (286 ≤ symbol_0) then (some (0, 1)) else (bnd (IntKind.i64.wrap ((IntKind.i64.wrap (symbol_0 - 256)) - 1)) fun x3 => (if extra_1 < 0 then (some true) else (gd (0 ≤ x3 ∧ x3 < (29 : Int)) (gd (¬ (rd T_block_lengthBits x3) < 0) (some (decide (shl .i64 1 (rd T_block_lengthBits x3) ≤ extra_1)))))).bind fun b8 => if b8 = true then (some (0, 1)) else (gd (0 ≤ x3 ∧ x3 < (29 : Int)) (some (IntKind.i64.wrap ((rd T_block_lengthBase x3) + extra_1), 0))))) = some r := h
  refine calls_start Tryd.func16 rfl rfl ?_
  refine L_seq ?_
  refine L_region ?_
  refine F_val rfl rfl rfl (O_assign rfl rfl) ?_
  refine F_val rfl rfl rfl (O_assign rfl rfl) ?_
  refine F_nil ?_
  refine L_seq ?_
  refine L_seq ?_
  refine L_region ?_
  refine F_val rfl rfl rfl (O_move rfl rfl) ?_
  refine F_val rfl rfl rfl (O_le rfl rfl rfl) ?_
  refine F_val rfl rfl rfl (O_move rfl rfl) ?_
  refine F_grp 3 [(12, .bool (decide ((symbol_0 ≤ 256) ∨ (286 ≤ symbol_0)))), (0, .int .i64 symbol_0), (1, .int .i64 extra_1)] ?_ ?_
  · rcases Decidable.em (symbol_0 ≤ 256) with c1 | c1
    · refine F_know (i := 9) rfl (dec_t c1) ?_
      refine F_gskip rfl rfl rfl rfl rfl rfl rfl ?_
      refine F_gskip rfl rfl rfl rfl rfl rfl rfl ?_
      refine F_val rfl rfl rfl (O_pickT rfl rfl rfl) ?_
      refine F_know (i := 12) rfl (dec_or_t (q := 286 ≤ symbol_0) c1) ?_
      exact F_grpE (fun a ha => Is.cons ha (Is.cons ha (Is.cons ha (Is.nil ha) rfl) rfl) rfl)
    · refine F_know (i := 9) rfl (dec_f c1) ?_
      refine F_gval rfl rfl rfl rfl rfl rfl (O_move rfl rfl) ?_
      refine F_gval rfl rfl rfl rfl rfl rfl (O_ge rfl rfl rfl) ?_
      refine F_val rfl rfl rfl (O_pickF rfl rfl rfl) ?_
      refine F_know (i := 12) rfl (dec_or_f (q := 286 ≤ symbol_0) c1) ?_
      exact F_grpE (fun a ha => Is.cons ha (Is.cons ha (Is.cons ha (Is.nil ha) rfl) rfl) rfl)
  · skip
    refine F_nil ?_
    refine L_condP rfl (fun c2 => ?_) (fun c2 => ?_)
    · have H := of_pos H c2
      refine L_seq ?_
      refine L_region ?_
      refine F_val rfl rfl rfl (O_assign rfl rfl) ?_
      refine F_val rfl rfl rfl (O_assign rfl rfl) ?_
      refine F_nil ?_
      refine L_ret (fun a ha => (post_ret2 ha rfl rfl rfl ?_))
      obtain rfl := Option.some.inj H
      exact ⟨rfl, HS0.sel [] rfl⟩
    · have H := of_neg H c2
      refine L_skip ?_
      refine L_seq ?_
      refine L_region ?_
      refine F_val rfl rfl rfl (O_move rfl rfl) ?_
      refine F_val rfl rfl rfl (O_sub rfl rfl rfl) ?_
      refine F_val rfl rfl rfl (O_sub rfl rfl rfl) ?_
      obtain ⟨x3, h4, H⟩ := of_bnd H
      refine F_val rfl rfl rfl (O_assign' rfl rfl (congrArg (Value.int .i64) h4)) ?_
      refine F_nil ?_
      refine L_seq ?_
      refine L_seq ?_
      refine L_region ?_
      refine F_val rfl rfl rfl (O_move rfl rfl) ?_
      refine F_val rfl rfl rfl (O_lt rfl rfl rfl) ?_
      refine F_val rfl rfl rfl (O_move rfl rfl) ?_
      obtain ⟨b8, Hb8, H⟩ := of_bind H
      refine F_grp 7 [(25, .bool b8), (1, .int .i64 extra_1), (6, .int .i64 x3)] ?_ ?_
      · rcases Decidable.em (extra_1 < 0) with c9 | c9
        · refine F_know (i := 18) rfl (dec_t c9) ?_
          have H := of_pos Hb8 c9
          refine F_gskip rfl rfl rfl rfl rfl rfl rfl ?_
          refine F_gskip rfl rfl rfl rfl rfl rfl rfl ?_
          refine F_gskip rfl rfl rfl rfl rfl rfl rfl ?_
          refine F_gskip rfl rfl rfl rfl rfl rfl rfl ?_
          refine F_gskip rfl rfl rfl rfl rfl rfl rfl ?_
          refine F_gskip rfl rfl rfl rfl rfl rfl rfl ?_
          refine F_val rfl rfl rfl (O_pickT rfl rfl rfl) ?_
          refine F_know (i := 25) rfl (congrArg Value.bool (Option.some.inj H)) ?_
          exact F_grpE (fun a ha => Is.cons ha (Is.cons ha (Is.cons ha (Is.nil ha) rfl) rfl) rfl)
        · refine F_know (i := 18) rfl (dec_f c9) ?_
          have H := of_neg Hb8 c9
          refine F_gval rfl rfl rfl rfl rfl rfl (O_move rfl rfl) ?_
          refine F_gval rfl rfl rfl rfl rfl rfl (O_move rfl rfl) ?_
          obtain ⟨⟨g10, g11⟩, H⟩ := of_gd H
          refine F_gval rfl rfl rfl rfl rfl rfl (O_idxA rfl rfl rfl Tryd.underlying49 size3 g10 g11) ?_
          refine F_gval rfl rfl rfl rfl rfl rfl (O_loadB rfl rfl flat3 (HS0.cells_rd (i := 1) rfl) (at0 (int_cell g10 (arr_lt T_block_lengthBits_len g11)))) ?_
          obtain ⟨g12, H⟩ := of_gd H
          refine F_gval rfl rfl rfl rfl rfl rfl (O_shl rfl rfl rfl g12) ?_
          refine F_gval rfl rfl rfl rfl rfl rfl (O_ge rfl rfl rfl) ?_
          refine F_val rfl rfl rfl (O_pickF rfl rfl rfl) ?_
          refine F_know (i := 25) rfl (congrArg Value.bool (Option.some.inj H)) ?_
          exact F_grpE (fun a ha => Is.cons ha (Is.cons ha (Is.cons ha (Is.nil ha) rfl) rfl) rfl)
      · skip
        refine F_nil ?_
        refine L_cond rfl (fun c13 => ?_) (fun c13 => ?_)
        · have H := of_pos H c13
          refine L_seq ?_
          refine L_region ?_
          refine F_val rfl rfl rfl (O_assign rfl rfl) ?_
          refine F_val rfl rfl rfl (O_assign rfl rfl) ?_
          refine F_nil ?_
          refine L_ret (fun a ha => (post_ret2 ha rfl rfl rfl ?_))
          obtain rfl := Option.some.inj H
          exact ⟨rfl, HS0.sel [] rfl⟩
        · have H := of_neg H (by rw [c13]; exact Bool.false_ne_true)
          refine L_skip ?_
          refine L_seq ?_
          refine L_region ?_
          refine F_val rfl rfl rfl (O_move rfl rfl) ?_
          obtain ⟨⟨g14, g15⟩, H⟩ := of_gd H
          refine F_val rfl rfl rfl (O_idxA rfl rfl rfl Tryd.underlying49 size3 g14 g15) ?_
          refine F_val rfl rfl rfl (O_loadB rfl rfl flat3 (HS0.cells_rd (i := 0) rfl) (at0 (int_cell g14 (arr_lt T_block_lengthBase_len g15)))) ?_
          refine F_val rfl rfl rfl (O_move rfl rfl) ?_
          refine F_val rfl rfl rfl (O_add rfl rfl rfl) ?_
          refine F_val rfl rfl rfl (O_assign rfl rfl) ?_
          refine F_val rfl rfl rfl (O_assign rfl rfl) ?_
          refine F_nil ?_
          refine L_ret (fun a ha => (post_ret2 ha rfl rfl rfl ?_))
          obtain rfl := Option.some.inj H
          exact ⟨rfl, HS0.sel [] rfl⟩

/-! function 27: valise/valiseref10.lengthBits -/
theorem valiseref10_lengthBits.calls {S0 : Nat → Prop} {w0 : World} {symbol_0 : Int} {r : Int} (HS0 : Hp S0 w0 w0 []) (h : valiseref10_lengthBits.f symbol_0 = some r) :
    Calls Tryd.prog 27 ([.int .i64 symbol_0] : List Value).toArray w0 (fun e w => e = .returned (.int .i64 r) ∧ Hp S0 w0 w []) := by
  have H : (if (symbol_0 < 265) ∨ (symbol_0 = 285) then (some 0) else (some (IntKind.i64.wrap (Int.tdiv (IntKind.i64.wrap (symbol_0 - 261)) 4)))) = some r := h
  refine calls_start Tryd.func27 rfl rfl ?_
  refine L_seq ?_
  refine L_region ?_
  refine F_val rfl rfl rfl (O_assign rfl rfl) ?_
  refine F_nil ?_
  refine L_seq ?_
  refine L_seq ?_
  refine L_region ?_
  refine F_val rfl rfl rfl (O_move rfl rfl) ?_
  refine F_val rfl rfl rfl (O_lt rfl rfl rfl) ?_
  refine F_val rfl rfl rfl (O_move rfl rfl) ?_
  refine F_grp 3 [(8, .bool (decide ((symbol_0 < 265) ∨ (symbol_0 = 285)))), (0, .int .i64 symbol_0)] ?_ ?_
  · rcases Decidable.em (symbol_0 < 265) with c1 | c1
    · refine F_know (i := 5) rfl (dec_t c1) ?_
      refine F_gskip rfl rfl rfl rfl rfl rfl rfl ?_
      refine F_gskip rfl rfl rfl rfl rfl rfl rfl ?_
      refine F_val rfl rfl rfl (O_pickT rfl rfl rfl) ?_
      refine F_know (i := 8) rfl (dec_or_t (q := symbol_0 = 285) c1) ?_
      exact F_grpE (fun a ha => Is.cons ha (Is.cons ha (Is.nil ha) rfl) rfl)
    · refine F_know (i := 5) rfl (dec_f c1) ?_
      refine F_gval rfl rfl rfl rfl rfl rfl (O_move rfl rfl) ?_
      refine F_gval rfl rfl rfl rfl rfl rfl (O_eq rfl rfl rfl) ?_
      refine F_val rfl rfl rfl (O_pickF rfl rfl rfl) ?_
      refine F_know (i := 8) rfl (dec_or_f (q := symbol_0 = 285) c1) ?_
      exact F_grpE (fun a ha => Is.cons ha (Is.cons ha (Is.nil ha) rfl) rfl)
  · skip
    refine F_nil ?_
    refine L_condP rfl (fun c2 => ?_) (fun c2 => ?_)
    · have H := of_pos H c2
      refine L_seq ?_
      refine L_region ?_
      refine F_val rfl rfl rfl (O_assign rfl rfl) ?_
      refine F_nil ?_
      refine L_ret (fun a ha => (post_ret1 ha rfl rfl ?_))
      obtain rfl := Option.some.inj H
      exact ⟨rfl, HS0.sel [] rfl⟩
    · have H := of_neg H c2
      refine L_skip ?_
      refine L_seq ?_
      refine L_region ?_
      refine F_val rfl rfl rfl (O_move rfl rfl) ?_
      refine F_val rfl rfl rfl (O_sub rfl rfl rfl) ?_
      refine F_val rfl rfl rfl (O_quo rfl rfl rfl (by decide)) ?_
      refine F_val rfl rfl rfl (O_assign rfl rfl) ?_
      refine F_nil ?_
      refine L_ret (fun a ha => (post_ret1 ha rfl rfl ?_))
      obtain rfl := Option.some.inj H
      exact ⟨rfl, HS0.sel [] rfl⟩

/-! function 26: valise/valiseref10.lengthBase -/
theorem valiseref10_lengthBase.calls {S0 : Nat → Prop} {w0 : World} {symbol_0 : Int} {r : Int} (HS0 : Hp S0 w0 w0 []) (h : valiseref10_lengthBase.f symbol_0 = some r) :
    Calls Tryd.prog 26 ([.int .i64 symbol_0] : List Value).toArray w0 (fun e w => e = .returned (.int .i64 r) ∧ Hp S0 w0 w []) := by
  have H : (if symbol_0 = 285 then (some 258) else ((valiseref10_lengthBase.l1 FU 3 257 symbol_0).bind fun base_53 => some base_53)) = some r := h
  refine calls_start Tryd.func26 rfl rfl ?_
  refine L_seq ?_
  refine L_region ?_
  refine F_val rfl rfl rfl (O_assign rfl rfl) ?_
  refine F_nil ?_
  refine L_seq ?_
  refine L_seq ?_
  refine L_region ?_
  refine F_val rfl rfl rfl (O_move rfl rfl) ?_
  refine F_val rfl rfl rfl (O_eq rfl rfl rfl) ?_
  refine F_nil ?_
  refine L_condP rfl (fun c1 => ?_) (fun c1 => ?_)
  · have H := of_pos H c1
    refine L_seq ?_
    refine L_region ?_
    refine F_val rfl rfl rfl (O_assign rfl rfl) ?_
    refine F_nil ?_
    refine L_ret (fun a ha => (post_ret1 ha rfl rfl ?_))
    obtain rfl := Option.some.inj H
    exact ⟨rfl, HS0.sel [] rfl⟩
  · have H := of_neg H c1
    refine L_skip ?_
    refine L_seq ?_
    refine L_region ?_
    refine F_val rfl rfl rfl (O_assign rfl rfl) ?_
    refine F_nil ?_
    refine L_seq ?_
    refine L_seq ?_
    refine L_region ?_
    refine F_val rfl rfl rfl (O_assign rfl rfl) ?_
    refine F_nil ?_
    obtain ⟨yj2, Hyj2, H⟩ := of_bind H
    refine L_join (fun a w => ∃ (base_53 : Int), yj2 = base_53 ∧ Is Tryd.f26.ntmps a [(3, .int .i64 base_53)] ∧ Hp S0 w0 w []) (fun Qj2 hNj2 hOj2 => ?_) (fun a w hR => ?_)
    · skip
      have H := Hyj2
      refine L_blk (fun Qb54 hNb54 hXb54 hOb54 => ?_)
      refine L_lp (fun k a w => ∃ (base_86 : Int), ∃ (s_87 : Int), Is Tryd.f26.ntmps a [(0, .int .i64 symbol_0), (3, .int .i64 base_86), (4, .int .i64 s_87)] ∧ Hp S0 w0 w [] ∧ valiseref10_lengthBase.l1 k base_86 s_87 symbol_0 = some yj2) FU (fun a ha => ⟨_, _, Is.cons ha (Is.cons ha (Is.cons ha (Is.nil ha) rfl) rfl) rfl, HS0.sel [] rfl, H⟩) (fun kp85 a w88 hI Qp85 hNp85 hOp85 => ?_)
      obtain ⟨base_86, s_87, ha, HS89, HAp85⟩ := hI
      cases kp85 with
      | zero => cases (show (none : Option _) = some _ from HAp85)
      | succ kp85 =>
        have H := (valiseref10_lengthBase.l1.eq_2 ..).symm.trans HAp85
        refine wpLF_app ?_ ha
        refine L_seq ?_
        refine L_seq ?_
        refine L_region ?_
        refine F_val rfl rfl rfl (O_move rfl rfl) ?_
        refine F_val rfl rfl rfl (O_move rfl rfl) ?_
        refine F_val rfl rfl rfl (O_lt rfl rfl rfl) ?_
        refine F_nil ?_
        refine L_condP rfl (fun c90 => ?_) (fun c90 => ?_)
        · have H := of_pos H c90
          refine L_skip ?_
          refine L_seq ?_
          refine L_blk (fun Q91 hN91 hX91 hO91 => ?_)
          refine L_region ?_
          refine F_val rfl rfl rfl (O_move rfl rfl) ?_
          refine F_val rfl rfl rfl (O_move rfl rfl) ?_
          obtain ⟨z96, h95, H⟩ := of_bind H
          refine F_call (xs := [.tmp 13]) rfl rfl rfl rfl Tryd.func27 nm27 rfl rfl ((valiseref10_lengthBits.calls (HS89.give [] rfl (Lent.nil)) h95).mono (fun e w hc => ?_))
          obtain ⟨rfl, HSo⟩ := hc
          refine ⟨.int .i64 z96, rfl, ?_⟩
          have HS98 : Hp S0 w0 w [] := (HS89.back [] HSo rfl).sel [] rfl
          refine F_val rfl rfl rfl (O_conv rfl rfl ⟨_, Tryd.underlying3⟩ Tryd.underlying46) ?_
          obtain ⟨g99, H⟩ := of_gd H
          refine F_val rfl rfl rfl (O_shl rfl rfl rfl g99) ?_
          refine F_val rfl rfl rfl (O_add rfl rfl rfl) ?_
          obtain ⟨x100, h101, H⟩ := of_bnd H
          refine F_val rfl rfl rfl (O_assign' rfl rfl (congrArg (Value.int .i64) h101)) ?_
          refine F_nil ?_
          refine L_endB hN91 ?_
          refine L_region ?_
          refine F_val rfl rfl rfl (O_move rfl rfl) ?_
          refine F_val rfl rfl rfl (O_add rfl rfl rfl) ?_
          obtain ⟨x102, h103, H⟩ := of_bnd H
          refine F_val rfl rfl rfl (O_assign' rfl rfl (congrArg (Value.int .i64) h103)) ?_
          refine F_nil ?_
          refine L_nil (fun a ha => hNp85 _ a _ (Nat.lt_succ_self _) ⟨_, _, Is.cons ha (Is.cons ha (Is.cons ha (Is.nil ha) rfl) rfl) rfl, HS98.sel [] rfl, H⟩)
        · have H := of_neg H c90
          refine L_exitB (fun a w h => hOp85 (.exit 0) a w rfl (hXb54 a w h)) ?_
          refine L_nil (fun a ha => hNj2 a _ ⟨_, (Option.some.inj H).symm, Is.cons ha (Is.nil ha) rfl, HS89.sel [] rfl⟩)
    · obtain ⟨base_53, rfl, ha, HS105⟩ := hR
      refine wpLF_app ?_ ha
      refine L_seq ?_
      refine L_region ?_
      refine F_val rfl rfl rfl (O_move rfl rfl) ?_
      refine F_val rfl rfl rfl (O_assign rfl rfl) ?_
      refine F_nil ?_
      refine L_ret (fun a ha => (post_ret1 ha rfl rfl ?_))
      obtain rfl := Option.some.inj H
      exact ⟨rfl, HS105.sel [] rfl⟩

/-! function 17: valise/valiseref10.LengthOf -/
theorem valiseref10_LengthOf.calls {S0 : Nat → Prop} {w0 : World} {symbol_0 : Int} {extra_1 : Int} {r : Int × Int} (HS0 : Hp S0 w0 w0 []) (h : valiseref10_LengthOf.f symbol_0 extra_1 = some r) :
    Calls Tryd.prog 17 ([.int .i64 symbol_0, .int .i64 extra_1] : List Value).toArray w0 (fun e w => e = .returned (.tuple #[.int .i64 r.1, .int .i64 r.2]) ∧ Hp S0 w0 w []) := by
  have H : (if ((symbol_0 < 257) ∨ (285 < symbol_0)) ∨ (extra_1 < 0) then (some (0, 1)) else ((valiseref10_lengthBits.f symbol_0).bind fun z8 => gd (¬ (IntKind.u64.wrap z8) < 0) (if shl .i64 1 (IntKind.u64.wrap z8) ≤ extra_1 then (some (0, 1)) else ((valiseref10_lengthBase.f symbol_0).bind fun z17 => some (IntKind.i64.wrap (z17 + extra_1), 0))))) = some r := h
  refine calls_start Tryd.func17 rfl rfl ?_
  refine L_seq ?_
  refine L_region ?_
  refine F_val rfl rfl rfl (O_assign rfl rfl) ?_
  refine F_val rfl rfl rfl (O_assign rfl rfl) ?_
  refine F_nil ?_
  refine L_seq ?_
  refine L_seq ?_
  refine L_region ?_
  refine F_val rfl rfl rfl (O_move rfl rfl) ?_
  refine F_val rfl rfl rfl (O_lt rfl rfl rfl) ?_
  refine F_val rfl rfl rfl (O_move rfl rfl) ?_
  refine F_grp 3 [(11, .bool (decide ((symbol_0 < 257) ∨ (285 < symbol_0)))), (0, .int .i64 symbol_0), (1, .int .i64 extra_1)] ?_ ?_
  · rcases Decidable.em (symbol_0 < 257) with c1 | c1
    · refine F_know (i := 8) rfl (dec_t c1) ?_
      refine F_gskip rfl rfl rfl rfl rfl rfl rfl ?_
      refine F_gskip rfl rfl rfl rfl rfl rfl rfl ?_
      refine F_val rfl rfl rfl (O_pickT rfl rfl rfl) ?_
      refine F_know (i := 11) rfl (dec_or_t (q := 285 < symbol_0) c1) ?_
      exact F_grpE (fun a ha => Is.cons ha (Is.cons ha (Is.cons ha (Is.nil ha) rfl) rfl) rfl)
    · refine F_know (i := 8) rfl (dec_f c1) ?_
      refine F_gval rfl rfl rfl rfl rfl rfl (O_move rfl rfl) ?_
      refine F_gval rfl rfl rfl rfl rfl rfl (O_gt rfl rfl rfl) ?_
      refine F_val rfl rfl rfl (O_pickF rfl rfl rfl) ?_
      refine F_know (i := 11) rfl (dec_or_f (q := 285 < symbol_0) c1) ?_
      exact F_grpE (fun a ha => Is.cons ha (Is.cons ha (Is.cons ha (Is.nil ha) rfl) rfl) rfl)
  · skip
    refine F_val rfl rfl rfl (O_move rfl rfl) ?_
    refine F_grp 3 [(15, .bool (decide (((symbol_0 < 257) ∨ (285 < symbol_0)) ∨ (extra_1 < 0)))), (0, .int .i64 symbol_0), (1, .int .i64 extra_1)] ?_ ?_
    · rcases Decidable.em ((symbol_0 < 257) ∨ (285 < symbol_0)) with c2 | c2
      · refine F_know (i := 12) rfl (dec_t c2) ?_
        refine F_gskip rfl rfl rfl rfl rfl rfl rfl ?_
        refine F_gskip rfl rfl rfl rfl rfl rfl rfl ?_
        refine F_val rfl rfl rfl (O_pickT rfl rfl rfl) ?_
        refine F_know (i := 15) rfl (dec_or_t (q := extra_1 < 0) c2) ?_
        exact F_grpE (fun a ha => Is.cons ha (Is.cons ha (Is.cons ha (Is.nil ha) rfl) rfl) rfl)
      · refine F_know (i := 12) rfl (dec_f c2) ?_
        refine F_gval rfl rfl rfl rfl rfl rfl (O_move rfl rfl) ?_
        refine F_gval rfl rfl rfl rfl rfl rfl (O_lt rfl rfl rfl) ?_
        refine F_val rfl rfl rfl (O_pickF rfl rfl rfl) ?_
        refine F_know (i := 15) rfl (dec_or_f (q := extra_1 < 0) c2) ?_
        exact F_grpE (fun a ha => Is.cons ha (Is.cons ha (Is.cons ha (Is.nil ha) rfl) rfl) rfl)
    · skip
      refine F_val rfl rfl rfl (O_move rfl rfl) ?_
      rcases Decidable.em (((symbol_0 < 257) ∨ (285 < symbol_0)) ∨ (extra_1 < 0)) with c3 | c3
      · have H := of_pos H c3
        refine F_know (i := 16) rfl (dec_t c3) ?_
        refine F_gskip rfl rfl rfl rfl rfl rfl rfl ?_
        refine F_gskip rfl rfl rfl rfl rfl rfl rfl ?_
        refine F_gskip rfl rfl rfl rfl rfl rfl rfl ?_
        refine F_gskip rfl rfl rfl rfl rfl rfl rfl ?_
        refine F_gskip rfl rfl rfl rfl rfl rfl rfl ?_
        refine F_gskip rfl rfl rfl rfl rfl rfl rfl ?_
        refine F_val rfl rfl rfl (O_pickT rfl rfl rfl) ?_
        refine F_nil ?_
        refine L_cond rfl (fun _ => ?_) (fun hx => by cases hx)
        refine L_seq ?_
        refine L_region ?_
        refine F_val rfl rfl rfl (O_assign rfl rfl) ?_
        refine F_val rfl rfl rfl (O_assign rfl rfl) ?_
        refine F_nil ?_
        refine L_ret (fun a ha => (post_ret2 ha rfl rfl rfl ?_))
        obtain rfl := Option.some.inj H
        exact ⟨rfl, HS0.sel [] rfl⟩
      · have H := of_neg H c3
        refine F_know (i := 16) rfl (dec_f c3) ?_
        refine F_gval rfl rfl rfl rfl rfl rfl (O_move rfl rfl) ?_
        refine F_gval rfl rfl rfl rfl rfl rfl (O_move rfl rfl) ?_
        obtain ⟨z8, h7, H⟩ := of_bind H
        refine F_gcall (xs := [.tmp 18]) rfl rfl rfl rfl rfl rfl rfl Tryd.func27 nm27 rfl rfl ((valiseref10_lengthBits.calls (HS0.give [] rfl (Lent.nil)) h7).mono (fun e w hc => ?_))
        obtain ⟨rfl, HSo⟩ := hc
        refine ⟨.int .i64 z8, rfl, ?_⟩
        have HS10 : Hp S0 w0 w [] := (HS0.back [] HSo rfl).sel [] rfl
        refine F_gval rfl rfl rfl rfl rfl rfl (O_conv rfl rfl ⟨_, Tryd.underlying3⟩ Tryd.underlying46) ?_
        obtain ⟨g11, H⟩ := of_gd H
        refine F_gval rfl rfl rfl rfl rfl rfl (O_shl rfl rfl rfl g11) ?_
        refine F_gval rfl rfl rfl rfl rfl rfl (O_ge rfl rfl rfl) ?_
        refine F_val rfl rfl rfl (O_pickF rfl rfl rfl) ?_
        refine F_nil ?_
        refine L_condP rfl (fun c12 => ?_) (fun c12 => ?_)
        · have H := of_pos H c12
          refine L_seq ?_
          refine L_region ?_
          refine F_val rfl rfl rfl (O_assign rfl rfl) ?_
          refine F_val rfl rfl rfl (O_assign rfl rfl) ?_
          refine F_nil ?_
          refine L_ret (fun a ha => (post_ret2 ha rfl rfl rfl ?_))
          obtain rfl := Option.some.inj H
          exact ⟨rfl, HS10.sel [] rfl⟩
        · have H := of_neg H c12
          refine L_skip ?_
          refine L_seq ?_
          refine L_region ?_
          refine F_val rfl rfl rfl (O_move rfl rfl) ?_
          obtain ⟨z17, h16, H⟩ := of_bind H
          refine F_call (xs := [.tmp 24]) rfl rfl rfl rfl Tryd.func26 nm26 rfl rfl ((valiseref10_lengthBase.calls (HS10.give [] rfl (Lent.nil)) h16).mono (fun e w hc => ?_))
          obtain ⟨rfl, HSo⟩ := hc
          refine ⟨.int .i64 z17, rfl, ?_⟩
          have HS19 : Hp S0 w0 w [] := (HS10.back [] HSo rfl).sel [] rfl
          refine F_val rfl rfl rfl (O_move rfl rfl) ?_
          refine F_val rfl rfl rfl (O_add rfl rfl rfl) ?_
          refine F_val rfl rfl rfl (O_assign rfl rfl) ?_
          refine F_val rfl rfl rfl (O_assign rfl rfl) ?_
          refine F_nil ?_
          refine L_ret (fun a ha => (post_ret2 ha rfl rfl rfl ?_))
          obtain rfl := Option.some.inj H
          exact ⟨rfl, HS19.sel [] rfl⟩

/-! function 6: valise/valiselaw10.BlockLengthsOf -/
theorem valiselaw10_BlockLengthsOf.calls {S0 : Nat → Prop} {w0 : World} {symbol_0 : Int} {extra_1 : Int} {r : Bool} (HS0 : Hp S0 w0 w0 [.rd (some ⟨2, 0, none⟩) (rowC (Eint .i64) T_block_lengthBase), .rd (some ⟨3, 0, none⟩) (rowC (Eint .i64) T_block_lengthBits)]) (h : valiselaw10_BlockLengthsOf.f symbol_0 extra_1 = some r) :
    Calls Tryd.prog 6 ([.int .i64 symbol_0, .int .i64 extra_1] : List Value).toArray w0 (fun e w => e = .returned (.bool r) ∧ Hp S0 w0 w []) := by
  have H : ((block_LengthOf.f symbol_0 extra_1).bind fun (z5, z6) => (valiseref10_LengthOf.f symbol_0 extra_1).bind fun (z13, z14) => if z5 = z13 then ((valiselaw10_num.f z6).bind fun z22 => some (decide (z22 = z14))) else (some false)) = some r := h
  refine calls_start Tryd.func6 rfl rfl ?_
  refine L_seq ?_
  refine L_region ?_
  refine F_val rfl rfl rfl (O_assign rfl rfl) ?_
  refine F_nil ?_
  refine L_seq ?_
  refine L_region ?_
  refine F_val rfl rfl rfl (O_move rfl rfl) ?_
  refine F_val rfl rfl rfl (O_move rfl rfl) ?_
  obtain ⟨⟨z5, z6⟩, h4, H⟩ := of_bind H
  refine F_call (xs := [.tmp 10, .tmp 11]) rfl rfl rfl rfl Tryd.func16 nm16 rfl rfl ((block_LengthOf.calls (HS0.give [] rfl (Lent.rd HS0 (Lent.rd HS0 (Lent.nil) (i := 1) rfl (HS0.cells_rd (i := 1) rfl).self) (i := 0) rfl (HS0.cells_rd (i := 0) rfl).self)) h4).mono (fun e w hc => ?_))
  obtain ⟨rfl, HSo⟩ := hc
  refine ⟨.tuple #[.int .i64 z5, .int .i64 z6], rfl, ?_⟩
  have HS8 : Hp S0 w0 w [.rd (some ⟨2, 0, none⟩) (rowC (Eint .i64) T_block_lengthBase), .rd (some ⟨3, 0, none⟩) (rowC (Eint .i64) T_block_lengthBits)] := (HS0.back [] HSo rfl).sel [0, 1] rfl
  refine F_val rfl rfl rfl (O_move rfl rfl) ?_
  refine F_val rfl rfl rfl (O_extract (v := .int .i64 z5) rfl rfl rfl) ?_
  refine F_val rfl rfl rfl (O_extract (v := .int .i64 z6) rfl rfl rfl) ?_
  refine F_val rfl rfl rfl (O_assign rfl rfl) ?_
  refine F_val rfl rfl rfl (O_assign rfl rfl) ?_
  refine F_nil ?_
  refine L_seq ?_
  refine L_region ?_
  refine F_val rfl rfl rfl (O_move rfl rfl) ?_
  refine F_val rfl rfl rfl (O_move rfl rfl) ?_
  obtain ⟨⟨z13, z14⟩, h12, H⟩ := of_bind H
  refine F_call (xs := [.tmp 16, .tmp 17]) rfl rfl rfl rfl Tryd.func17 nm17 rfl rfl ((valiseref10_LengthOf.calls (HS8.give [] rfl (Lent.nil)) h12).mono (fun e w hc => ?_))
  obtain ⟨rfl, HSo⟩ := hc
  refine ⟨.tuple #[.int .i64 z13, .int .i64 z14], rfl, ?_⟩
  have HS16 : Hp S0 w0 w [.rd (some ⟨2, 0, none⟩) (rowC (Eint .i64) T_block_lengthBase), .rd (some ⟨3, 0, none⟩) (rowC (Eint .i64) T_block_lengthBits)] := (HS8.back [] HSo rfl).sel [0, 1] rfl
  refine F_val rfl rfl rfl (O_move rfl rfl) ?_
  refine F_val rfl rfl rfl (O_extract (v := .int .i64 z13) rfl rfl rfl) ?_
  refine F_val rfl rfl rfl (O_extract (v := .int .i64 z14) rfl rfl rfl) ?_
  refine F_val rfl rfl rfl (O_assign rfl rfl) ?_
  refine F_val rfl rfl rfl (O_assign rfl rfl) ?_
  refine F_nil ?_
  refine L_seq ?_
  refine L_region ?_
  refine F_val rfl rfl rfl (O_move rfl rfl) ?_
  refine F_val rfl rfl rfl (O_move rfl rfl) ?_
  refine F_val rfl rfl rfl (O_eq rfl rfl rfl) ?_
  refine F_val rfl rfl rfl (O_move rfl rfl) ?_
  rcases Decidable.em (z5 = z13) with c17 | c17
  · have H := of_pos H c17
    refine F_know (i := 24) rfl (dec_t c17) ?_
    refine F_gval rfl rfl rfl rfl rfl rfl (O_move rfl rfl) ?_
    obtain ⟨z22, h21, H⟩ := of_bind H
    refine F_gcall (xs := [.tmp 25]) rfl rfl rfl rfl rfl rfl rfl Tryd.func11 nm11 rfl rfl ((valiselaw10_num.calls (HS16.give [] rfl (Lent.nil)) h21).mono (fun e w hc => ?_))
    obtain ⟨rfl, HSo⟩ := hc
    refine ⟨.int .i64 z22, rfl, ?_⟩
    have HS24 : Hp S0 w0 w [.rd (some ⟨2, 0, none⟩) (rowC (Eint .i64) T_block_lengthBase), .rd (some ⟨3, 0, none⟩) (rowC (Eint .i64) T_block_lengthBits)] := (HS16.back [] HSo rfl).sel [0, 1] rfl
    refine F_gval rfl rfl rfl rfl rfl rfl (O_move rfl rfl) ?_
    refine F_gval rfl rfl rfl rfl rfl rfl (O_eq rfl rfl rfl) ?_
    refine F_val rfl rfl rfl (O_pickT rfl rfl rfl) ?_
    refine F_val rfl rfl rfl (O_assign rfl rfl) ?_
    refine F_nil ?_
    refine L_ret (fun a ha => (post_ret1 ha rfl rfl ?_))
    obtain rfl := Option.some.inj H
    exact ⟨rfl, HS24.sel [] rfl⟩
  · have H := of_neg H c17
    refine F_know (i := 24) rfl (dec_f c17) ?_
    refine F_gskip rfl rfl rfl rfl rfl rfl rfl ?_
    refine F_gskip rfl rfl rfl rfl rfl rfl rfl ?_
    refine F_gskip rfl rfl rfl rfl rfl rfl rfl ?_
    refine F_gskip rfl rfl rfl rfl rfl rfl rfl ?_
    refine F_val rfl rfl rfl (O_pickF rfl rfl rfl) ?_
    refine F_val rfl rfl rfl (O_assign rfl rfl) ?_
    refine F_nil ?_
    refine L_ret (fun a ha => (post_ret1 ha rfl rfl ?_))
    obtain rfl := Option.some.inj H
    exact ⟨rfl, HS16.sel [] rfl⟩

end Go.Proofs.YteckboojmmeecaaDoor
