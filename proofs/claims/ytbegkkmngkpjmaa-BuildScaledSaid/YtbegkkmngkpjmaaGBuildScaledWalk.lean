import Derived.Test.YtbegkkmngkpjmaaGBuildScaledWalk2
set_option linter.unusedVariables false
set_option linter.unusedSimpArgs false
set_option maxRecDepth 10000
set_option maxHeartbeats 1000000
namespace Go.Proofs.Ytbegkkmngkpjmaa
open Go Go.V Go.V.Pu
/-! function 22: valise/valiselaw6.same -/
theorem valiselaw6_same.calls {S0 : Nat → Prop} {w0 : World} {A_a_0 : Option Addr} {c_a_0 : Nat} {A_b_1 : Option Addr} {c_b_1 : Nat} {l_a_0 : List Int} {l_b_1 : List Int} {r : Bool} (HS0 : Hp S0 w0 w0 [.rd A_a_0 (rowC (Eint .i64) l_a_0), .rd A_b_1 (rowC (Eint .i64) l_b_1)]) (hc_a_0 : l_a_0.length ≤ c_a_0) (hc_b_1 : l_b_1.length ≤ c_b_1) (h : valiselaw6_same.f l_a_0 l_b_1 = some r) :
    Calls Try.prog 22 ([.slice A_a_0 l_a_0.length c_a_0, .slice A_b_1 l_b_1.length c_b_1] : List Value).toArray w0 (fun e w => e = .returned (.bool r) ∧ Hp S0 w0 w []) := by
  have H : ((if (l_a_0.length : Int) ≠ (l_b_1.length : Int) then (some false) else ((valiselaw6_same.l1 FU 0 l_a_0 l_b_1).bind fun (yj2 : Sum (Bool) (Unit)) => onR yj2 (fun r => some r) fun () => some true)) : Option (Bool)) = some r := h
  refine calls_start Try.func22 rfl rfl ?_
  refine L_seq ?_
  refine L_region ?_
  refine F_val rfl rfl rfl (O_assign rfl rfl) ?_
  refine F_nil ?_
  refine L_seq ?_
  refine L_seq ?_
  refine L_region ?_
  refine F_val rfl rfl rfl (O_move rfl rfl) ?_
  refine F_val rfl rfl rfl (O_len rfl rfl Try.underlying22) ?_
  refine F_val rfl rfl rfl (O_move rfl rfl) ?_
  refine F_val rfl rfl rfl (O_len rfl rfl Try.underlying22) ?_
  refine F_val rfl rfl rfl (O_ne rfl rfl rfl) ?_
  refine F_nil ?_
  refine L_condP rfl (fun c1 => ?_) (fun c1 => ?_)
  · have H := of_pos H c1
    refine L_seq ?_
    refine L_region ?_
    refine F_val rfl rfl rfl (O_assign rfl rfl) ?_
    refine F_nil ?_
    refine L_ret (fun a ha => (post_ret1 ha rfl rfl ?_))
    obtain rfl := Option.some.inj H
    exact ⟨rfl, HS0.sel [] rfl⟩
  · have H := of_neg H c1
    refine L_skip ?_
    refine L_seq ?_
    refine L_seq ?_
    refine L_region ?_
    refine F_val rfl rfl rfl (O_assign rfl rfl) ?_
    refine F_nil ?_
    obtain ⟨yj2, Hyj2, H⟩ := of_bind H
    refine L_join (fun a w => yj2 = Sum.inr () ∧ Is Try.f22.ntmps a [] ∧ Hp S0 w0 w [.rd A_a_0 (rowC (Eint .i64) l_a_0), .rd A_b_1 (rowC (Eint .i64) l_b_1)]) (fun Qj2 hNj2 hOj2 => ?_) (fun a w hR => ?_)
    · have HOj2 := H
      have H := Hyj2
      refine L_blk (fun Qb45 hNb45 hXb45 hOb45 => ?_)
      refine L_lp (fun k a w => ∃ (i_72 : Int), Is Try.f22.ntmps a [(0, .slice A_a_0 l_a_0.length c_a_0), (1, .slice A_b_1 l_b_1.length c_b_1), (5, .int .i64 i_72)] ∧ Hp S0 w0 w [.rd A_a_0 (rowC (Eint .i64) l_a_0), .rd A_b_1 (rowC (Eint .i64) l_b_1)] ∧ valiselaw6_same.l1 k i_72 l_a_0 l_b_1 = some yj2) FU (fun a ha => ⟨_, Is.cons ha (Is.cons ha (Is.cons ha (Is.nil ha) rfl) rfl) rfl, HS0.sel [0, 1] rfl, H⟩) (fun kp71 a w73 hI Qp71 hNp71 hOp71 => ?_)
      obtain ⟨i_72, ha, HS74, HAp71⟩ := hI
      cases kp71 with
      | zero => cases (show (none : Option _) = some _ from HAp71)
      | succ kp71 =>
        have H := (valiselaw6_same.l1.eq_2 ..).symm.trans HAp71
        refine wpLF_app ?_ ha
        refine L_seq ?_
        refine L_seq ?_
        refine L_region ?_
        refine F_val rfl rfl rfl (O_move rfl rfl) ?_
        refine F_val rfl rfl rfl (O_move rfl rfl) ?_
        refine F_val rfl rfl rfl (O_len rfl rfl Try.underlying22) ?_
        refine F_val rfl rfl rfl (O_lt rfl rfl rfl) ?_
        refine F_nil ?_
        refine L_condP rfl (fun c75 => ?_) (fun c75 => ?_)
        · have H := of_pos H c75
          refine L_skip ?_
          refine L_seq ?_
          refine L_blk (fun Q76 hN76 hX76 hO76 => ?_)
          refine L_seq ?_
          refine L_quiet mix (by kernel_rfl) ?_
          refine Q_val rfl rfl rfl (fun wq hq => O_move rfl rfl) ?_
          refine Q_val rfl rfl rfl (fun wq hq => O_move rfl rfl) ?_
          obtain ⟨⟨g77, g78⟩, H⟩ := of_gd H
          refine Q_val rfl rfl rfl (fun wq hq => O_idx rfl rfl rfl Try.underlying22 size3 g77 g78 (Cells.isA ((HS74.keep hq).cells_rd (i := 0) rfl) (rowC_ne (E := (Eint .i64)) g77 g78 (by decide)))) ?_
          refine Q_val rfl rfl rfl (fun wq hq => O_loadC rfl rfl flat3 ((HS74.keep hq).cells_rd (i := 0) rfl) (int_cell g77 g78)) ?_
          refine Q_val rfl rfl rfl (fun wq hq => O_move rfl rfl) ?_
          refine Q_val rfl rfl rfl (fun wq hq => O_move rfl rfl) ?_
          obtain ⟨⟨g79, g80⟩, H⟩ := of_gd H
          refine Q_val rfl rfl rfl (fun wq hq => O_idx rfl rfl rfl Try.underlying22 size3 g79 g80 (Cells.isA ((HS74.keep hq).cells_rd (i := 1) rfl) (rowC_ne (E := (Eint .i64)) g79 g80 (by decide)))) ?_
          refine Q_val rfl rfl rfl (fun wq hq => O_loadC rfl rfl flat3 ((HS74.keep hq).cells_rd (i := 1) rfl) (int_cell g79 g80)) ?_
          refine Q_val rfl rfl rfl (fun wq hq => O_ne rfl rfl rfl) ?_
          refine Q_nil (fun w81 hw82 => ?_)
          have HS83 := HS74.keep hw82
          refine L_condP rfl (fun c84 => ?_) (fun c84 => ?_)
          · have H := of_pos H c84
            refine L_seq ?_
            refine L_region ?_
            refine F_val rfl rfl rfl (O_assign rfl rfl) ?_
            refine F_nil ?_
            refine L_ret (fun a ha => (hO76 .ret a _ rfl (hOp71 .ret a _ rfl (hOb45 .ret a _ rfl (hOj2 .ret a _ rfl (post_ret1 ha rfl rfl ?_))))))
            obtain rfl := Option.some.inj H
            obtain rfl := Option.some.inj (show (some false : Option (Bool)) = some _ from HOj2)
            exact ⟨rfl, HS83.sel [] rfl⟩
          · have H := of_neg H c84
            refine L_skip ?_
            refine L_endB hN76 ?_
            refine L_region ?_
            refine F_val rfl rfl rfl (O_move rfl rfl) ?_
            refine F_val rfl rfl rfl (O_add rfl rfl rfl) ?_
            obtain ⟨x85, h86, H⟩ := of_bnd H
            refine F_val rfl rfl rfl (O_assign' rfl rfl (congrArg (Value.int .i64) h86)) ?_
            refine F_nil ?_
            refine L_nil (fun a ha => hNp71 _ a _ (Nat.lt_succ_self _) ⟨_, Is.cons ha (Is.cons ha (Is.cons ha (Is.nil ha) rfl) rfl) rfl, HS83.sel [0, 1] rfl, H⟩)
        · have H := of_neg H c75
          refine L_exitB (fun a w h => hOp71 (.exit 0) a w rfl (hXb45 a w h)) ?_
          refine L_nil (fun a ha => hNj2 a _ ⟨(Option.some.inj H).symm, Is.nil ha, HS74.sel [0, 1] rfl⟩)
    · obtain ⟨rfl, ha, HS88⟩ := hR
      refine wpLF_app ?_ ha
      have H := (onR_inr _ _ _).symm.trans H
      refine L_seq ?_
      refine L_region ?_
      refine F_val rfl rfl rfl (O_assign rfl rfl) ?_
      refine F_nil ?_
      refine L_ret (fun a ha => (post_ret1 ha rfl rfl ?_))
      obtain rfl := Option.some.inj H
      exact ⟨rfl, HS88.sel [] rfl⟩

/-! function 10: valise/valiselaw6.BuildScaled -/
theorem valiselaw6_BuildScaled.calls {S0 : Nat → Prop} {w0 : World} {A_freq_0 : Option Addr} {c_freq_0 : Nat} {l_freq_0 : List Int} {limit_1 : Int} {by_2 : Int} {r : Bool} (HS0 : Hp S0 w0 w0 [.rd A_freq_0 (rowC (Eint .i64) l_freq_0)]) (hc_freq_0 : l_freq_0.length ≤ c_freq_0) (h : valiselaw6_BuildScaled.f l_freq_0 limit_1 by_2 = some r) :
    Calls Try.prog 10 ([.slice A_freq_0 l_freq_0.length c_freq_0, .int .i64 limit_1, .int .i64 by_2] : List Value).toArray w0 (fun e w => e = .returned (.bool r) ∧ Hp S0 w0 w []) := by
  have H : (((valiselaw6_sound.f l_freq_0).bind fun z3 => (if (((((!z3) = true) ∨ (limit_1 < 1)) ∨ (15 < limit_1)) ∨ (by_2 < 1)) ∨ (4294967296 < by_2) then (some true) else ((valiselaw6_uses.f l_freq_0).bind fun z37 => gd (¬ (IntKind.u64.wrap limit_1) < 0) (some (decide (shl .i64 1 (IntKind.u64.wrap limit_1) < z37))))).bind fun b30 => if b30 = true then (some true) else ((valiselaw6_BuildScaled.l1 FU ([] : List Int) 0 l_freq_0 by_2).bind fun (yj45 : Sum (Bool) (List Int)) => onR yj45 (fun r => some r) fun l129 => (valiselaw6_copied.f l_freq_0).bind fun z217 => (build_Depths.f z217).bind fun (z227, z228) => (valiselaw6_copied.f l_freq_0).bind fun z238 => (build_Limited.f z238 limit_1).bind fun (z248, z249) => (if (z228 ≠ 0) ∨ (z249 ≠ 0) then (some true) else ((valiselaw6_good.f l_freq_0 z227 60).bind fun z273 => some (!z273))).bind fun b266 => (if b266 = true then (some true) else ((valiselaw6_good.f l_freq_0 z248 limit_1).bind fun z290 => some (!z290))).bind fun b283 => if b283 = true then (some false) else ((valiselaw6_copied.f l129).bind fun z300 => (build_Depths.f z300).bind fun (z310, z311) => (valiselaw6_copied.f l129).bind fun z321 => (build_Limited.f z321 limit_1).bind fun (z331, z332) => (if (z311 = 0) ∧ (z332 = 0) then ((valiselaw6_same.f z310 z227).bind fun z356 => some z356) else (some false)).bind fun b349 => (if b349 = true then ((valiselaw6_same.f z331 z248).bind fun z373 => some z373) else (some false)).bind fun b366 => some b366))) : Option (Bool)) = some r := h
  refine calls_start Try.func10 rfl rfl ?_
  refine L_seq ?_
  refine L_region ?_
  refine F_val rfl rfl rfl (O_assign rfl rfl) ?_
  refine F_nil ?_
  refine L_seq ?_
  refine L_seq ?_
  refine L_region ?_
  refine F_val rfl rfl rfl (O_move rfl rfl) ?_
  obtain ⟨z3, h2, H⟩ := of_bind H
  refine F_qcall (v := .bool z3) (xs := [.tmp 17]) rfl rfl rfl rfl Try.func23 nm23 rfl rfl ((valiselaw6_sound.calls (HS0.give [] rfl (Lent.rd HS0 (Lent.nil) (i := 0) rfl ((HS0.cells_rd (i := 0) rfl).self))) hc_freq_0 h2).mono (fun e w hc => ?_)) (fun w4 hw5 => ?_)
  · obtain ⟨rfl, h⟩ := hc
    exact ⟨rfl, h.chg0⟩
  have HS6 := HS0.keep hw5
  refine F_val rfl rfl rfl (O_notb rfl rfl) ?_
  refine F_val rfl rfl rfl (O_move rfl rfl) ?_
  refine F_grp 3 [(23, .bool (decide (((!z3) = true) ∨ (limit_1 < 1)))), (0, .slice A_freq_0 l_freq_0.length c_freq_0), (1, .int .i64 limit_1), (2, .int .i64 by_2)] ?_ ?_
  · rcases Decidable.em ((!z3) = true) with c10 | c10
    · refine F_know (i := 20) rfl (congrArg Value.bool c10) ?_
      refine F_gskip rfl rfl rfl rfl rfl rfl rfl ?_
      refine F_gskip rfl rfl rfl rfl rfl rfl rfl ?_
      refine F_val rfl rfl rfl (O_pickT rfl rfl rfl) ?_
      refine F_know (i := 23) rfl (dec_or_t (q := limit_1 < 1) c10) ?_
      exact F_grpE (fun a ha => Is.cons ha (Is.cons ha (Is.cons ha (Is.cons ha (Is.nil ha) rfl) rfl) rfl) rfl)
    · refine F_know (i := 20) rfl (congrArg Value.bool (Bool.eq_false_iff.mpr c10)) ?_
      refine F_gval rfl rfl rfl rfl rfl rfl (O_move rfl rfl) ?_
      refine F_gval rfl rfl rfl rfl rfl rfl (O_lt rfl rfl rfl) ?_
      refine F_val rfl rfl rfl (O_pickF rfl rfl rfl) ?_
      refine F_know (i := 23) rfl (dec_or_f (q := limit_1 < 1) c10) ?_
      exact F_grpE (fun a ha => Is.cons ha (Is.cons ha (Is.cons ha (Is.cons ha (Is.nil ha) rfl) rfl) rfl) rfl)
  · skip
    refine F_val rfl rfl rfl (O_move rfl rfl) ?_
    refine F_grp 3 [(27, .bool (decide ((((!z3) = true) ∨ (limit_1 < 1)) ∨ (15 < limit_1)))), (0, .slice A_freq_0 l_freq_0.length c_freq_0), (1, .int .i64 limit_1), (2, .int .i64 by_2)] ?_ ?_
    · rcases Decidable.em (((!z3) = true) ∨ (limit_1 < 1)) with c14 | c14
      · refine F_know (i := 24) rfl (dec_t c14) ?_
        refine F_gskip rfl rfl rfl rfl rfl rfl rfl ?_
        refine F_gskip rfl rfl rfl rfl rfl rfl rfl ?_
        refine F_val rfl rfl rfl (O_pickT rfl rfl rfl) ?_
        refine F_know (i := 27) rfl (dec_or_t (q := 15 < limit_1) c14) ?_
        exact F_grpE (fun a ha => Is.cons ha (Is.cons ha (Is.cons ha (Is.cons ha (Is.nil ha) rfl) rfl) rfl) rfl)
      · refine F_know (i := 24) rfl (dec_f c14) ?_
        refine F_gval rfl rfl rfl rfl rfl rfl (O_move rfl rfl) ?_
        refine F_gval rfl rfl rfl rfl rfl rfl (O_gt rfl rfl rfl) ?_
        refine F_val rfl rfl rfl (O_pickF rfl rfl rfl) ?_
        refine F_know (i := 27) rfl (dec_or_f (q := 15 < limit_1) c14) ?_
        exact F_grpE (fun a ha => Is.cons ha (Is.cons ha (Is.cons ha (Is.cons ha (Is.nil ha) rfl) rfl) rfl) rfl)
    · skip
      refine F_val rfl rfl rfl (O_move rfl rfl) ?_
      refine F_grp 3 [(31, .bool (decide (((((!z3) = true) ∨ (limit_1 < 1)) ∨ (15 < limit_1)) ∨ (by_2 < 1)))), (0, .slice A_freq_0 l_freq_0.length c_freq_0), (1, .int .i64 limit_1), (2, .int .i64 by_2)] ?_ ?_
      · rcases Decidable.em ((((!z3) = true) ∨ (limit_1 < 1)) ∨ (15 < limit_1)) with c18 | c18
        · refine F_know (i := 28) rfl (dec_t c18) ?_
          refine F_gskip rfl rfl rfl rfl rfl rfl rfl ?_
          refine F_gskip rfl rfl rfl rfl rfl rfl rfl ?_
          refine F_val rfl rfl rfl (O_pickT rfl rfl rfl) ?_
          refine F_know (i := 31) rfl (dec_or_t (q := by_2 < 1) c18) ?_
          exact F_grpE (fun a ha => Is.cons ha (Is.cons ha (Is.cons ha (Is.cons ha (Is.nil ha) rfl) rfl) rfl) rfl)
        · refine F_know (i := 28) rfl (dec_f c18) ?_
          refine F_gval rfl rfl rfl rfl rfl rfl (O_move rfl rfl) ?_
          refine F_gval rfl rfl rfl rfl rfl rfl (O_lt rfl rfl rfl) ?_
          refine F_val rfl rfl rfl (O_pickF rfl rfl rfl) ?_
          refine F_know (i := 31) rfl (dec_or_f (q := by_2 < 1) c18) ?_
          exact F_grpE (fun a ha => Is.cons ha (Is.cons ha (Is.cons ha (Is.cons ha (Is.nil ha) rfl) rfl) rfl) rfl)
      · skip
        refine F_val rfl rfl rfl (O_move rfl rfl) ?_
        refine F_grp 3 [(35, .bool (decide ((((((!z3) = true) ∨ (limit_1 < 1)) ∨ (15 < limit_1)) ∨ (by_2 < 1)) ∨ (4294967296 < by_2)))), (0, .slice A_freq_0 l_freq_0.length c_freq_0), (1, .int .i64 limit_1), (2, .int .i64 by_2)] ?_ ?_
        · rcases Decidable.em (((((!z3) = true) ∨ (limit_1 < 1)) ∨ (15 < limit_1)) ∨ (by_2 < 1)) with c22 | c22
          · refine F_know (i := 32) rfl (dec_t c22) ?_
            refine F_gskip rfl rfl rfl rfl rfl rfl rfl ?_
            refine F_gskip rfl rfl rfl rfl rfl rfl rfl ?_
            refine F_val rfl rfl rfl (O_pickT rfl rfl rfl) ?_
            refine F_know (i := 35) rfl (dec_or_t (q := 4294967296 < by_2) c22) ?_
            exact F_grpE (fun a ha => Is.cons ha (Is.cons ha (Is.cons ha (Is.cons ha (Is.nil ha) rfl) rfl) rfl) rfl)
          · refine F_know (i := 32) rfl (dec_f c22) ?_
            refine F_gval rfl rfl rfl rfl rfl rfl (O_move rfl rfl) ?_
            refine F_gval rfl rfl rfl rfl rfl rfl (O_gt rfl rfl rfl) ?_
            refine F_val rfl rfl rfl (O_pickF rfl rfl rfl) ?_
            refine F_know (i := 35) rfl (dec_or_f (q := 4294967296 < by_2) c22) ?_
            exact F_grpE (fun a ha => Is.cons ha (Is.cons ha (Is.cons ha (Is.cons ha (Is.nil ha) rfl) rfl) rfl) rfl)
        · skip
          refine F_val rfl rfl rfl (O_move rfl rfl) ?_
          obtain ⟨b30, Hb30, H⟩ := of_bind H
          refine F_grpQ 7 [(43, .bool b30), (0, .slice A_freq_0 l_freq_0.length c_freq_0), (1, .int .i64 limit_1), (2, .int .i64 by_2)] ?_ (fun w31 hw32 => ?_)
          · rcases Decidable.em ((((((!z3) = true) ∨ (limit_1 < 1)) ∨ (15 < limit_1)) ∨ (by_2 < 1)) ∨ (4294967296 < by_2)) with c34 | c34
            · refine F_know (i := 36) rfl (dec_t c34) ?_
              have H := of_pos Hb30 c34
              refine F_gskip rfl rfl rfl rfl rfl rfl rfl ?_
              refine F_gskip rfl rfl rfl rfl rfl rfl rfl ?_
              refine F_gskip rfl rfl rfl rfl rfl rfl rfl ?_
              refine F_gskip rfl rfl rfl rfl rfl rfl rfl ?_
              refine F_gskip rfl rfl rfl rfl rfl rfl rfl ?_
              refine F_gskip rfl rfl rfl rfl rfl rfl rfl ?_
              refine F_val rfl rfl rfl (O_pickT rfl rfl rfl) ?_
              refine F_know (i := 43) rfl (congrArg Value.bool (Option.some.inj H)) ?_
              exact F_grpQE (Chg.refl NoB _) (fun a ha => Is.cons ha (Is.cons ha (Is.cons ha (Is.cons ha (Is.nil ha) rfl) rfl) rfl) rfl)
            · refine F_know (i := 36) rfl (dec_f c34) ?_
              have H := of_neg Hb30 c34
              refine F_gval rfl rfl rfl rfl rfl rfl (O_move rfl rfl) ?_
              obtain ⟨z37, h36, H⟩ := of_bind H
              refine F_gqcall (v := .int .i64 z37) (xs := [.tmp 37]) rfl rfl rfl rfl rfl rfl rfl Try.func30 nm30 rfl rfl ((valiselaw6_uses.calls (HS6.give [] rfl (Lent.rd HS6 (Lent.nil) (i := 0) rfl ((HS6.cells_rd (i := 0) rfl).self))) hc_freq_0 h36).mono (fun e w hc => ?_)) (fun w38 hw39 => ?_)
              · obtain ⟨rfl, h⟩ := hc
                exact ⟨rfl, h.chg0⟩
              have HS40 := HS6.keep hw39
              refine F_gval rfl rfl rfl rfl rfl rfl (O_move rfl rfl) ?_
              refine F_gval rfl rfl rfl rfl rfl rfl (O_conv rfl rfl ⟨_, Try.underlying3⟩ Try.underlying43) ?_
              obtain ⟨g41, H⟩ := of_gd H
              refine F_gval rfl rfl rfl rfl rfl rfl (O_shl rfl rfl rfl g41) ?_
              refine F_gval rfl rfl rfl rfl rfl rfl (O_gt rfl rfl rfl) ?_
              refine F_val rfl rfl rfl (O_pickF rfl rfl rfl) ?_
              refine F_know (i := 43) rfl (congrArg Value.bool (Option.some.inj H)) ?_
              exact F_grpQE ((Chg.refl NoB _).trans hw39) (fun a ha => Is.cons ha (Is.cons ha (Is.cons ha (Is.cons ha (Is.nil ha) rfl) rfl) rfl) rfl)
          · have HS33 := HS6.keep hw32
            refine F_nil ?_
            refine L_cond rfl (fun c42 => ?_) (fun c42 => ?_)
            · have H := of_pos H c42
              refine L_seq ?_
              refine L_region ?_
              refine F_val rfl rfl rfl (O_assign rfl rfl) ?_
              refine F_nil ?_
              refine L_ret (fun a ha => (post_ret1 ha rfl rfl ?_))
              obtain rfl := Option.some.inj H
              exact ⟨rfl, HS33.sel [] rfl⟩
            · have H := of_neg H (by rw [c42]; exact Bool.false_ne_true)
              refine L_skip ?_
              refine L_seq ?_
              refine L_region ?_
              refine F_val rfl rfl rfl (O_assign rfl rfl) ?_
              have HS43 := HS33.addNil 3 (Eint .i64).sz
              have HS43 : Hp S0 w0 w31 [.rd A_freq_0 (rowC (Eint .i64) l_freq_0), .own none 0 (rowC (Eint .i64) ([] : List Int)) 3 (Eint .i64).sz] := HS43
              refine F_nil ?_
              refine L_seq ?_
              refine L_seq ?_
              refine L_region ?_
              refine F_val rfl rfl rfl (O_assign rfl rfl) ?_
              refine F_nil ?_
              obtain ⟨yj45, Hyj45, H⟩ := of_bind H
              refine L_join (fun a w => ∃ (l129 : List Int), ∃ (A127 : Option Addr), ∃ (c128 : Nat), yj45 = Sum.inr l129 ∧ Is Try.f10.ntmps a [(0, .slice A_freq_0 l_freq_0.length c_freq_0), (1, .int .i64 limit_1), (7, .slice A127 l129.length c128)] ∧ Hp S0 w0 w [.rd A_freq_0 (rowC (Eint .i64) l_freq_0), .own A127 c128 (rowC (Eint .i64) l129) 3 (Eint .i64).sz]) (fun Qj45 hNj45 hOj45 => ?_) (fun a w hR => ?_)
              · have HOj45 := H
                have H := Hyj45
                refine L_blk (fun Qb130 hNb130 hXb130 hOb130 => ?_)
                refine L_lp (fun k a w => ∃ (l184 : List Int), ∃ (s_185 : Int), ∃ (A182 : Option Addr), ∃ (c183 : Nat), Is Try.f10.ntmps a [(0, .slice A_freq_0 l_freq_0.length c_freq_0), (1, .int .i64 limit_1), (2, .int .i64 by_2), (7, .slice A182 l184.length c183), (8, .int .i64 s_185)] ∧ Hp S0 w0 w [.rd A_freq_0 (rowC (Eint .i64) l_freq_0), .own A182 c183 (rowC (Eint .i64) l184) 3 (Eint .i64).sz] ∧ valiselaw6_BuildScaled.l1 k l184 s_185 l_freq_0 by_2 = some yj45) FU (fun a ha => ⟨_, _, _, _, Is.cons ha (Is.cons ha (Is.cons ha (Is.cons ha (Is.cons ha (Is.nil ha) rfl) rfl) rfl) rfl) rfl, HS43.sel [0, 1] rfl, H⟩) (fun kp181 a w186 hI Qp181 hNp181 hOp181 => ?_)
                obtain ⟨l184, s_185, A182, c183, ha, HS187, HAp181⟩ := hI
                cases kp181 with
                | zero => cases (show (none : Option _) = some _ from HAp181)
                | succ kp181 =>
                  have H := (valiselaw6_BuildScaled.l1.eq_2 ..).symm.trans HAp181
                  refine wpLF_app ?_ ha
                  refine L_seq ?_
                  refine L_seq ?_
                  refine L_region ?_
                  refine F_val rfl rfl rfl (O_move rfl rfl) ?_
                  refine F_val rfl rfl rfl (O_move rfl rfl) ?_
                  refine F_val rfl rfl rfl (O_len rfl rfl Try.underlying22) ?_
                  refine F_val rfl rfl rfl (O_lt rfl rfl rfl) ?_
                  refine F_nil ?_
                  refine L_condP rfl (fun c188 => ?_) (fun c188 => ?_)
                  · have H := of_pos H c188
                    refine L_skip ?_
                    refine L_seq ?_
                    refine L_blk (fun Q189 hN189 hX189 hO189 => ?_)
                    refine L_seq ?_
                    refine L_seq ?_
                    refine L_quiet mix (by kernel_rfl) ?_
                    refine Q_val rfl rfl rfl (fun wq hq => O_move rfl rfl) ?_
                    refine Q_val rfl rfl rfl (fun wq hq => O_move rfl rfl) ?_
                    obtain ⟨⟨g190, g191⟩, H⟩ := of_gd H
                    refine Q_val rfl rfl rfl (fun wq hq => O_idx rfl rfl rfl Try.underlying22 size3 g190 g191 (Cells.isA ((HS187.keep hq).cells_rd (i := 0) rfl) (rowC_ne (E := (Eint .i64)) g190 g191 (by decide)))) ?_
                    refine Q_val rfl rfl rfl (fun wq hq => O_loadC rfl rfl flat3 ((HS187.keep hq).cells_rd (i := 0) rfl) (int_cell g190 g191)) ?_
                    refine Q_val rfl rfl rfl (fun wq hq => O_move rfl rfl) ?_
                    obtain ⟨g192, H⟩ := of_gd H
                    refine Q_val rfl rfl rfl (fun wq hq => O_quo rfl rfl rfl g192) ?_
                    refine Q_val rfl rfl rfl (fun wq hq => O_gt rfl rfl rfl) ?_
                    refine Q_nil (fun w193 hw194 => ?_)
                    have HS195 := HS187.keep hw194
                    refine L_condP rfl (fun c196 => ?_) (fun c196 => ?_)
                    · have H := of_pos H c196
                      refine L_seq ?_
                      refine L_region ?_
                      refine F_val rfl rfl rfl (O_assign rfl rfl) ?_
                      refine F_nil ?_
                      refine L_ret (fun a ha => (hO189 .ret a _ rfl (hOp181 .ret a _ rfl (hOb130 .ret a _ rfl (hOj45 .ret a _ rfl (post_ret1 ha rfl rfl ?_))))))
                      obtain rfl := Option.some.inj H
                      obtain rfl := Option.some.inj (show (some true : Option (Bool)) = some _ from HOj45)
                      exact ⟨rfl, HS195.sel [] rfl⟩
                    · have H := of_neg H c196
                      refine L_skip ?_
                      refine L_region ?_
                      refine F_val rfl rfl rfl (O_move rfl rfl) ?_
                      refine F_val rfl rfl rfl (O_move rfl rfl) ?_
                      refine F_val rfl rfl rfl (O_move rfl rfl) ?_
                      refine F_val rfl rfl rfl (O_move rfl rfl) ?_
                      refine F_val rfl rfl rfl (O_idx rfl rfl rfl Try.underlying22 size3 g190 g191 (Cells.isA (HS195.cells_rd (i := 0) rfl) (rowC_ne (E := (Eint .i64)) g190 g191 (by decide)))) ?_
                      refine F_val rfl rfl rfl (O_loadC rfl rfl flat3 (HS195.cells_rd (i := 0) rfl) (int_cell g190 g191)) ?_
                      refine F_val rfl rfl rfl (O_mul rfl rfl rfl) ?_
                      refine F_litE (E := (Eint .i64)) (e := 3) [(0, .int .i64 (IntKind.i64.wrap (by_2 * (rd l_freq_0 s_185))))] [IntKind.i64.wrap (by_2 * (rd l_freq_0 s_185))] rfl rfl rfl rfl rfl rfl rfl (by decide) (fun w => by kernel_rfl) HS195 (fun w197 A199 c200 HS198 => ?_)
                      have HS198 : Hp S0 w0 w197 [.rd A_freq_0 (rowC (Eint .i64) l_freq_0), .own A182 c183 (rowC (Eint .i64) l184) 3 (Eint .i64).sz, .own A199 c200 (rowC (Eint .i64) [IntKind.i64.wrap (by_2 * (rd l_freq_0 s_185))]) 3 (Eint .i64).sz] := HS198
                      obtain ⟨l204, h205, H⟩ := of_bnd H
                      obtain ⟨g206, H⟩ := of_gd H
                      refine F_appE (E := (Eint .i64)) (xs := l184) (ys := [IntKind.i64.wrap (by_2 * (rd l_freq_0 s_185))]) (i := 1) rfl rfl rfl rfl Try.underlying22 info3 rfl (by decide) (by decide) rfl rfl HS198 rfl (HS198.cells_own (i := 2) rfl) h205 g206 (fun w202 A207 c208 HS203 => ?_)
                      have HS203 : Hp S0 w0 w202 [.rd A_freq_0 (rowC (Eint .i64) l_freq_0), .own A207 c208 (rowC (Eint .i64) l204) 3 (Eint .i64).sz, .own A199 c200 (rowC (Eint .i64) [IntKind.i64.wrap (by_2 * (rd l_freq_0 s_185))]) 3 (Eint .i64).sz] := HS203
                      refine F_val rfl rfl rfl (O_assign rfl rfl) ?_
                      refine F_nil ?_
                      refine L_endB hN189 ?_
                      refine L_region ?_
                      refine F_val rfl rfl rfl (O_move rfl rfl) ?_
                      refine F_val rfl rfl rfl (O_add rfl rfl rfl) ?_
                      obtain ⟨x209, h210, H⟩ := of_bnd H
                      refine F_val rfl rfl rfl (O_assign' rfl rfl (congrArg (Value.int .i64) h210)) ?_
                      refine F_nil ?_
                      refine L_nil (fun a ha => hNp181 _ a _ (Nat.lt_succ_self _) ⟨_, _, _, _, Is.cons ha (Is.cons ha (Is.cons ha (Is.cons ha (Is.cons ha (Is.nil ha) rfl) rfl) rfl) rfl) rfl, HS203.sel [0, 1] rfl, H⟩)
                  · have H := of_neg H c188
                    refine L_exitB (fun a w h => hOp181 (.exit 0) a w rfl (hXb130 a w h)) ?_
                    refine L_nil (fun a ha => hNj45 a _ ⟨_, _, _, (Option.some.inj H).symm, Is.cons ha (Is.cons ha (Is.cons ha (Is.nil ha) rfl) rfl) rfl, HS187.sel [0, 1] rfl⟩)
              · obtain ⟨l129, A127, c128, rfl, ha, HS212⟩ := hR
                refine wpLF_app ?_ ha
                have H := (onR_inr _ _ _).symm.trans H
                refine L_seq ?_
                refine L_region ?_
                refine F_val rfl rfl rfl (O_move rfl rfl) ?_
                obtain ⟨z217, h216, H⟩ := of_bind H
                refine F_call (xs := [.tmp 67]) rfl rfl rfl rfl Try.func24 nm24 rfl rfl ((valiselaw6_copied.calls (HS212.give [] rfl (Lent.rd HS212 (Lent.nil) (i := 0) rfl ((HS212.cells_rd (i := 0) rfl).self))) hc_freq_0 h216).mono (fun e w hc => ?_))
                obtain ⟨A220, c221, rfl, HSo⟩ := hc
                refine ⟨.slice A220 z217.length c221, rfl, ?_⟩
                have HS219 : Hp S0 w0 w [.rd A_freq_0 (rowC (Eint .i64) l_freq_0), .own A127 c128 (rowC (Eint .i64) l129) 3 (Eint .i64).sz, .own A220 c221 (rowC (Eint .i64) z217) 3 (Eint .i64).sz] := (HS212.back [] HSo rfl).sel [0, 1, 2] rfl
                obtain ⟨⟨z227, z228⟩, h226, H⟩ := of_bind H
                refine F_call (xs := [.tmp 68]) rfl rfl rfl rfl Try.func20 nm20 rfl rfl ((build_Depths.calls (HS219.give [] rfl (Lent.own HS219 (Lent.nil) (i := 2) rfl rfl ((HS219.cells_own (i := 2) rfl).self))) (HS219.own_capE (i := 2) rfl (by decide)) h226).mono (fun e w hc => ?_))
                obtain ⟨A231, c232, rfl, HSo⟩ := hc
                refine ⟨.tuple #[.slice A231 z227.length c232, .int .i64 z228], rfl, ?_⟩
                have HS230 : Hp S0 w0 w [.rd A_freq_0 (rowC (Eint .i64) l_freq_0), .own A127 c128 (rowC (Eint .i64) l129) 3 (Eint .i64).sz, .own A220 c221 (rowC (Eint .i64) z217) 3 (Eint .i64).sz, .own A231 c232 (rowC (Eint .i64) z227) 3 (Eint .i64).sz] := (HS219.back [] HSo rfl).sel [0, 1, 2, 3] rfl
                refine F_val rfl rfl rfl (O_move rfl rfl) ?_
                refine F_val rfl rfl rfl (O_extract (v := .slice A231 z227.length c232) rfl rfl rfl) ?_
                refine F_val rfl rfl rfl (O_extract (v := .int .i64 z228) rfl rfl rfl) ?_
                refine F_val rfl rfl rfl (O_assign rfl rfl) ?_
                refine F_val rfl rfl rfl (O_assign rfl rfl) ?_
                refine F_nil ?_
                refine L_seq ?_
                refine L_region ?_
                refine F_val rfl rfl rfl (O_move rfl rfl) ?_
                obtain ⟨z238, h237, H⟩ := of_bind H
                refine F_call (xs := [.tmp 73]) rfl rfl rfl rfl Try.func24 nm24 rfl rfl ((valiselaw6_copied.calls (HS230.give [] rfl (Lent.rd HS230 (Lent.nil) (i := 0) rfl ((HS230.cells_rd (i := 0) rfl).self))) hc_freq_0 h237).mono (fun e w hc => ?_))
                obtain ⟨A241, c242, rfl, HSo⟩ := hc
                refine ⟨.slice A241 z238.length c242, rfl, ?_⟩
                have HS240 : Hp S0 w0 w [.rd A_freq_0 (rowC (Eint .i64) l_freq_0), .own A127 c128 (rowC (Eint .i64) l129) 3 (Eint .i64).sz, .own A220 c221 (rowC (Eint .i64) z217) 3 (Eint .i64).sz, .own A231 c232 (rowC (Eint .i64) z227) 3 (Eint .i64).sz, .own A241 c242 (rowC (Eint .i64) z238) 3 (Eint .i64).sz] := (HS230.back [] HSo rfl).sel [0, 1, 2, 3, 4] rfl
                refine F_val rfl rfl rfl (O_move rfl rfl) ?_
                obtain ⟨⟨z248, z249⟩, h247, H⟩ := of_bind H
                refine F_call (xs := [.tmp 74, .tmp 75]) rfl rfl rfl rfl Try.func28 nm28 rfl rfl ((build_Limited.calls (HS240.give [] rfl (Lent.own HS240 (Lent.nil) (i := 4) rfl rfl ((HS240.cells_own (i := 4) rfl).self))) (HS240.own_capE (i := 4) rfl (by decide)) h247).mono (fun e w hc => ?_))
                obtain ⟨A252, c253, rfl, HSo⟩ := hc
                refine ⟨.tuple #[.slice A252 z248.length c253, .int .i64 z249], rfl, ?_⟩
                have HS251 : Hp S0 w0 w [.rd A_freq_0 (rowC (Eint .i64) l_freq_0), .own A127 c128 (rowC (Eint .i64) l129) 3 (Eint .i64).sz, .own A220 c221 (rowC (Eint .i64) z217) 3 (Eint .i64).sz, .own A231 c232 (rowC (Eint .i64) z227) 3 (Eint .i64).sz, .own A241 c242 (rowC (Eint .i64) z238) 3 (Eint .i64).sz, .own A252 c253 (rowC (Eint .i64) z248) 3 (Eint .i64).sz] := (HS240.back [] HSo rfl).sel [0, 1, 2, 3, 4, 5] rfl
                refine F_val rfl rfl rfl (O_move rfl rfl) ?_
                refine F_val rfl rfl rfl (O_extract (v := .slice A252 z248.length c253) rfl rfl rfl) ?_
                refine F_val rfl rfl rfl (O_extract (v := .int .i64 z249) rfl rfl rfl) ?_
                refine F_val rfl rfl rfl (O_assign rfl rfl) ?_
                refine F_val rfl rfl rfl (O_assign rfl rfl) ?_
                refine F_nil ?_
                refine L_seq ?_
                refine L_seq ?_
                have HS255 : Hp S0 w0 w [.rd A_freq_0 (rowC (Eint .i64) l_freq_0), .own A127 c128 (rowC (Eint .i64) l129) 3 (Eint .i64).sz, .own A231 c232 (rowC (Eint .i64) z227) 3 (Eint .i64).sz, .own A252 c253 (rowC (Eint .i64) z248) 3 (Eint .i64).sz] := HS251.sel [0, 1, 3, 5] rfl
                refine L_region ?_
                refine F_val rfl rfl rfl (O_move rfl rfl) ?_
                refine F_val rfl rfl rfl (O_ne rfl rfl rfl) ?_
                refine F_val rfl rfl rfl (O_move rfl rfl) ?_
                refine F_grp 3 [(84, .bool (decide ((z228 ≠ 0) ∨ (z249 ≠ 0)))), (0, .slice A_freq_0 l_freq_0.length c_freq_0), (1, .int .i64 limit_1), (7, .slice A127 l129.length c128), (9, .slice A231 z227.length c232), (11, .slice A252 z248.length c253)] ?_ ?_
                · rcases Decidable.em (z228 ≠ 0) with c259 | c259
                  · refine F_know (i := 81) rfl (dec_t c259) ?_
                    refine F_gskip rfl rfl rfl rfl rfl rfl rfl ?_
                    refine F_gskip rfl rfl rfl rfl rfl rfl rfl ?_
                    refine F_val rfl rfl rfl (O_pickT rfl rfl rfl) ?_
                    refine F_know (i := 84) rfl (dec_or_t (q := z249 ≠ 0) c259) ?_
                    exact F_grpE (fun a ha => Is.cons ha (Is.cons ha (Is.cons ha (Is.cons ha (Is.cons ha (Is.cons ha (Is.nil ha) rfl) rfl) rfl) rfl) rfl) rfl)
                  · refine F_know (i := 81) rfl (dec_f c259) ?_
                    refine F_gval rfl rfl rfl rfl rfl rfl (O_move rfl rfl) ?_
                    refine F_gval rfl rfl rfl rfl rfl rfl (O_ne rfl rfl rfl) ?_
                    refine F_val rfl rfl rfl (O_pickF rfl rfl rfl) ?_
                    refine F_know (i := 84) rfl (dec_or_f (q := z249 ≠ 0) c259) ?_
                    exact F_grpE (fun a ha => Is.cons ha (Is.cons ha (Is.cons ha (Is.cons ha (Is.cons ha (Is.cons ha (Is.nil ha) rfl) rfl) rfl) rfl) rfl) rfl)
                · skip
                  refine F_val rfl rfl rfl (O_move rfl rfl) ?_
                  obtain ⟨b266, Hb266, H⟩ := of_bind H
                  refine F_grpQ 5 [(90, .bool b266), (0, .slice A_freq_0 l_freq_0.length c_freq_0), (1, .int .i64 limit_1), (7, .slice A127 l129.length c128), (9, .slice A231 z227.length c232), (11, .slice A252 z248.length c253)] ?_ (fun w267 hw268 => ?_)
                  · rcases Decidable.em ((z228 ≠ 0) ∨ (z249 ≠ 0)) with c270 | c270
                    · refine F_know (i := 85) rfl (dec_t c270) ?_
                      have H := of_pos Hb266 c270
                      refine F_gskip rfl rfl rfl rfl rfl rfl rfl ?_
                      refine F_gskip rfl rfl rfl rfl rfl rfl rfl ?_
                      refine F_gskip rfl rfl rfl rfl rfl rfl rfl ?_
                      refine F_gskip rfl rfl rfl rfl rfl rfl rfl ?_
                      refine F_val rfl rfl rfl (O_pickT rfl rfl rfl) ?_
                      refine F_know (i := 90) rfl (congrArg Value.bool (Option.some.inj H)) ?_
                      exact F_grpQE (Chg.refl NoB _) (fun a ha => Is.cons ha (Is.cons ha (Is.cons ha (Is.cons ha (Is.cons ha (Is.cons ha (Is.nil ha) rfl) rfl) rfl) rfl) rfl) rfl)
                    · refine F_know (i := 85) rfl (dec_f c270) ?_
                      have H := of_neg Hb266 c270
                      refine F_gval rfl rfl rfl rfl rfl rfl (O_move rfl rfl) ?_
                      refine F_gval rfl rfl rfl rfl rfl rfl (O_move rfl rfl) ?_
                      obtain ⟨z273, h272, H⟩ := of_bind H
                      refine F_gqcall (v := .bool z273) (xs := [.tmp 86, .tmp 87, .const (.int .i64 60)]) rfl rfl rfl rfl rfl rfl rfl Try.func25 nm25 rfl rfl ((valiselaw6_good.calls (HS255.give [] rfl (Lent.rd HS255 (Lent.own HS255 (Lent.nil) (i := 2) rfl rfl ((HS255.cells_own (i := 2) rfl).self)) (i := 0) rfl ((HS255.cells_rd (i := 0) rfl).self))) hc_freq_0 (HS255.own_capE (i := 2) rfl (by decide)) h272).mono (fun e w hc => ?_)) (fun w274 hw275 => ?_)
                      · obtain ⟨rfl, h⟩ := hc
                        exact ⟨rfl, h.chg0⟩
                      have HS276 := HS255.keep hw275
                      refine F_gval rfl rfl rfl rfl rfl rfl (O_notb rfl rfl) ?_
                      refine F_val rfl rfl rfl (O_pickF rfl rfl rfl) ?_
                      refine F_know (i := 90) rfl (congrArg Value.bool (Option.some.inj H)) ?_
                      exact F_grpQE ((Chg.refl NoB _).trans hw275) (fun a ha => Is.cons ha (Is.cons ha (Is.cons ha (Is.cons ha (Is.cons ha (Is.cons ha (Is.nil ha) rfl) rfl) rfl) rfl) rfl) rfl)
                  · have HS269 := HS255.keep hw268
                    refine F_val rfl rfl rfl (O_move rfl rfl) ?_
                    obtain ⟨b283, Hb283, H⟩ := of_bind H
                    refine F_grpQ 6 [(97, .bool b283), (1, .int .i64 limit_1), (7, .slice A127 l129.length c128), (9, .slice A231 z227.length c232), (11, .slice A252 z248.length c253)] ?_ (fun w284 hw285 => ?_)
                    · rcases Decidable.em (b266 = true) with c287 | c287
                      · refine F_know (i := 91) rfl (congrArg Value.bool c287) ?_
                        have H := of_pos Hb283 c287
                        refine F_gskip rfl rfl rfl rfl rfl rfl rfl ?_
                        refine F_gskip rfl rfl rfl rfl rfl rfl rfl ?_
                        refine F_gskip rfl rfl rfl rfl rfl rfl rfl ?_
                        refine F_gskip rfl rfl rfl rfl rfl rfl rfl ?_
                        refine F_gskip rfl rfl rfl rfl rfl rfl rfl ?_
                        refine F_val rfl rfl rfl (O_pickT rfl rfl rfl) ?_
                        refine F_know (i := 97) rfl (congrArg Value.bool (Option.some.inj H)) ?_
                        exact F_grpQE (Chg.refl NoB _) (fun a ha => Is.cons ha (Is.cons ha (Is.cons ha (Is.cons ha (Is.cons ha (Is.nil ha) rfl) rfl) rfl) rfl) rfl)
                      · refine F_know (i := 91) rfl (congrArg Value.bool (Bool.eq_false_iff.mpr c287)) ?_
                        have H := of_neg Hb283 c287
                        refine F_gval rfl rfl rfl rfl rfl rfl (O_move rfl rfl) ?_
                        refine F_gval rfl rfl rfl rfl rfl rfl (O_move rfl rfl) ?_
                        refine F_gval rfl rfl rfl rfl rfl rfl (O_move rfl rfl) ?_
                        obtain ⟨z290, h289, H⟩ := of_bind H
                        refine F_gqcall (v := .bool z290) (xs := [.tmp 92, .tmp 93, .tmp 94]) rfl rfl rfl rfl rfl rfl rfl Try.func25 nm25 rfl rfl ((valiselaw6_good.calls (HS269.give [] rfl (Lent.rd HS269 (Lent.own HS269 (Lent.nil) (i := 3) rfl rfl ((HS269.cells_own (i := 3) rfl).self)) (i := 0) rfl ((HS269.cells_rd (i := 0) rfl).self))) hc_freq_0 (HS269.own_capE (i := 3) rfl (by decide)) h289).mono (fun e w hc => ?_)) (fun w291 hw292 => ?_)
                        · obtain ⟨rfl, h⟩ := hc
                          exact ⟨rfl, h.chg0⟩
                        have HS293 := HS269.keep hw292
                        refine F_gval rfl rfl rfl rfl rfl rfl (O_notb rfl rfl) ?_
                        refine F_val rfl rfl rfl (O_pickF rfl rfl rfl) ?_
                        refine F_know (i := 97) rfl (congrArg Value.bool (Option.some.inj H)) ?_
                        exact F_grpQE ((Chg.refl NoB _).trans hw292) (fun a ha => Is.cons ha (Is.cons ha (Is.cons ha (Is.cons ha (Is.cons ha (Is.nil ha) rfl) rfl) rfl) rfl) rfl)
                    · have HS286 := HS269.keep hw285
                      refine F_nil ?_
                      refine L_cond rfl (fun c294 => ?_) (fun c294 => ?_)
                      · have H := of_pos H c294
                        refine L_seq ?_
                        have HS295 : Hp S0 w0 w284 [.rd A_freq_0 (rowC (Eint .i64) l_freq_0)] := HS286.sel [0] rfl
                        refine L_region ?_
                        refine F_val rfl rfl rfl (O_assign rfl rfl) ?_
                        refine F_nil ?_
                        refine L_ret (fun a ha => (post_ret1 ha rfl rfl ?_))
                        obtain rfl := Option.some.inj H
                        exact ⟨rfl, HS295.sel [] rfl⟩
                      · have H := of_neg H (by rw [c294]; exact Bool.false_ne_true)
                        refine L_skip ?_
                        refine L_seq ?_
                        refine L_region ?_
                        refine F_val rfl rfl rfl (O_move rfl rfl) ?_
                        obtain ⟨z300, h299, H⟩ := of_bind H
                        refine F_call (xs := [.tmp 99]) rfl rfl rfl rfl Try.func24 nm24 rfl rfl ((valiselaw6_copied.calls (HS286.give [] rfl (Lent.own HS286 (Lent.nil) (i := 1) rfl rfl ((HS286.cells_own (i := 1) rfl).self))) (HS286.own_capE (i := 1) rfl (by decide)) h299).mono (fun e w hc => ?_))
                        obtain ⟨A303, c304, rfl, HSo⟩ := hc
                        refine ⟨.slice A303 z300.length c304, rfl, ?_⟩
                        have HS302 : Hp S0 w0 w [.rd A_freq_0 (rowC (Eint .i64) l_freq_0), .own A127 c128 (rowC (Eint .i64) l129) 3 (Eint .i64).sz, .own A231 c232 (rowC (Eint .i64) z227) 3 (Eint .i64).sz, .own A252 c253 (rowC (Eint .i64) z248) 3 (Eint .i64).sz, .own A303 c304 (rowC (Eint .i64) z300) 3 (Eint .i64).sz] := (HS286.back [] HSo rfl).sel [0, 1, 2, 3, 4] rfl
                        obtain ⟨⟨z310, z311⟩, h309, H⟩ := of_bind H
                        refine F_call (xs := [.tmp 100]) rfl rfl rfl rfl Try.func20 nm20 rfl rfl ((build_Depths.calls (HS302.give [] rfl (Lent.own HS302 (Lent.nil) (i := 4) rfl rfl ((HS302.cells_own (i := 4) rfl).self))) (HS302.own_capE (i := 4) rfl (by decide)) h309).mono (fun e w hc => ?_))
                        obtain ⟨A314, c315, rfl, HSo⟩ := hc
                        refine ⟨.tuple #[.slice A314 z310.length c315, .int .i64 z311], rfl, ?_⟩
                        have HS313 : Hp S0 w0 w [.rd A_freq_0 (rowC (Eint .i64) l_freq_0), .own A127 c128 (rowC (Eint .i64) l129) 3 (Eint .i64).sz, .own A231 c232 (rowC (Eint .i64) z227) 3 (Eint .i64).sz, .own A252 c253 (rowC (Eint .i64) z248) 3 (Eint .i64).sz, .own A303 c304 (rowC (Eint .i64) z300) 3 (Eint .i64).sz, .own A314 c315 (rowC (Eint .i64) z310) 3 (Eint .i64).sz] := (HS302.back [] HSo rfl).sel [0, 1, 2, 3, 4, 5] rfl
                        refine F_val rfl rfl rfl (O_move rfl rfl) ?_
                        refine F_val rfl rfl rfl (O_extract (v := .slice A314 z310.length c315) rfl rfl rfl) ?_
                        refine F_val rfl rfl rfl (O_extract (v := .int .i64 z311) rfl rfl rfl) ?_
                        refine F_val rfl rfl rfl (O_assign rfl rfl) ?_
                        refine F_val rfl rfl rfl (O_assign rfl rfl) ?_
                        refine F_nil ?_
                        refine L_seq ?_
                        refine L_region ?_
                        refine F_val rfl rfl rfl (O_move rfl rfl) ?_
                        obtain ⟨z321, h320, H⟩ := of_bind H
                        refine F_call (xs := [.tmp 105]) rfl rfl rfl rfl Try.func24 nm24 rfl rfl ((valiselaw6_copied.calls (HS313.give [] rfl (Lent.own HS313 (Lent.nil) (i := 1) rfl rfl ((HS313.cells_own (i := 1) rfl).self))) (HS313.own_capE (i := 1) rfl (by decide)) h320).mono (fun e w hc => ?_))
                        obtain ⟨A324, c325, rfl, HSo⟩ := hc
                        refine ⟨.slice A324 z321.length c325, rfl, ?_⟩
                        have HS323 : Hp S0 w0 w [.rd A_freq_0 (rowC (Eint .i64) l_freq_0), .own A127 c128 (rowC (Eint .i64) l129) 3 (Eint .i64).sz, .own A231 c232 (rowC (Eint .i64) z227) 3 (Eint .i64).sz, .own A252 c253 (rowC (Eint .i64) z248) 3 (Eint .i64).sz, .own A303 c304 (rowC (Eint .i64) z300) 3 (Eint .i64).sz, .own A314 c315 (rowC (Eint .i64) z310) 3 (Eint .i64).sz, .own A324 c325 (rowC (Eint .i64) z321) 3 (Eint .i64).sz] := (HS313.back [] HSo rfl).sel [0, 1, 2, 3, 4, 5, 6] rfl
                        refine F_val rfl rfl rfl (O_move rfl rfl) ?_
                        obtain ⟨⟨z331, z332⟩, h330, H⟩ := of_bind H
                        refine F_call (xs := [.tmp 106, .tmp 107]) rfl rfl rfl rfl Try.func28 nm28 rfl rfl ((build_Limited.calls (HS323.give [] rfl (Lent.own HS323 (Lent.nil) (i := 6) rfl rfl ((HS323.cells_own (i := 6) rfl).self))) (HS323.own_capE (i := 6) rfl (by decide)) h330).mono (fun e w hc => ?_))
                        obtain ⟨A335, c336, rfl, HSo⟩ := hc
                        refine ⟨.tuple #[.slice A335 z331.length c336, .int .i64 z332], rfl, ?_⟩
                        have HS334 : Hp S0 w0 w [.rd A_freq_0 (rowC (Eint .i64) l_freq_0), .own A127 c128 (rowC (Eint .i64) l129) 3 (Eint .i64).sz, .own A231 c232 (rowC (Eint .i64) z227) 3 (Eint .i64).sz, .own A252 c253 (rowC (Eint .i64) z248) 3 (Eint .i64).sz, .own A303 c304 (rowC (Eint .i64) z300) 3 (Eint .i64).sz, .own A314 c315 (rowC (Eint .i64) z310) 3 (Eint .i64).sz, .own A324 c325 (rowC (Eint .i64) z321) 3 (Eint .i64).sz, .own A335 c336 (rowC (Eint .i64) z331) 3 (Eint .i64).sz] := (HS323.back [] HSo rfl).sel [0, 1, 2, 3, 4, 5, 6, 7] rfl
                        refine F_val rfl rfl rfl (O_move rfl rfl) ?_
                        refine F_val rfl rfl rfl (O_extract (v := .slice A335 z331.length c336) rfl rfl rfl) ?_
                        refine F_val rfl rfl rfl (O_extract (v := .int .i64 z332) rfl rfl rfl) ?_
                        refine F_val rfl rfl rfl (O_assign rfl rfl) ?_
                        refine F_val rfl rfl rfl (O_assign rfl rfl) ?_
                        refine F_nil ?_
                        refine L_seq ?_
                        have HS338 : Hp S0 w0 w [.rd A_freq_0 (rowC (Eint .i64) l_freq_0), .own A231 c232 (rowC (Eint .i64) z227) 3 (Eint .i64).sz, .own A252 c253 (rowC (Eint .i64) z248) 3 (Eint .i64).sz, .own A314 c315 (rowC (Eint .i64) z310) 3 (Eint .i64).sz, .own A335 c336 (rowC (Eint .i64) z331) 3 (Eint .i64).sz] := HS334.sel [0, 2, 3, 5, 7] rfl
                        refine L_region ?_
                        refine F_val rfl rfl rfl (O_move rfl rfl) ?_
                        refine F_val rfl rfl rfl (O_eq rfl rfl rfl) ?_
                        refine F_val rfl rfl rfl (O_move rfl rfl) ?_
                        refine F_grp 3 [(116, .bool (decide ((z311 = 0) ∧ (z332 = 0)))), (9, .slice A231 z227.length c232), (11, .slice A252 z248.length c253), (13, .slice A314 z310.length c315), (15, .slice A335 z331.length c336)] ?_ ?_
                        · rcases Decidable.em (z311 = 0) with c342 | c342
                          · refine F_know (i := 113) rfl (dec_t c342) ?_
                            refine F_gval rfl rfl rfl rfl rfl rfl (O_move rfl rfl) ?_
                            refine F_gval rfl rfl rfl rfl rfl rfl (O_eq rfl rfl rfl) ?_
                            refine F_val rfl rfl rfl (O_pickT rfl rfl rfl) ?_
                            refine F_know (i := 116) rfl (dec_and_t (q := z332 = 0) c342) ?_
                            exact F_grpE (fun a ha => Is.cons ha (Is.cons ha (Is.cons ha (Is.cons ha (Is.cons ha (Is.nil ha) rfl) rfl) rfl) rfl) rfl)
                          · refine F_know (i := 113) rfl (dec_f c342) ?_
                            refine F_gskip rfl rfl rfl rfl rfl rfl rfl ?_
                            refine F_gskip rfl rfl rfl rfl rfl rfl rfl ?_
                            refine F_val rfl rfl rfl (O_pickF rfl rfl rfl) ?_
                            refine F_know (i := 116) rfl (dec_and_f (q := z332 = 0) c342) ?_
                            exact F_grpE (fun a ha => Is.cons ha (Is.cons ha (Is.cons ha (Is.cons ha (Is.cons ha (Is.nil ha) rfl) rfl) rfl) rfl) rfl)
                        · skip
                          refine F_val rfl rfl rfl (O_move rfl rfl) ?_
                          obtain ⟨b349, Hb349, H⟩ := of_bind H
                          refine F_grpQ 4 [(121, .bool b349), (11, .slice A252 z248.length c253), (15, .slice A335 z331.length c336)] ?_ (fun w350 hw351 => ?_)
                          · rcases Decidable.em ((z311 = 0) ∧ (z332 = 0)) with c353 | c353
                            · refine F_know (i := 117) rfl (dec_t c353) ?_
                              have H := of_pos Hb349 c353
                              refine F_gval rfl rfl rfl rfl rfl rfl (O_move rfl rfl) ?_
                              refine F_gval rfl rfl rfl rfl rfl rfl (O_move rfl rfl) ?_
                              obtain ⟨z356, h355, H⟩ := of_bind H
                              refine F_gqcall (v := .bool z356) (xs := [.tmp 118, .tmp 119]) rfl rfl rfl rfl rfl rfl rfl Try.func22 nm22 rfl rfl ((valiselaw6_same.calls (HS338.give [] rfl (Lent.own HS338 (Lent.own HS338 (Lent.nil) (i := 1) rfl rfl ((HS338.cells_own (i := 1) rfl).self)) (i := 3) rfl rfl ((HS338.cells_own (i := 3) rfl).self))) (HS338.own_capE (i := 3) rfl (by decide)) (HS338.own_capE (i := 1) rfl (by decide)) h355).mono (fun e w hc => ?_)) (fun w357 hw358 => ?_)
                              · obtain ⟨rfl, h⟩ := hc
                                exact ⟨rfl, h.chg0⟩
                              have HS359 := HS338.keep hw358
                              refine F_val rfl rfl rfl (O_pickT rfl rfl rfl) ?_
                              refine F_know (i := 121) rfl (congrArg Value.bool (Option.some.inj H)) ?_
                              exact F_grpQE ((Chg.refl NoB _).trans hw358) (fun a ha => Is.cons ha (Is.cons ha (Is.cons ha (Is.nil ha) rfl) rfl) rfl)
                            · refine F_know (i := 117) rfl (dec_f c353) ?_
                              have H := of_neg Hb349 c353
                              refine F_gskip rfl rfl rfl rfl rfl rfl rfl ?_
                              refine F_gskip rfl rfl rfl rfl rfl rfl rfl ?_
                              refine F_gskip rfl rfl rfl rfl rfl rfl rfl ?_
                              refine F_val rfl rfl rfl (O_pickF rfl rfl rfl) ?_
                              refine F_know (i := 121) rfl (congrArg Value.bool (Option.some.inj H)) ?_
                              exact F_grpQE (Chg.refl NoB _) (fun a ha => Is.cons ha (Is.cons ha (Is.cons ha (Is.nil ha) rfl) rfl) rfl)
                          · have HS352 := HS338.keep hw351
                            refine F_val rfl rfl rfl (O_move rfl rfl) ?_
                            obtain ⟨b366, Hb366, H⟩ := of_bind H
                            refine F_grpQ 4 [(126, .bool b366)] ?_ (fun w367 hw368 => ?_)
                            · rcases Decidable.em (b349 = true) with c370 | c370
                              · refine F_know (i := 122) rfl (congrArg Value.bool c370) ?_
                                have H := of_pos Hb366 c370
                                refine F_gval rfl rfl rfl rfl rfl rfl (O_move rfl rfl) ?_
                                refine F_gval rfl rfl rfl rfl rfl rfl (O_move rfl rfl) ?_
                                obtain ⟨z373, h372, H⟩ := of_bind H
                                refine F_gqcall (v := .bool z373) (xs := [.tmp 123, .tmp 124]) rfl rfl rfl rfl rfl rfl rfl Try.func22 nm22 rfl rfl ((valiselaw6_same.calls (HS352.give [] rfl (Lent.own HS352 (Lent.own HS352 (Lent.nil) (i := 2) rfl rfl ((HS352.cells_own (i := 2) rfl).self)) (i := 4) rfl rfl ((HS352.cells_own (i := 4) rfl).self))) (HS352.own_capE (i := 4) rfl (by decide)) (HS352.own_capE (i := 2) rfl (by decide)) h372).mono (fun e w hc => ?_)) (fun w374 hw375 => ?_)
                                · obtain ⟨rfl, h⟩ := hc
                                  exact ⟨rfl, h.chg0⟩
                                have HS376 := HS352.keep hw375
                                refine F_val rfl rfl rfl (O_pickT rfl rfl rfl) ?_
                                refine F_know (i := 126) rfl (congrArg Value.bool (Option.some.inj H)) ?_
                                exact F_grpQE ((Chg.refl NoB _).trans hw375) (fun a ha => Is.cons ha (Is.nil ha) rfl)
                              · refine F_know (i := 122) rfl (congrArg Value.bool (Bool.eq_false_iff.mpr c370)) ?_
                                have H := of_neg Hb366 c370
                                refine F_gskip rfl rfl rfl rfl rfl rfl rfl ?_
                                refine F_gskip rfl rfl rfl rfl rfl rfl rfl ?_
                                refine F_gskip rfl rfl rfl rfl rfl rfl rfl ?_
                                refine F_val rfl rfl rfl (O_pickF rfl rfl rfl) ?_
                                refine F_know (i := 126) rfl (congrArg Value.bool (Option.some.inj H)) ?_
                                exact F_grpQE (Chg.refl NoB _) (fun a ha => Is.cons ha (Is.nil ha) rfl)
                            · have HS369 := HS352.keep hw368
                              refine F_val rfl rfl rfl (O_assign rfl rfl) ?_
                              refine F_nil ?_
                              refine L_ret (fun a ha => (post_ret1 ha rfl rfl ?_))
                              obtain rfl := Option.some.inj H
                              exact ⟨rfl, HS369.sel [] rfl⟩

end Go.Proofs.Ytbegkkmngkpjmaa
