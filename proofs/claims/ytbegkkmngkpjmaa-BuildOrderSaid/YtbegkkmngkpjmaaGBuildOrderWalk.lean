import Derived.Test.YtbegkkmngkpjmaaGBuildOrderWalk2
set_option linter.unusedVariables false
set_option linter.unusedSimpArgs false
set_option maxRecDepth 10000
set_option maxHeartbeats 1000000
namespace Go.Proofs.Ytbegkkmngkpjmaa
open Go Go.V Go.V.Pu
/-! function 9: valise/valiselaw6.BuildOrder -/
theorem valiselaw6_BuildOrder.calls {S0 : Nat → Prop} {w0 : World} {A_freq_0 : Option Addr} {c_freq_0 : Nat} {l_freq_0 : List Int} {limit_1 : Int} {r : Bool} (HS0 : Hp S0 w0 w0 [.rd A_freq_0 (rowC (Eint .i64) l_freq_0)]) (hc_freq_0 : l_freq_0.length ≤ c_freq_0) (h : valiselaw6_BuildOrder.f l_freq_0 limit_1 = some r) :
    Calls Try.prog 9 ([.slice A_freq_0 l_freq_0.length c_freq_0, .int .i64 limit_1] : List Value).toArray w0 (fun e w => e = .returned (.bool r) ∧ Hp S0 w0 w []) := by
  have H : (((valiselaw6_sound.f l_freq_0).bind fun z3 => (if (((!z3) = true) ∨ (limit_1 < 1)) ∨ (15 < limit_1) then (some true) else ((valiselaw6_uses.f l_freq_0).bind fun z29 => gd (¬ (IntKind.u64.wrap limit_1) < 0) (some (decide (shl .i64 1 (IntKind.u64.wrap limit_1) < z29))))).bind fun b22 => if b22 = true then (some true) else ((valiselaw6_copied.f l_freq_0).bind fun z39 => (build_Depths.f z39).bind fun (z49, z50) => (valiselaw6_copied.f l_freq_0).bind fun z60 => (build_Limited.f z60 limit_1).bind fun (z70, z71) => (if (z50 ≠ 0) ∨ (z71 ≠ 0) then (some true) else ((valiselaw6_good.f l_freq_0 z49 60).bind fun z95 => some (!z95))).bind fun b88 => (if b88 = true then (some true) else ((valiselaw6_good.f l_freq_0 z70 limit_1).bind fun z112 => some (!z112))).bind fun b105 => if b105 = true then (some false) else ((valiselaw6_BuildOrder.l11 FU 0 l_freq_0 z49 z70).bind fun (yj118 : Sum (Bool) (Unit)) => onR yj118 (fun r => some r) fun () => some true))) : Option (Bool)) = some r := h
  refine calls_start Try.func9 rfl rfl ?_
  refine L_seq ?_
  refine L_region ?_
  refine F_val rfl rfl rfl (O_assign rfl rfl) ?_
  refine F_nil ?_
  refine L_seq ?_
  refine L_seq ?_
  refine L_region ?_
  refine F_val rfl rfl rfl (O_move rfl rfl) ?_
  obtain ⟨z3, h2, H⟩ := of_bind H
  refine F_qcall (v := .bool z3) (xs := [.tmp 11]) rfl rfl rfl rfl Try.func23 nm23 rfl rfl ((valiselaw6_sound.calls (HS0.give [] rfl (Lent.rd HS0 (Lent.nil) (i := 0) rfl ((HS0.cells_rd (i := 0) rfl).self))) hc_freq_0 h2).mono (fun e w hc => ?_)) (fun w4 hw5 => ?_)
  · obtain ⟨rfl, h⟩ := hc
    exact ⟨rfl, h.chg0⟩
  have HS6 := HS0.keep hw5
  refine F_val rfl rfl rfl (O_notb rfl rfl) ?_
  refine F_val rfl rfl rfl (O_move rfl rfl) ?_
  refine F_grp 3 [(17, .bool (decide (((!z3) = true) ∨ (limit_1 < 1)))), (0, .slice A_freq_0 l_freq_0.length c_freq_0), (1, .int .i64 limit_1)] ?_ ?_
  · rcases Decidable.em ((!z3) = true) with c10 | c10
    · refine F_know (i := 14) rfl (congrArg Value.bool c10) ?_
      refine F_gskip rfl rfl rfl rfl rfl rfl rfl ?_
      refine F_gskip rfl rfl rfl rfl rfl rfl rfl ?_
      refine F_val rfl rfl rfl (O_pickT rfl rfl rfl) ?_
      refine F_know (i := 17) rfl (dec_or_t (q := limit_1 < 1) c10) ?_
      exact F_grpE (fun a ha => Is.cons ha (Is.cons ha (Is.cons ha (Is.nil ha) rfl) rfl) rfl)
    · refine F_know (i := 14) rfl (congrArg Value.bool (Bool.eq_false_iff.mpr c10)) ?_
      refine F_gval rfl rfl rfl rfl rfl rfl (O_move rfl rfl) ?_
      refine F_gval rfl rfl rfl rfl rfl rfl (O_lt rfl rfl rfl) ?_
      refine F_val rfl rfl rfl (O_pickF rfl rfl rfl) ?_
      refine F_know (i := 17) rfl (dec_or_f (q := limit_1 < 1) c10) ?_
      exact F_grpE (fun a ha => Is.cons ha (Is.cons ha (Is.cons ha (Is.nil ha) rfl) rfl) rfl)
  · skip
    refine F_val rfl rfl rfl (O_move rfl rfl) ?_
    refine F_grp 3 [(21, .bool (decide ((((!z3) = true) ∨ (limit_1 < 1)) ∨ (15 < limit_1)))), (0, .slice A_freq_0 l_freq_0.length c_freq_0), (1, .int .i64 limit_1)] ?_ ?_
    · rcases Decidable.em (((!z3) = true) ∨ (limit_1 < 1)) with c14 | c14
      · refine F_know (i := 18) rfl (dec_t c14) ?_
        refine F_gskip rfl rfl rfl rfl rfl rfl rfl ?_
        refine F_gskip rfl rfl rfl rfl rfl rfl rfl ?_
        refine F_val rfl rfl rfl (O_pickT rfl rfl rfl) ?_
        refine F_know (i := 21) rfl (dec_or_t (q := 15 < limit_1) c14) ?_
        exact F_grpE (fun a ha => Is.cons ha (Is.cons ha (Is.cons ha (Is.nil ha) rfl) rfl) rfl)
      · refine F_know (i := 18) rfl (dec_f c14) ?_
        refine F_gval rfl rfl rfl rfl rfl rfl (O_move rfl rfl) ?_
        refine F_gval rfl rfl rfl rfl rfl rfl (O_gt rfl rfl rfl) ?_
        refine F_val rfl rfl rfl (O_pickF rfl rfl rfl) ?_
        refine F_know (i := 21) rfl (dec_or_f (q := 15 < limit_1) c14) ?_
        exact F_grpE (fun a ha => Is.cons ha (Is.cons ha (Is.cons ha (Is.nil ha) rfl) rfl) rfl)
    · skip
      refine F_val rfl rfl rfl (O_move rfl rfl) ?_
      obtain ⟨b22, Hb22, H⟩ := of_bind H
      refine F_grpQ 7 [(29, .bool b22), (0, .slice A_freq_0 l_freq_0.length c_freq_0), (1, .int .i64 limit_1)] ?_ (fun w23 hw24 => ?_)
      · rcases Decidable.em ((((!z3) = true) ∨ (limit_1 < 1)) ∨ (15 < limit_1)) with c26 | c26
        · refine F_know (i := 22) rfl (dec_t c26) ?_
          have H := of_pos Hb22 c26
          refine F_gskip rfl rfl rfl rfl rfl rfl rfl ?_
          refine F_gskip rfl rfl rfl rfl rfl rfl rfl ?_
          refine F_gskip rfl rfl rfl rfl rfl rfl rfl ?_
          refine F_gskip rfl rfl rfl rfl rfl rfl rfl ?_
          refine F_gskip rfl rfl rfl rfl rfl rfl rfl ?_
          refine F_gskip rfl rfl rfl rfl rfl rfl rfl ?_
          refine F_val rfl rfl rfl (O_pickT rfl rfl rfl) ?_
          refine F_know (i := 29) rfl (congrArg Value.bool (Option.some.inj H)) ?_
          exact F_grpQE (Chg.refl NoB _) (fun a ha => Is.cons ha (Is.cons ha (Is.cons ha (Is.nil ha) rfl) rfl) rfl)
        · refine F_know (i := 22) rfl (dec_f c26) ?_
          have H := of_neg Hb22 c26
          refine F_gval rfl rfl rfl rfl rfl rfl (O_move rfl rfl) ?_
          obtain ⟨z29, h28, H⟩ := of_bind H
          refine F_gqcall (v := .int .i64 z29) (xs := [.tmp 23]) rfl rfl rfl rfl rfl rfl rfl Try.func30 nm30 rfl rfl ((valiselaw6_uses.calls (HS6.give [] rfl (Lent.rd HS6 (Lent.nil) (i := 0) rfl ((HS6.cells_rd (i := 0) rfl).self))) hc_freq_0 h28).mono (fun e w hc => ?_)) (fun w30 hw31 => ?_)
          · obtain ⟨rfl, h⟩ := hc
            exact ⟨rfl, h.chg0⟩
          have HS32 := HS6.keep hw31
          refine F_gval rfl rfl rfl rfl rfl rfl (O_move rfl rfl) ?_
          refine F_gval rfl rfl rfl rfl rfl rfl (O_conv rfl rfl ⟨_, Try.underlying3⟩ Try.underlying43) ?_
          obtain ⟨g33, H⟩ := of_gd H
          refine F_gval rfl rfl rfl rfl rfl rfl (O_shl rfl rfl rfl g33) ?_
          refine F_gval rfl rfl rfl rfl rfl rfl (O_gt rfl rfl rfl) ?_
          refine F_val rfl rfl rfl (O_pickF rfl rfl rfl) ?_
          refine F_know (i := 29) rfl (congrArg Value.bool (Option.some.inj H)) ?_
          exact F_grpQE ((Chg.refl NoB _).trans hw31) (fun a ha => Is.cons ha (Is.cons ha (Is.cons ha (Is.nil ha) rfl) rfl) rfl)
      · have HS25 := HS6.keep hw24
        refine F_nil ?_
        refine L_cond rfl (fun c34 => ?_) (fun c34 => ?_)
        · have H := of_pos H c34
          refine L_seq ?_
          refine L_region ?_
          refine F_val rfl rfl rfl (O_assign rfl rfl) ?_
          refine F_nil ?_
          refine L_ret (fun a ha => (post_ret1 ha rfl rfl ?_))
          obtain rfl := Option.some.inj H
          exact ⟨rfl, HS25.sel [] rfl⟩
        · have H := of_neg H (by rw [c34]; exact Bool.false_ne_true)
          refine L_skip ?_
          refine L_seq ?_
          refine L_region ?_
          refine F_val rfl rfl rfl (O_move rfl rfl) ?_
          obtain ⟨z39, h38, H⟩ := of_bind H
          refine F_call (xs := [.tmp 31]) rfl rfl rfl rfl Try.func24 nm24 rfl rfl ((valiselaw6_copied.calls (HS25.give [] rfl (Lent.rd HS25 (Lent.nil) (i := 0) rfl ((HS25.cells_rd (i := 0) rfl).self))) hc_freq_0 h38).mono (fun e w hc => ?_))
          obtain ⟨A42, c43, rfl, HSo⟩ := hc
          refine ⟨.slice A42 z39.length c43, rfl, ?_⟩
          have HS41 : Hp S0 w0 w [.rd A_freq_0 (rowC (Eint .i64) l_freq_0), .own A42 c43 (rowC (Eint .i64) z39) 3 (Eint .i64).sz] := (HS25.back [] HSo rfl).sel [0, 1] rfl
          obtain ⟨⟨z49, z50⟩, h48, H⟩ := of_bind H
          refine F_call (xs := [.tmp 32]) rfl rfl rfl rfl Try.func20 nm20 rfl rfl ((build_Depths.calls (HS41.give [] rfl (Lent.own HS41 (Lent.nil) (i := 1) rfl rfl ((HS41.cells_own (i := 1) rfl).self))) (HS41.own_capE (i := 1) rfl (by decide)) h48).mono (fun e w hc => ?_))
          obtain ⟨A53, c54, rfl, HSo⟩ := hc
          refine ⟨.tuple #[.slice A53 z49.length c54, .int .i64 z50], rfl, ?_⟩
          have HS52 : Hp S0 w0 w [.rd A_freq_0 (rowC (Eint .i64) l_freq_0), .own A42 c43 (rowC (Eint .i64) z39) 3 (Eint .i64).sz, .own A53 c54 (rowC (Eint .i64) z49) 3 (Eint .i64).sz] := (HS41.back [] HSo rfl).sel [0, 1, 2] rfl
          refine F_val rfl rfl rfl (O_move rfl rfl) ?_
          refine F_val rfl rfl rfl (O_extract (v := .slice A53 z49.length c54) rfl rfl rfl) ?_
          refine F_val rfl rfl rfl (O_extract (v := .int .i64 z50) rfl rfl rfl) ?_
          refine F_val rfl rfl rfl (O_assign rfl rfl) ?_
          refine F_val rfl rfl rfl (O_assign rfl rfl) ?_
          refine F_nil ?_
          refine L_seq ?_
          refine L_region ?_
          refine F_val rfl rfl rfl (O_move rfl rfl) ?_
          obtain ⟨z60, h59, H⟩ := of_bind H
          refine F_call (xs := [.tmp 37]) rfl rfl rfl rfl Try.func24 nm24 rfl rfl ((valiselaw6_copied.calls (HS52.give [] rfl (Lent.rd HS52 (Lent.nil) (i := 0) rfl ((HS52.cells_rd (i := 0) rfl).self))) hc_freq_0 h59).mono (fun e w hc => ?_))
          obtain ⟨A63, c64, rfl, HSo⟩ := hc
          refine ⟨.slice A63 z60.length c64, rfl, ?_⟩
          have HS62 : Hp S0 w0 w [.rd A_freq_0 (rowC (Eint .i64) l_freq_0), .own A42 c43 (rowC (Eint .i64) z39) 3 (Eint .i64).sz, .own A53 c54 (rowC (Eint .i64) z49) 3 (Eint .i64).sz, .own A63 c64 (rowC (Eint .i64) z60) 3 (Eint .i64).sz] := (HS52.back [] HSo rfl).sel [0, 1, 2, 3] rfl
          refine F_val rfl rfl rfl (O_move rfl rfl) ?_
          obtain ⟨⟨z70, z71⟩, h69, H⟩ := of_bind H
          refine F_call (xs := [.tmp 38, .tmp 39]) rfl rfl rfl rfl Try.func28 nm28 rfl rfl ((build_Limited.calls (HS62.give [] rfl (Lent.own HS62 (Lent.nil) (i := 3) rfl rfl ((HS62.cells_own (i := 3) rfl).self))) (HS62.own_capE (i := 3) rfl (by decide)) h69).mono (fun e w hc => ?_))
          obtain ⟨A74, c75, rfl, HSo⟩ := hc
          refine ⟨.tuple #[.slice A74 z70.length c75, .int .i64 z71], rfl, ?_⟩
          have HS73 : Hp S0 w0 w [.rd A_freq_0 (rowC (Eint .i64) l_freq_0), .own A42 c43 (rowC (Eint .i64) z39) 3 (Eint .i64).sz, .own A53 c54 (rowC (Eint .i64) z49) 3 (Eint .i64).sz, .own A63 c64 (rowC (Eint .i64) z60) 3 (Eint .i64).sz, .own A74 c75 (rowC (Eint .i64) z70) 3 (Eint .i64).sz] := (HS62.back [] HSo rfl).sel [0, 1, 2, 3, 4] rfl
          refine F_val rfl rfl rfl (O_move rfl rfl) ?_
          refine F_val rfl rfl rfl (O_extract (v := .slice A74 z70.length c75) rfl rfl rfl) ?_
          refine F_val rfl rfl rfl (O_extract (v := .int .i64 z71) rfl rfl rfl) ?_
          refine F_val rfl rfl rfl (O_assign rfl rfl) ?_
          refine F_val rfl rfl rfl (O_assign rfl rfl) ?_
          refine F_nil ?_
          refine L_seq ?_
          refine L_seq ?_
          have HS77 : Hp S0 w0 w [.rd A_freq_0 (rowC (Eint .i64) l_freq_0), .own A53 c54 (rowC (Eint .i64) z49) 3 (Eint .i64).sz, .own A74 c75 (rowC (Eint .i64) z70) 3 (Eint .i64).sz] := HS73.sel [0, 2, 4] rfl
          refine L_region ?_
          refine F_val rfl rfl rfl (O_move rfl rfl) ?_
          refine F_val rfl rfl rfl (O_ne rfl rfl rfl) ?_
          refine F_val rfl rfl rfl (O_move rfl rfl) ?_
          refine F_grp 3 [(48, .bool (decide ((z50 ≠ 0) ∨ (z71 ≠ 0)))), (0, .slice A_freq_0 l_freq_0.length c_freq_0), (1, .int .i64 limit_1), (5, .slice A53 z49.length c54), (7, .slice A74 z70.length c75)] ?_ ?_
          · rcases Decidable.em (z50 ≠ 0) with c81 | c81
            · refine F_know (i := 45) rfl (dec_t c81) ?_
              refine F_gskip rfl rfl rfl rfl rfl rfl rfl ?_
              refine F_gskip rfl rfl rfl rfl rfl rfl rfl ?_
              refine F_val rfl rfl rfl (O_pickT rfl rfl rfl) ?_
              refine F_know (i := 48) rfl (dec_or_t (q := z71 ≠ 0) c81) ?_
              exact F_grpE (fun a ha => Is.cons ha (Is.cons ha (Is.cons ha (Is.cons ha (Is.cons ha (Is.nil ha) rfl) rfl) rfl) rfl) rfl)
            · refine F_know (i := 45) rfl (dec_f c81) ?_
              refine F_gval rfl rfl rfl rfl rfl rfl (O_move rfl rfl) ?_
              refine F_gval rfl rfl rfl rfl rfl rfl (O_ne rfl rfl rfl) ?_
              refine F_val rfl rfl rfl (O_pickF rfl rfl rfl) ?_
              refine F_know (i := 48) rfl (dec_or_f (q := z71 ≠ 0) c81) ?_
              exact F_grpE (fun a ha => Is.cons ha (Is.cons ha (Is.cons ha (Is.cons ha (Is.cons ha (Is.nil ha) rfl) rfl) rfl) rfl) rfl)
          · skip
            refine F_val rfl rfl rfl (O_move rfl rfl) ?_
            obtain ⟨b88, Hb88, H⟩ := of_bind H
            refine F_grpQ 5 [(54, .bool b88), (0, .slice A_freq_0 l_freq_0.length c_freq_0), (1, .int .i64 limit_1), (5, .slice A53 z49.length c54), (7, .slice A74 z70.length c75)] ?_ (fun w89 hw90 => ?_)
            · rcases Decidable.em ((z50 ≠ 0) ∨ (z71 ≠ 0)) with c92 | c92
              · refine F_know (i := 49) rfl (dec_t c92) ?_
                have H := of_pos Hb88 c92
                refine F_gskip rfl rfl rfl rfl rfl rfl rfl ?_
                refine F_gskip rfl rfl rfl rfl rfl rfl rfl ?_
                refine F_gskip rfl rfl rfl rfl rfl rfl rfl ?_
                refine F_gskip rfl rfl rfl rfl rfl rfl rfl ?_
                refine F_val rfl rfl rfl (O_pickT rfl rfl rfl) ?_
                refine F_know (i := 54) rfl (congrArg Value.bool (Option.some.inj H)) ?_
                exact F_grpQE (Chg.refl NoB _) (fun a ha => Is.cons ha (Is.cons ha (Is.cons ha (Is.cons ha (Is.cons ha (Is.nil ha) rfl) rfl) rfl) rfl) rfl)
              · refine F_know (i := 49) rfl (dec_f c92) ?_
                have H := of_neg Hb88 c92
                refine F_gval rfl rfl rfl rfl rfl rfl (O_move rfl rfl) ?_
                refine F_gval rfl rfl rfl rfl rfl rfl (O_move rfl rfl) ?_
                obtain ⟨z95, h94, H⟩ := of_bind H
                refine F_gqcall (v := .bool z95) (xs := [.tmp 50, .tmp 51, .const (.int .i64 60)]) rfl rfl rfl rfl rfl rfl rfl Try.func25 nm25 rfl rfl ((valiselaw6_good.calls (HS77.give [] rfl (Lent.rd HS77 (Lent.own HS77 (Lent.nil) (i := 1) rfl rfl ((HS77.cells_own (i := 1) rfl).self)) (i := 0) rfl ((HS77.cells_rd (i := 0) rfl).self))) hc_freq_0 (HS77.own_capE (i := 1) rfl (by decide)) h94).mono (fun e w hc => ?_)) (fun w96 hw97 => ?_)
                · obtain ⟨rfl, h⟩ := hc
                  exact ⟨rfl, h.chg0⟩
                have HS98 := HS77.keep hw97
                refine F_gval rfl rfl rfl rfl rfl rfl (O_notb rfl rfl) ?_
                refine F_val rfl rfl rfl (O_pickF rfl rfl rfl) ?_
                refine F_know (i := 54) rfl (congrArg Value.bool (Option.some.inj H)) ?_
                exact F_grpQE ((Chg.refl NoB _).trans hw97) (fun a ha => Is.cons ha (Is.cons ha (Is.cons ha (Is.cons ha (Is.cons ha (Is.nil ha) rfl) rfl) rfl) rfl) rfl)
            · have HS91 := HS77.keep hw90
              refine F_val rfl rfl rfl (O_move rfl rfl) ?_
              obtain ⟨b105, Hb105, H⟩ := of_bind H
              refine F_grpQ 6 [(61, .bool b105), (0, .slice A_freq_0 l_freq_0.length c_freq_0), (5, .slice A53 z49.length c54), (7, .slice A74 z70.length c75)] ?_ (fun w106 hw107 => ?_)
              · rcases Decidable.em (b88 = true) with c109 | c109
                · refine F_know (i := 55) rfl (congrArg Value.bool c109) ?_
                  have H := of_pos Hb105 c109
                  refine F_gskip rfl rfl rfl rfl rfl rfl rfl ?_
                  refine F_gskip rfl rfl rfl rfl rfl rfl rfl ?_
                  refine F_gskip rfl rfl rfl rfl rfl rfl rfl ?_
                  refine F_gskip rfl rfl rfl rfl rfl rfl rfl ?_
                  refine F_gskip rfl rfl rfl rfl rfl rfl rfl ?_
                  refine F_val rfl rfl rfl (O_pickT rfl rfl rfl) ?_
                  refine F_know (i := 61) rfl (congrArg Value.bool (Option.some.inj H)) ?_
                  exact F_grpQE (Chg.refl NoB _) (fun a ha => Is.cons ha (Is.cons ha (Is.cons ha (Is.cons ha (Is.nil ha) rfl) rfl) rfl) rfl)
                · refine F_know (i := 55) rfl (congrArg Value.bool (Bool.eq_false_iff.mpr c109)) ?_
                  have H := of_neg Hb105 c109
                  refine F_gval rfl rfl rfl rfl rfl rfl (O_move rfl rfl) ?_
                  refine F_gval rfl rfl rfl rfl rfl rfl (O_move rfl rfl) ?_
                  refine F_gval rfl rfl rfl rfl rfl rfl (O_move rfl rfl) ?_
                  obtain ⟨z112, h111, H⟩ := of_bind H
                  refine F_gqcall (v := .bool z112) (xs := [.tmp 56, .tmp 57, .tmp 58]) rfl rfl rfl rfl rfl rfl rfl Try.func25 nm25 rfl rfl ((valiselaw6_good.calls (HS91.give [] rfl (Lent.rd HS91 (Lent.own HS91 (Lent.nil) (i := 2) rfl rfl ((HS91.cells_own (i := 2) rfl).self)) (i := 0) rfl ((HS91.cells_rd (i := 0) rfl).self))) hc_freq_0 (HS91.own_capE (i := 2) rfl (by decide)) h111).mono (fun e w hc => ?_)) (fun w113 hw114 => ?_)
                  · obtain ⟨rfl, h⟩ := hc
                    exact ⟨rfl, h.chg0⟩
                  have HS115 := HS91.keep hw114
                  refine F_gval rfl rfl rfl rfl rfl rfl (O_notb rfl rfl) ?_
                  refine F_val rfl rfl rfl (O_pickF rfl rfl rfl) ?_
                  refine F_know (i := 61) rfl (congrArg Value.bool (Option.some.inj H)) ?_
                  exact F_grpQE ((Chg.refl NoB _).trans hw114) (fun a ha => Is.cons ha (Is.cons ha (Is.cons ha (Is.cons ha (Is.nil ha) rfl) rfl) rfl) rfl)
              · have HS108 := HS91.keep hw107
                refine F_nil ?_
                refine L_cond rfl (fun c116 => ?_) (fun c116 => ?_)
                · have H := of_pos H c116
                  refine L_seq ?_
                  have HS117 : Hp S0 w0 w106 [.rd A_freq_0 (rowC (Eint .i64) l_freq_0)] := HS108.sel [0] rfl
                  refine L_region ?_
                  refine F_val rfl rfl rfl (O_assign rfl rfl) ?_
                  refine F_nil ?_
                  refine L_ret (fun a ha => (post_ret1 ha rfl rfl ?_))
                  obtain rfl := Option.some.inj H
                  exact ⟨rfl, HS117.sel [] rfl⟩
                · have H := of_neg H (by rw [c116]; exact Bool.false_ne_true)
                  refine L_skip ?_
                  refine L_seq ?_
                  refine L_seq ?_
                  refine L_region ?_
                  refine F_val rfl rfl rfl (O_assign rfl rfl) ?_
                  refine F_nil ?_
                  obtain ⟨yj118, Hyj118, H⟩ := of_bind H
                  refine L_join (fun a w => yj118 = Sum.inr () ∧ Is Try.f9.ntmps a [] ∧ Hp S0 w0 w [.rd A_freq_0 (rowC (Eint .i64) l_freq_0)]) (fun Qj118 hNj118 hOj118 => ?_) (fun a w hR => ?_)
                  · have HOj118 := H
                    have H := Hyj118
                    refine L_blk (fun Qb1656 hNb1656 hXb1656 hOb1656 => ?_)
                    refine L_lp (fun k a w => ∃ (s_2667 : Int), Is Try.f9.ntmps a [(0, .slice A_freq_0 l_freq_0.length c_freq_0), (5, .slice A53 z49.length c54), (7, .slice A74 z70.length c75), (9, .int .i64 s_2667)] ∧ Hp S0 w0 w [.rd A_freq_0 (rowC (Eint .i64) l_freq_0), .own A53 c54 (rowC (Eint .i64) z49) 3 (Eint .i64).sz, .own A74 c75 (rowC (Eint .i64) z70) 3 (Eint .i64).sz] ∧ valiselaw6_BuildOrder.l11 k s_2667 l_freq_0 z49 z70 = some yj118) FU (fun a ha => ⟨_, Is.cons ha (Is.cons ha (Is.cons ha (Is.cons ha (Is.nil ha) rfl) rfl) rfl) rfl, HS108.sel [0, 1, 2] rfl, H⟩) (fun kp2666 a w2668 hI Qp2666 hNp2666 hOp2666 => ?_)
                    obtain ⟨s_2667, ha, HS2669, HAp2666⟩ := hI
                    cases kp2666 with
                    | zero => cases (show (none : Option _) = some _ from HAp2666)
                    | succ kp2666 =>
                      have H := (valiselaw6_BuildOrder.l11.eq_2 ..).symm.trans HAp2666
                      refine wpLF_app ?_ ha
                      refine L_seq ?_
                      refine L_seq ?_
                      refine L_region ?_
                      refine F_val rfl rfl rfl (O_move rfl rfl) ?_
                      refine F_val rfl rfl rfl (O_move rfl rfl) ?_
                      refine F_val rfl rfl rfl (O_len rfl rfl Try.underlying22) ?_
                      refine F_val rfl rfl rfl (O_lt rfl rfl rfl) ?_
                      refine F_nil ?_
                      refine L_condP rfl (fun c2670 => ?_) (fun c2670 => ?_)
                      · have H := of_pos H c2670
                        refine L_skip ?_
                        refine L_seq ?_
                        refine L_blk (fun Q2671 hN2671 hX2671 hO2671 => ?_)
                        refine L_seq ?_
                        refine L_region ?_
                        refine F_val rfl rfl rfl (O_assign rfl rfl) ?_
                        refine F_nil ?_
                        obtain ⟨yj2672, Hyj2672, H⟩ := of_bind H
                        refine L_join (fun a w => yj2672 = Sum.inr () ∧ Is Try.f9.ntmps a [(0, .slice A_freq_0 l_freq_0.length c_freq_0), (5, .slice A53 z49.length c54), (7, .slice A74 z70.length c75), (9, .int .i64 s_2667)] ∧ Hp S0 w0 w [.rd A_freq_0 (rowC (Eint .i64) l_freq_0), .own A53 c54 (rowC (Eint .i64) z49) 3 (Eint .i64).sz, .own A74 c75 (rowC (Eint .i64) z70) 3 (Eint .i64).sz]) (fun Qj2672 hNj2672 hOj2672 => ?_) (fun a w hR => ?_)
                        · have HOj2672 := H
                          have H := Hyj2672
                          refine L_blk (fun Qb2931 hNb2931 hXb2931 hOb2931 => ?_)
                          refine L_lp (fun k a w => ∃ (t_3102 : Int), Is Try.f9.ntmps a [(0, .slice A_freq_0 l_freq_0.length c_freq_0), (5, .slice A53 z49.length c54), (7, .slice A74 z70.length c75), (9, .int .i64 s_2667), (10, .int .i64 t_3102)] ∧ Hp S0 w0 w [.rd A_freq_0 (rowC (Eint .i64) l_freq_0), .own A53 c54 (rowC (Eint .i64) z49) 3 (Eint .i64).sz, .own A74 c75 (rowC (Eint .i64) z70) 3 (Eint .i64).sz] ∧ valiselaw6_BuildOrder.l13 k t_3102 l_freq_0 z49 z70 s_2667 = some yj2672) FU (fun a ha => ⟨_, Is.cons ha (Is.cons ha (Is.cons ha (Is.cons ha (Is.cons ha (Is.nil ha) rfl) rfl) rfl) rfl) rfl, HS2669.sel [0, 1, 2] rfl, H⟩) (fun kp3101 a w3103 hI Qp3101 hNp3101 hOp3101 => ?_)
                          obtain ⟨t_3102, ha, HS3104, HAp3101⟩ := hI
                          cases kp3101 with
                          | zero => cases (show (none : Option _) = some _ from HAp3101)
                          | succ kp3101 =>
                            have H := (valiselaw6_BuildOrder.l13.eq_2 ..).symm.trans HAp3101
                            refine wpLF_app ?_ ha
                            refine L_seq ?_
                            refine L_seq ?_
                            refine L_region ?_
                            refine F_val rfl rfl rfl (O_move rfl rfl) ?_
                            refine F_val rfl rfl rfl (O_move rfl rfl) ?_
                            refine F_val rfl rfl rfl (O_len rfl rfl Try.underlying22) ?_
                            refine F_val rfl rfl rfl (O_lt rfl rfl rfl) ?_
                            refine F_nil ?_
                            refine L_condP rfl (fun c3105 => ?_) (fun c3105 => ?_)
                            · have H := of_pos H c3105
                              refine L_skip ?_
                              refine L_seq ?_
                              refine L_blk (fun Q3106 hN3106 hX3106 hO3106 => ?_)
                              refine L_seq ?_
                              refine L_seq ?_
                              refine L_region ?_
                              refine F_val rfl rfl rfl (O_move rfl rfl) ?_
                              refine F_val rfl rfl rfl (O_move rfl rfl) ?_
                              obtain ⟨⟨g3107, g3108⟩, H⟩ := of_gd H
                              refine F_val rfl rfl rfl (O_idx rfl rfl rfl Try.underlying22 size3 g3107 g3108 (Cells.isA (HS3104.cells_rd (i := 0) rfl) (rowC_ne (E := (Eint .i64)) g3107 g3108 (by decide)))) ?_
                              refine F_val rfl rfl rfl (O_loadC rfl rfl flat3 (HS3104.cells_rd (i := 0) rfl) (int_cell g3107 g3108)) ?_
                              refine F_val rfl rfl rfl (O_eq rfl rfl rfl) ?_
                              refine F_val rfl rfl rfl (O_move rfl rfl) ?_
                              obtain ⟨b3111, Hb3111, H⟩ := of_bind H
                              refine F_grp 6 [(85, .bool b3111), (0, .slice A_freq_0 l_freq_0.length c_freq_0), (5, .slice A53 z49.length c54), (7, .slice A74 z70.length c75), (9, .int .i64 s_2667), (10, .int .i64 t_3102)] ?_ ?_
                              · rcases Decidable.em (rd l_freq_0 s_2667 = 0) with c3115 | c3115
                                · refine F_know (i := 79) rfl (dec_t c3115) ?_
                                  have H := of_pos Hb3111 c3115
                                  refine F_gskip rfl rfl rfl rfl rfl rfl rfl ?_
                                  refine F_gskip rfl rfl rfl rfl rfl rfl rfl ?_
                                  refine F_gskip rfl rfl rfl rfl rfl rfl rfl ?_
                                  refine F_gskip rfl rfl rfl rfl rfl rfl rfl ?_
                                  refine F_gskip rfl rfl rfl rfl rfl rfl rfl ?_
                                  refine F_val rfl rfl rfl (O_pickT rfl rfl rfl) ?_
                                  refine F_know (i := 85) rfl (congrArg Value.bool (Option.some.inj H)) ?_
                                  exact F_grpE (fun a ha => Is.cons ha (Is.cons ha (Is.cons ha (Is.cons ha (Is.cons ha (Is.cons ha (Is.nil ha) rfl) rfl) rfl) rfl) rfl) rfl)
                                · refine F_know (i := 79) rfl (dec_f c3115) ?_
                                  have H := of_neg Hb3111 c3115
                                  refine F_gval rfl rfl rfl rfl rfl rfl (O_move rfl rfl) ?_
                                  refine F_gval rfl rfl rfl rfl rfl rfl (O_move rfl rfl) ?_
                                  obtain ⟨⟨g3116, g3117⟩, H⟩ := of_gd H
                                  refine F_gval rfl rfl rfl rfl rfl rfl (O_idx rfl rfl rfl Try.underlying22 size3 g3116 g3117 (Cells.isA (HS3104.cells_rd (i := 0) rfl) (rowC_ne (E := (Eint .i64)) g3116 g3117 (by decide)))) ?_
                                  refine F_gval rfl rfl rfl rfl rfl rfl (O_loadC rfl rfl flat3 (HS3104.cells_rd (i := 0) rfl) (int_cell g3116 g3117)) ?_
                                  refine F_gval rfl rfl rfl rfl rfl rfl (O_eq rfl rfl rfl) ?_
                                  refine F_val rfl rfl rfl (O_pickF rfl rfl rfl) ?_
                                  refine F_know (i := 85) rfl (congrArg Value.bool (Option.some.inj H)) ?_
                                  exact F_grpE (fun a ha => Is.cons ha (Is.cons ha (Is.cons ha (Is.cons ha (Is.cons ha (Is.cons ha (Is.nil ha) rfl) rfl) rfl) rfl) rfl) rfl)
                              · skip
                                refine F_nil ?_
                                refine L_cond rfl (fun c3118 => ?_) (fun c3118 => ?_)
                                · have H := of_pos H c3118
                                  refine L_exitB hX3106 ?_
                                  refine L_region ?_
                                  refine F_val rfl rfl rfl (O_move rfl rfl) ?_
                                  refine F_val rfl rfl rfl (O_add rfl rfl rfl) ?_
                                  obtain ⟨x3119, h3120, H⟩ := of_bnd H
                                  refine F_val rfl rfl rfl (O_assign' rfl rfl (congrArg (Value.int .i64) h3120)) ?_
                                  refine F_nil ?_
                                  refine L_nil (fun a ha => hNp3101 _ a _ (Nat.lt_succ_self _) ⟨_, Is.cons ha (Is.cons ha (Is.cons ha (Is.cons ha (Is.cons ha (Is.nil ha) rfl) rfl) rfl) rfl) rfl, HS3104.sel [0, 1, 2] rfl, H⟩)
                                · have H := of_neg H (by rw [c3118]; exact Bool.false_ne_true)
                                  refine L_skip ?_
                                  refine L_seq ?_
                                  refine L_seq ?_
                                  refine L_quiet mix (by kernel_rfl) ?_
                                  refine Q_val rfl rfl rfl (fun wq hq => O_move rfl rfl) ?_
                                  refine Q_val rfl rfl rfl (fun wq hq => O_move rfl rfl) ?_
                                  refine Q_val rfl rfl rfl (fun wq hq => O_idx rfl rfl rfl Try.underlying22 size3 g3107 g3108 (Cells.isA ((HS3104.keep hq).cells_rd (i := 0) rfl) (rowC_ne (E := (Eint .i64)) g3107 g3108 (by decide)))) ?_
                                  refine Q_val rfl rfl rfl (fun wq hq => O_loadC rfl rfl flat3 ((HS3104.keep hq).cells_rd (i := 0) rfl) (int_cell g3107 g3108)) ?_
                                  refine Q_val rfl rfl rfl (fun wq hq => O_move rfl rfl) ?_
                                  refine Q_val rfl rfl rfl (fun wq hq => O_move rfl rfl) ?_
                                  obtain ⟨⟨g3121, g3122⟩, H⟩ := of_gd H
                                  refine Q_val rfl rfl rfl (fun wq hq => O_idx rfl rfl rfl Try.underlying22 size3 g3121 g3122 (Cells.isA ((HS3104.keep hq).cells_rd (i := 0) rfl) (rowC_ne (E := (Eint .i64)) g3121 g3122 (by decide)))) ?_
                                  refine Q_val rfl rfl rfl (fun wq hq => O_loadC rfl rfl flat3 ((HS3104.keep hq).cells_rd (i := 0) rfl) (int_cell g3121 g3122)) ?_
                                  refine Q_val rfl rfl rfl (fun wq hq => O_gt rfl rfl rfl) ?_
                                  refine Q_val rfl rfl rfl (fun wq hq => O_move rfl rfl) ?_
                                  obtain ⟨b3140, Hb3140, H⟩ := of_bind H
                                  refine Q_grp 21 [(116, .bool b3140), (0, .slice A_freq_0 l_freq_0.length c_freq_0), (5, .slice A53 z49.length c54), (7, .slice A74 z70.length c75), (9, .int .i64 s_2667), (10, .int .i64 t_3102)] ?_ ?_
                                  · rcases Decidable.em (rd l_freq_0 t_3102 < rd l_freq_0 s_2667) with c3144 | c3144
                                    · refine Q_know (i := 95) rfl (dec_t c3144) ?_
                                      have H := of_pos Hb3140 c3144
                                      refine Q_gval rfl rfl rfl rfl rfl rfl (fun wq hq => O_move rfl rfl) ?_
                                      refine Q_gval rfl rfl rfl rfl rfl rfl (fun wq hq => O_move rfl rfl) ?_
                                      obtain ⟨⟨g3145, g3146⟩, H⟩ := of_gd H
                                      refine Q_gval rfl rfl rfl rfl rfl rfl (fun wq hq => O_idx rfl rfl rfl Try.underlying22 size3 g3145 g3146 (Cells.isA ((HS3104.keep hq).cells_own (i := 1) rfl) (rowC_ne (E := (Eint .i64)) g3145 g3146 (by decide)))) ?_
                                      refine Q_gval rfl rfl rfl rfl rfl rfl (fun wq hq => O_loadC rfl rfl flat3 ((HS3104.keep hq).cells_own (i := 1) rfl) (int_cell g3145 g3146)) ?_
                                      refine Q_gval rfl rfl rfl rfl rfl rfl (fun wq hq => O_move rfl rfl) ?_
                                      refine Q_gval rfl rfl rfl rfl rfl rfl (fun wq hq => O_move rfl rfl) ?_
                                      obtain ⟨⟨g3147, g3148⟩, H⟩ := of_gd H
                                      refine Q_gval rfl rfl rfl rfl rfl rfl (fun wq hq => O_idx rfl rfl rfl Try.underlying22 size3 g3147 g3148 (Cells.isA ((HS3104.keep hq).cells_own (i := 1) rfl) (rowC_ne (E := (Eint .i64)) g3147 g3148 (by decide)))) ?_
                                      refine Q_gval rfl rfl rfl rfl rfl rfl (fun wq hq => O_loadC rfl rfl flat3 ((HS3104.keep hq).cells_own (i := 1) rfl) (int_cell g3147 g3148)) ?_
                                      refine Q_gval rfl rfl rfl rfl rfl rfl (fun wq hq => O_gt rfl rfl rfl) ?_
                                      refine Q_gval rfl rfl rfl rfl rfl rfl (fun wq hq => O_move rfl rfl) ?_
                                      obtain ⟨b3153, Hb3153, H⟩ := of_bind H
                                      refine Q_grp 10 [(115, .bool b3153), (0, .slice A_freq_0 l_freq_0.length c_freq_0), (5, .slice A53 z49.length c54), (7, .slice A74 z70.length c75), (9, .int .i64 s_2667), (10, .int .i64 t_3102), (95, .bool true), (96, .slice A53 z49.length c54), (97, .int .i64 s_2667), (99, .int .i64 (rd z49 s_2667)), (100, .slice A53 z49.length c54), (101, .int .i64 t_3102), (103, .int .i64 (rd z49 t_3102)), (104, .bool (decide (rd z49 t_3102 < rd z49 s_2667))), (105, .bool (decide (rd z49 t_3102 < rd z49 s_2667)))] ?_ ?_
                                      · rcases Decidable.em (rd z49 t_3102 < rd z49 s_2667) with c3157 | c3157
                                        · refine Q_know (i := 105) rfl (dec_t c3157) ?_
                                          have H := of_pos Hb3153 c3157
                                          refine Q_gskip rfl rfl rfl rfl rfl rfl rfl ?_
                                          refine Q_gskip rfl rfl rfl rfl rfl rfl rfl ?_
                                          refine Q_gskip rfl rfl rfl rfl rfl rfl rfl ?_
                                          refine Q_gskip rfl rfl rfl rfl rfl rfl rfl ?_
                                          refine Q_gskip rfl rfl rfl rfl rfl rfl rfl ?_
                                          refine Q_gskip rfl rfl rfl rfl rfl rfl rfl ?_
                                          refine Q_gskip rfl rfl rfl rfl rfl rfl rfl ?_
                                          refine Q_gskip rfl rfl rfl rfl rfl rfl rfl ?_
                                          refine Q_gskip rfl rfl rfl rfl rfl rfl rfl ?_
                                          refine Q_gval rfl rfl rfl rfl rfl rfl (fun wq hq => O_pickT rfl rfl rfl) ?_
                                          refine Q_know (i := 115) rfl (congrArg Value.bool (Option.some.inj H)) ?_
                                          exact Q_grpE (fun a ha => Is.cons ha (Is.cons ha (Is.cons ha (Is.cons ha (Is.cons ha (Is.cons ha (Is.cons ha (Is.cons ha (Is.cons ha (Is.cons ha (Is.cons ha (Is.cons ha (Is.cons ha (Is.cons ha (Is.cons (i := 105) (v := .bool (decide (rd z49 t_3102 < rd z49 s_2667))) ha (Is.nil ha) (congrArg some (dec_t c3157).symm)) rfl) rfl) rfl) rfl) rfl) rfl) rfl) rfl) rfl) rfl) rfl) rfl) rfl) rfl)
                                        · refine Q_know (i := 105) rfl (dec_f c3157) ?_
                                          have H := of_neg Hb3153 c3157
                                          refine Q_gval rfl rfl rfl rfl rfl rfl (fun wq hq => O_move rfl rfl) ?_
                                          refine Q_gval rfl rfl rfl rfl rfl rfl (fun wq hq => O_move rfl rfl) ?_
                                          obtain ⟨⟨g3158, g3159⟩, H⟩ := of_gd H
                                          refine Q_gval rfl rfl rfl rfl rfl rfl (fun wq hq => O_idx rfl rfl rfl Try.underlying22 size3 g3158 g3159 (Cells.isA ((HS3104.keep hq).cells_own (i := 2) rfl) (rowC_ne (E := (Eint .i64)) g3158 g3159 (by decide)))) ?_
                                          refine Q_gval rfl rfl rfl rfl rfl rfl (fun wq hq => O_loadC rfl rfl flat3 ((HS3104.keep hq).cells_own (i := 2) rfl) (int_cell g3158 g3159)) ?_
                                          refine Q_gval rfl rfl rfl rfl rfl rfl (fun wq hq => O_move rfl rfl) ?_
                                          refine Q_gval rfl rfl rfl rfl rfl rfl (fun wq hq => O_move rfl rfl) ?_
                                          obtain ⟨⟨g3160, g3161⟩, H⟩ := of_gd H
                                          refine Q_gval rfl rfl rfl rfl rfl rfl (fun wq hq => O_idx rfl rfl rfl Try.underlying22 size3 g3160 g3161 (Cells.isA ((HS3104.keep hq).cells_own (i := 2) rfl) (rowC_ne (E := (Eint .i64)) g3160 g3161 (by decide)))) ?_
                                          refine Q_gval rfl rfl rfl rfl rfl rfl (fun wq hq => O_loadC rfl rfl flat3 ((HS3104.keep hq).cells_own (i := 2) rfl) (int_cell g3160 g3161)) ?_
                                          refine Q_gval rfl rfl rfl rfl rfl rfl (fun wq hq => O_gt rfl rfl rfl) ?_
                                          refine Q_gval rfl rfl rfl rfl rfl rfl (fun wq hq => O_pickF rfl rfl rfl) ?_
                                          refine Q_know (i := 115) rfl (congrArg Value.bool (Option.some.inj H)) ?_
                                          exact Q_grpE (fun a ha => Is.cons ha (Is.cons ha (Is.cons ha (Is.cons ha (Is.cons ha (Is.cons ha (Is.cons ha (Is.cons ha (Is.cons ha (Is.cons ha (Is.cons ha (Is.cons ha (Is.cons ha (Is.cons ha (Is.cons (i := 105) (v := .bool (decide (rd z49 t_3102 < rd z49 s_2667))) ha (Is.nil ha) (congrArg some (dec_f c3157).symm)) rfl) rfl) rfl) rfl) rfl) rfl) rfl) rfl) rfl) rfl) rfl) rfl) rfl) rfl)
                                      · skip
                                        refine Q_val rfl rfl rfl (fun wq hq => O_pickT rfl rfl rfl) ?_
                                        refine Q_know (i := 116) rfl (congrArg Value.bool (Option.some.inj H)) ?_
                                        exact Q_grpE (fun a ha => Is.cons ha (Is.cons ha (Is.cons ha (Is.cons ha (Is.cons ha (Is.cons ha (Is.nil ha) rfl) rfl) rfl) rfl) rfl) rfl)
                                    · refine Q_know (i := 95) rfl (dec_f c3144) ?_
                                      have H := of_neg Hb3140 c3144
                                      refine Q_gskip rfl rfl rfl rfl rfl rfl rfl ?_
                                      refine Q_gskip rfl rfl rfl rfl rfl rfl rfl ?_
                                      refine Q_gskip rfl rfl rfl rfl rfl rfl rfl ?_
                                      refine Q_gskip rfl rfl rfl rfl rfl rfl rfl ?_
                                      refine Q_gskip rfl rfl rfl rfl rfl rfl rfl ?_
                                      refine Q_gskip rfl rfl rfl rfl rfl rfl rfl ?_
                                      refine Q_gskip rfl rfl rfl rfl rfl rfl rfl ?_
                                      refine Q_gskip rfl rfl rfl rfl rfl rfl rfl ?_
                                      refine Q_gskip rfl rfl rfl rfl rfl rfl rfl ?_
                                      refine Q_gskip rfl rfl rfl rfl rfl rfl rfl ?_
                                      refine Q_gskip rfl rfl rfl rfl rfl rfl rfl ?_
                                      refine Q_gskip rfl rfl rfl rfl rfl rfl rfl ?_
                                      refine Q_gskip rfl rfl rfl rfl rfl rfl rfl ?_
                                      refine Q_gskip rfl rfl rfl rfl rfl rfl rfl ?_
                                      refine Q_gskip rfl rfl rfl rfl rfl rfl rfl ?_
                                      refine Q_gskip rfl rfl rfl rfl rfl rfl rfl ?_
                                      refine Q_gskip rfl rfl rfl rfl rfl rfl rfl ?_
                                      refine Q_gskip rfl rfl rfl rfl rfl rfl rfl ?_
                                      refine Q_gskip rfl rfl rfl rfl rfl rfl rfl ?_
                                      refine Q_gskip rfl rfl rfl rfl rfl rfl rfl ?_
                                      refine Q_val rfl rfl rfl (fun wq hq => O_pickF rfl rfl rfl) ?_
                                      refine Q_know (i := 116) rfl (congrArg Value.bool (Option.some.inj H)) ?_
                                      exact Q_grpE (fun a ha => Is.cons ha (Is.cons ha (Is.cons ha (Is.cons ha (Is.cons ha (Is.cons ha (Is.nil ha) rfl) rfl) rfl) rfl) rfl) rfl)
                                  · skip
                                    refine Q_nil (fun w3162 hw3163 => ?_)
                                    have HS3164 := HS3104.keep hw3163
                                    refine L_cond rfl (fun c3165 => ?_) (fun c3165 => ?_)
                                    · have H := of_pos H c3165
                                      refine L_seq ?_
                                      refine L_region ?_
                                      refine F_val rfl rfl rfl (O_assign rfl rfl) ?_
                                      refine F_nil ?_
                                      refine L_ret (fun a ha => (hO3106 .ret a _ rfl (hOp3101 .ret a _ rfl (hOb2931 .ret a _ rfl (hOj2672 .ret a _ rfl (hO2671 .ret a _ rfl (hOp2666 .ret a _ rfl (hOb1656 .ret a _ rfl (hOj118 .ret a _ rfl (post_ret1 ha rfl rfl ?_))))))))))
                                      obtain rfl := Option.some.inj H
                                      obtain rfl := Option.some.inj (show (some (Sum.inl false) : Option (Sum (Bool) _)) = some _ from HOj2672)
                                      obtain rfl := Option.some.inj (show (some false : Option (Bool)) = some _ from HOj118)
                                      exact ⟨rfl, HS3164.sel [] rfl⟩
                                    · have H := of_neg H (by rw [c3165]; exact Bool.false_ne_true)
                                      refine L_skip ?_
                                      refine L_seq ?_
                                      refine L_quiet mix (by kernel_rfl) ?_
                                      refine Q_val rfl rfl rfl (fun wq hq => O_move rfl rfl) ?_
                                      refine Q_val rfl rfl rfl (fun wq hq => O_move rfl rfl) ?_
                                      refine Q_val rfl rfl rfl (fun wq hq => O_idx rfl rfl rfl Try.underlying22 size3 g3107 g3108 (Cells.isA ((HS3164.keep hq).cells_rd (i := 0) rfl) (rowC_ne (E := (Eint .i64)) g3107 g3108 (by decide)))) ?_
                                      refine Q_val rfl rfl rfl (fun wq hq => O_loadC rfl rfl flat3 ((HS3164.keep hq).cells_rd (i := 0) rfl) (int_cell g3107 g3108)) ?_
                                      refine Q_val rfl rfl rfl (fun wq hq => O_move rfl rfl) ?_
                                      refine Q_val rfl rfl rfl (fun wq hq => O_move rfl rfl) ?_
                                      refine Q_val rfl rfl rfl (fun wq hq => O_idx rfl rfl rfl Try.underlying22 size3 g3121 g3122 (Cells.isA ((HS3164.keep hq).cells_rd (i := 0) rfl) (rowC_ne (E := (Eint .i64)) g3121 g3122 (by decide)))) ?_
                                      refine Q_val rfl rfl rfl (fun wq hq => O_loadC rfl rfl flat3 ((HS3164.keep hq).cells_rd (i := 0) rfl) (int_cell g3121 g3122)) ?_
                                      refine Q_val rfl rfl rfl (fun wq hq => O_eq rfl rfl rfl) ?_
                                      refine Q_val rfl rfl rfl (fun wq hq => O_move rfl rfl) ?_
                                      refine Q_grp 4 [(130, .bool (decide ((rd l_freq_0 s_2667 = rd l_freq_0 t_3102) ∧ (s_2667 < t_3102)))), (0, .slice A_freq_0 l_freq_0.length c_freq_0), (5, .slice A53 z49.length c54), (7, .slice A74 z70.length c75), (9, .int .i64 s_2667), (10, .int .i64 t_3102)] ?_ ?_
                                      · rcases Decidable.em (rd l_freq_0 s_2667 = rd l_freq_0 t_3102) with c3169 | c3169
                                        · refine Q_know (i := 126) rfl (dec_t c3169) ?_
                                          refine Q_gval rfl rfl rfl rfl rfl rfl (fun wq hq => O_move rfl rfl) ?_
                                          refine Q_gval rfl rfl rfl rfl rfl rfl (fun wq hq => O_move rfl rfl) ?_
                                          refine Q_gval rfl rfl rfl rfl rfl rfl (fun wq hq => O_lt rfl rfl rfl) ?_
                                          refine Q_val rfl rfl rfl (fun wq hq => O_pickT rfl rfl rfl) ?_
                                          refine Q_know (i := 130) rfl (dec_and_t (q := s_2667 < t_3102) c3169) ?_
                                          exact Q_grpE (fun a ha => Is.cons ha (Is.cons ha (Is.cons ha (Is.cons ha (Is.cons ha (Is.cons ha (Is.nil ha) rfl) rfl) rfl) rfl) rfl) rfl)
                                        · refine Q_know (i := 126) rfl (dec_f c3169) ?_
                                          refine Q_gskip rfl rfl rfl rfl rfl rfl rfl ?_
                                          refine Q_gskip rfl rfl rfl rfl rfl rfl rfl ?_
                                          refine Q_gskip rfl rfl rfl rfl rfl rfl rfl ?_
                                          refine Q_val rfl rfl rfl (fun wq hq => O_pickF rfl rfl rfl) ?_
                                          refine Q_know (i := 130) rfl (dec_and_f (q := s_2667 < t_3102) c3169) ?_
                                          exact Q_grpE (fun a ha => Is.cons ha (Is.cons ha (Is.cons ha (Is.cons ha (Is.cons ha (Is.cons ha (Is.nil ha) rfl) rfl) rfl) rfl) rfl) rfl)
                                      · skip
                                        refine Q_val rfl rfl rfl (fun wq hq => O_move rfl rfl) ?_
                                        obtain ⟨b3174, Hb3174, H⟩ := of_bind H
                                        refine Q_grp 10 [(141, .bool b3174), (0, .slice A_freq_0 l_freq_0.length c_freq_0), (5, .slice A53 z49.length c54), (7, .slice A74 z70.length c75), (9, .int .i64 s_2667), (10, .int .i64 t_3102)] ?_ ?_
                                        · rcases Decidable.em ((rd l_freq_0 s_2667 = rd l_freq_0 t_3102) ∧ (s_2667 < t_3102)) with c3178 | c3178
                                          · refine Q_know (i := 131) rfl (dec_t c3178) ?_
                                            have H := of_pos Hb3174 c3178
                                            refine Q_gval rfl rfl rfl rfl rfl rfl (fun wq hq => O_move rfl rfl) ?_
                                            refine Q_gval rfl rfl rfl rfl rfl rfl (fun wq hq => O_move rfl rfl) ?_
                                            obtain ⟨⟨g3179, g3180⟩, H⟩ := of_gd H
                                            refine Q_gval rfl rfl rfl rfl rfl rfl (fun wq hq => O_idx rfl rfl rfl Try.underlying22 size3 g3179 g3180 (Cells.isA ((HS3164.keep hq).cells_own (i := 2) rfl) (rowC_ne (E := (Eint .i64)) g3179 g3180 (by decide)))) ?_
                                            refine Q_gval rfl rfl rfl rfl rfl rfl (fun wq hq => O_loadC rfl rfl flat3 ((HS3164.keep hq).cells_own (i := 2) rfl) (int_cell g3179 g3180)) ?_
                                            refine Q_gval rfl rfl rfl rfl rfl rfl (fun wq hq => O_move rfl rfl) ?_
                                            refine Q_gval rfl rfl rfl rfl rfl rfl (fun wq hq => O_move rfl rfl) ?_
                                            obtain ⟨⟨g3181, g3182⟩, H⟩ := of_gd H
                                            refine Q_gval rfl rfl rfl rfl rfl rfl (fun wq hq => O_idx rfl rfl rfl Try.underlying22 size3 g3181 g3182 (Cells.isA ((HS3164.keep hq).cells_own (i := 2) rfl) (rowC_ne (E := (Eint .i64)) g3181 g3182 (by decide)))) ?_
                                            refine Q_gval rfl rfl rfl rfl rfl rfl (fun wq hq => O_loadC rfl rfl flat3 ((HS3164.keep hq).cells_own (i := 2) rfl) (int_cell g3181 g3182)) ?_
                                            refine Q_gval rfl rfl rfl rfl rfl rfl (fun wq hq => O_lt rfl rfl rfl) ?_
                                            refine Q_val rfl rfl rfl (fun wq hq => O_pickT rfl rfl rfl) ?_
                                            refine Q_know (i := 141) rfl (congrArg Value.bool (Option.some.inj H)) ?_
                                            exact Q_grpE (fun a ha => Is.cons ha (Is.cons ha (Is.cons ha (Is.cons ha (Is.cons ha (Is.cons ha (Is.nil ha) rfl) rfl) rfl) rfl) rfl) rfl)
                                          · refine Q_know (i := 131) rfl (dec_f c3178) ?_
                                            have H := of_neg Hb3174 c3178
                                            refine Q_gskip rfl rfl rfl rfl rfl rfl rfl ?_
                                            refine Q_gskip rfl rfl rfl rfl rfl rfl rfl ?_
                                            refine Q_gskip rfl rfl rfl rfl rfl rfl rfl ?_
                                            refine Q_gskip rfl rfl rfl rfl rfl rfl rfl ?_
                                            refine Q_gskip rfl rfl rfl rfl rfl rfl rfl ?_
                                            refine Q_gskip rfl rfl rfl rfl rfl rfl rfl ?_
                                            refine Q_gskip rfl rfl rfl rfl rfl rfl rfl ?_
                                            refine Q_gskip rfl rfl rfl rfl rfl rfl rfl ?_
                                            refine Q_gskip rfl rfl rfl rfl rfl rfl rfl ?_
                                            refine Q_val rfl rfl rfl (fun wq hq => O_pickF rfl rfl rfl) ?_
                                            refine Q_know (i := 141) rfl (congrArg Value.bool (Option.some.inj H)) ?_
                                            exact Q_grpE (fun a ha => Is.cons ha (Is.cons ha (Is.cons ha (Is.cons ha (Is.cons ha (Is.cons ha (Is.nil ha) rfl) rfl) rfl) rfl) rfl) rfl)
                                        · skip
                                          refine Q_nil (fun w3183 hw3184 => ?_)
                                          have HS3185 := HS3164.keep hw3184
                                          refine L_cond rfl (fun c3186 => ?_) (fun c3186 => ?_)
                                          · have H := of_pos H c3186
                                            refine L_seq ?_
                                            refine L_region ?_
                                            refine F_val rfl rfl rfl (O_assign rfl rfl) ?_
                                            refine F_nil ?_
                                            refine L_ret (fun a ha => (hO3106 .ret a _ rfl (hOp3101 .ret a _ rfl (hOb2931 .ret a _ rfl (hOj2672 .ret a _ rfl (hO2671 .ret a _ rfl (hOp2666 .ret a _ rfl (hOb1656 .ret a _ rfl (hOj118 .ret a _ rfl (post_ret1 ha rfl rfl ?_))))))))))
                                            obtain rfl := Option.some.inj H
                                            obtain rfl := Option.some.inj (show (some (Sum.inl false) : Option (Sum (Bool) _)) = some _ from HOj2672)
                                            obtain rfl := Option.some.inj (show (some false : Option (Bool)) = some _ from HOj118)
                                            exact ⟨rfl, HS3185.sel [] rfl⟩
                                          · have H := of_neg H (by rw [c3186]; exact Bool.false_ne_true)
                                            refine L_skip ?_
                                            refine L_endB hN3106 ?_
                                            refine L_region ?_
                                            refine F_val rfl rfl rfl (O_move rfl rfl) ?_
                                            refine F_val rfl rfl rfl (O_add rfl rfl rfl) ?_
                                            obtain ⟨x3187, h3188, H⟩ := of_bnd H
                                            refine F_val rfl rfl rfl (O_assign' rfl rfl (congrArg (Value.int .i64) h3188)) ?_
                                            refine F_nil ?_
                                            refine L_nil (fun a ha => hNp3101 _ a _ (Nat.lt_succ_self _) ⟨_, Is.cons ha (Is.cons ha (Is.cons ha (Is.cons ha (Is.cons ha (Is.nil ha) rfl) rfl) rfl) rfl) rfl, HS3185.sel [0, 1, 2] rfl, H⟩)
                            · have H := of_neg H c3105
                              refine L_exitB (fun a w h => hOp3101 (.exit 2) a w rfl (hXb2931 a w h)) ?_
                              refine L_nil (fun a ha => hNj2672 a _ ⟨(Option.some.inj H).symm, Is.cons ha (Is.cons ha (Is.cons ha (Is.cons ha (Is.nil ha) rfl) rfl) rfl) rfl, HS3104.sel [0, 1, 2] rfl⟩)
                        · obtain ⟨rfl, ha, HS3190⟩ := hR
                          refine wpLF_app ?_ ha
                          have H := (onR_inr _ _ _).symm.trans H
                          refine L_endB hN2671 ?_
                          refine L_region ?_
                          refine F_val rfl rfl rfl (O_move rfl rfl) ?_
                          refine F_val rfl rfl rfl (O_add rfl rfl rfl) ?_
                          obtain ⟨x3191, h3192, H⟩ := of_bnd H
                          refine F_val rfl rfl rfl (O_assign' rfl rfl (congrArg (Value.int .i64) h3192)) ?_
                          refine F_nil ?_
                          refine L_nil (fun a ha => hNp2666 _ a _ (Nat.lt_succ_self _) ⟨_, Is.cons ha (Is.cons ha (Is.cons ha (Is.cons ha (Is.nil ha) rfl) rfl) rfl) rfl, HS3190.sel [0, 1, 2] rfl, H⟩)
                      · have H := of_neg H c2670
                        refine L_exitB (fun a w h => hOp2666 (.exit 0) a w rfl (hXb1656 a w h)) ?_
                        refine L_nil (fun a ha => hNj118 a _ ⟨(Option.some.inj H).symm, Is.nil ha, HS2669.sel [0] rfl⟩)
                  · obtain ⟨rfl, ha, HS3194⟩ := hR
                    refine wpLF_app ?_ ha
                    have H := (onR_inr _ _ _).symm.trans H
                    refine L_seq ?_
                    refine L_region ?_
                    refine F_val rfl rfl rfl (O_assign rfl rfl) ?_
                    refine F_nil ?_
                    refine L_ret (fun a ha => (post_ret1 ha rfl rfl ?_))
                    obtain rfl := Option.some.inj H
                    exact ⟨rfl, HS3194.sel [] rfl⟩

end Go.Proofs.Ytbegkkmngkpjmaa
