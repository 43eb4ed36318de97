import Derived.Test.YtbegkkmngkpjmaaGBuildSpreadWalk2
set_option linter.unusedVariables false
set_option linter.unusedSimpArgs false
set_option maxRecDepth 10000
set_option maxHeartbeats 1000000
namespace Go.Proofs.Ytbegkkmngkpjmaa
open Go Go.V Go.V.Pu
/-! function 11: valise/valiselaw6.BuildSpread -/
theorem valiselaw6_BuildSpread.calls {S0 : Nat → Prop} {w0 : World} {A_freq_0 : Option Addr} {c_freq_0 : Nat} {A_spread_2 : Option Addr} {c_spread_2 : Nat} {l_freq_0 : List Int} {limit_1 : Int} {l_spread_2 : List Int} {r : Bool} (HS0 : Hp S0 w0 w0 [.rd A_freq_0 (rowC (Eint .i64) l_freq_0), .rd A_spread_2 (rowC (Eint .i64) l_spread_2)]) (hc_freq_0 : l_freq_0.length ≤ c_freq_0) (hc_spread_2 : l_spread_2.length ≤ c_spread_2) (h : valiselaw6_BuildSpread.f l_freq_0 limit_1 l_spread_2 = some r) :
    Calls Try.prog 11 ([.slice A_freq_0 l_freq_0.length c_freq_0, .int .i64 limit_1, .slice A_spread_2 l_spread_2.length c_spread_2] : List Value).toArray w0 (fun e w => e = .returned (.bool r) ∧ Hp S0 w0 w []) := by
  have H : (((valiselaw6_sound.f l_freq_0).bind fun z3 => (if (((!z3) = true) ∨ (limit_1 < 1)) ∨ (15 < limit_1) then (some true) else ((valiselaw6_uses.f l_freq_0).bind fun z29 => gd (¬ (IntKind.u64.wrap limit_1) < 0) (some (decide (shl .i64 1 (IntKind.u64.wrap limit_1) < z29))))).bind fun b22 => if b22 = true then (some true) else ((valiselaw6_BuildSpread.l21 FU ([] : List Int) ([] : List Int) 0 l_freq_0 l_spread_2).bind fun (l1668, l1671) => if 288 < (l1668.length : Int) then (some true) else ((valiselaw6_copied.f l_freq_0).bind fun z3306 => (build_Depths.f z3306).bind fun (z3316, z3317) => (valiselaw6_copied.f l_freq_0).bind fun z3327 => (build_Limited.f z3327 limit_1).bind fun (z3337, z3338) => (if (z3317 ≠ 0) ∨ (z3338 ≠ 0) then (some true) else ((valiselaw6_good.f l_freq_0 z3316 60).bind fun z3362 => some (!z3362))).bind fun b3355 => (if b3355 = true then (some true) else ((valiselaw6_good.f l_freq_0 z3337 limit_1).bind fun z3379 => some (!z3379))).bind fun b3372 => if b3372 = true then (some false) else ((valiselaw6_copied.f l1668).bind fun z3389 => (build_Depths.f z3389).bind fun (z3399, z3400) => (valiselaw6_copied.f l1668).bind fun z3410 => (build_Limited.f z3410 limit_1).bind fun (z3420, z3421) => if (((z3400 ≠ 0) ∨ (z3421 ≠ 0)) ∨ ((z3399.length : Int) ≠ (l1668.length : Int))) ∨ ((z3420.length : Int) ≠ (l1668.length : Int)) then (some false) else ((valiselaw6_BuildSpread.l27 FU 0 l1668 l1671 z3316 z3337 z3399 z3420).bind fun (yj3442 : Sum (Bool) (Unit)) => onR yj3442 (fun r => some r) fun () => some true))))) : Option (Bool)) = some r := h
  refine calls_start Try.func11 rfl rfl ?_
  refine L_seq ?_
  refine L_region ?_
  refine F_val rfl rfl rfl (O_assign rfl rfl) ?_
  refine F_nil ?_
  refine L_seq ?_
  refine L_seq ?_
  refine L_region ?_
  refine F_val rfl rfl rfl (O_move rfl rfl) ?_
  obtain ⟨z3, h2, H⟩ := of_bind H
  refine F_qcall (v := .bool z3) (xs := [.tmp 20]) rfl rfl rfl rfl Try.func23 nm23 rfl rfl ((valiselaw6_sound.calls (HS0.give [] rfl (Lent.rd HS0 (Lent.nil) (i := 0) rfl ((HS0.cells_rd (i := 0) rfl).self))) hc_freq_0 h2).mono (fun e w hc => ?_)) (fun w4 hw5 => ?_)
  · obtain ⟨rfl, h⟩ := hc
    exact ⟨rfl, h.chg0⟩
  have HS6 := HS0.keep hw5
  refine F_val rfl rfl rfl (O_notb rfl rfl) ?_
  refine F_val rfl rfl rfl (O_move rfl rfl) ?_
  refine F_grp 3 [(26, .bool (decide (((!z3) = true) ∨ (limit_1 < 1)))), (0, .slice A_freq_0 l_freq_0.length c_freq_0), (1, .int .i64 limit_1), (2, .slice A_spread_2 l_spread_2.length c_spread_2)] ?_ ?_
  · rcases Decidable.em ((!z3) = true) with c10 | c10
    · refine F_know (i := 23) rfl (congrArg Value.bool c10) ?_
      refine F_gskip rfl rfl rfl rfl rfl rfl rfl ?_
      refine F_gskip rfl rfl rfl rfl rfl rfl rfl ?_
      refine F_val rfl rfl rfl (O_pickT rfl rfl rfl) ?_
      refine F_know (i := 26) rfl (dec_or_t (q := limit_1 < 1) c10) ?_
      exact F_grpE (fun a ha => Is.cons ha (Is.cons ha (Is.cons ha (Is.cons ha (Is.nil ha) rfl) rfl) rfl) rfl)
    · refine F_know (i := 23) rfl (congrArg Value.bool (Bool.eq_false_iff.mpr c10)) ?_
      refine F_gval rfl rfl rfl rfl rfl rfl (O_move rfl rfl) ?_
      refine F_gval rfl rfl rfl rfl rfl rfl (O_lt rfl rfl rfl) ?_
      refine F_val rfl rfl rfl (O_pickF rfl rfl rfl) ?_
      refine F_know (i := 26) rfl (dec_or_f (q := limit_1 < 1) c10) ?_
      exact F_grpE (fun a ha => Is.cons ha (Is.cons ha (Is.cons ha (Is.cons ha (Is.nil ha) rfl) rfl) rfl) rfl)
  · skip
    refine F_val rfl rfl rfl (O_move rfl rfl) ?_
    refine F_grp 3 [(30, .bool (decide ((((!z3) = true) ∨ (limit_1 < 1)) ∨ (15 < limit_1)))), (0, .slice A_freq_0 l_freq_0.length c_freq_0), (1, .int .i64 limit_1), (2, .slice A_spread_2 l_spread_2.length c_spread_2)] ?_ ?_
    · rcases Decidable.em (((!z3) = true) ∨ (limit_1 < 1)) with c14 | c14
      · refine F_know (i := 27) rfl (dec_t c14) ?_
        refine F_gskip rfl rfl rfl rfl rfl rfl rfl ?_
        refine F_gskip rfl rfl rfl rfl rfl rfl rfl ?_
        refine F_val rfl rfl rfl (O_pickT rfl rfl rfl) ?_
        refine F_know (i := 30) rfl (dec_or_t (q := 15 < limit_1) c14) ?_
        exact F_grpE (fun a ha => Is.cons ha (Is.cons ha (Is.cons ha (Is.cons ha (Is.nil ha) rfl) rfl) rfl) rfl)
      · refine F_know (i := 27) rfl (dec_f c14) ?_
        refine F_gval rfl rfl rfl rfl rfl rfl (O_move rfl rfl) ?_
        refine F_gval rfl rfl rfl rfl rfl rfl (O_gt rfl rfl rfl) ?_
        refine F_val rfl rfl rfl (O_pickF rfl rfl rfl) ?_
        refine F_know (i := 30) rfl (dec_or_f (q := 15 < limit_1) c14) ?_
        exact F_grpE (fun a ha => Is.cons ha (Is.cons ha (Is.cons ha (Is.cons ha (Is.nil ha) rfl) rfl) rfl) rfl)
    · skip
      refine F_val rfl rfl rfl (O_move rfl rfl) ?_
      obtain ⟨b22, Hb22, H⟩ := of_bind H
      refine F_grpQ 7 [(38, .bool b22), (0, .slice A_freq_0 l_freq_0.length c_freq_0), (1, .int .i64 limit_1), (2, .slice A_spread_2 l_spread_2.length c_spread_2)] ?_ (fun w23 hw24 => ?_)
      · rcases Decidable.em ((((!z3) = true) ∨ (limit_1 < 1)) ∨ (15 < limit_1)) with c26 | c26
        · refine F_know (i := 31) rfl (dec_t c26) ?_
          have H := of_pos Hb22 c26
          refine F_gskip rfl rfl rfl rfl rfl rfl rfl ?_
          refine F_gskip rfl rfl rfl rfl rfl rfl rfl ?_
          refine F_gskip rfl rfl rfl rfl rfl rfl rfl ?_
          refine F_gskip rfl rfl rfl rfl rfl rfl rfl ?_
          refine F_gskip rfl rfl rfl rfl rfl rfl rfl ?_
          refine F_gskip rfl rfl rfl rfl rfl rfl rfl ?_
          refine F_val rfl rfl rfl (O_pickT rfl rfl rfl) ?_
          refine F_know (i := 38) rfl (congrArg Value.bool (Option.some.inj H)) ?_
          exact F_grpQE (Chg.refl NoB _) (fun a ha => Is.cons ha (Is.cons ha (Is.cons ha (Is.cons ha (Is.nil ha) rfl) rfl) rfl) rfl)
        · refine F_know (i := 31) rfl (dec_f c26) ?_
          have H := of_neg Hb22 c26
          refine F_gval rfl rfl rfl rfl rfl rfl (O_move rfl rfl) ?_
          obtain ⟨z29, h28, H⟩ := of_bind H
          refine F_gqcall (v := .int .i64 z29) (xs := [.tmp 32]) rfl rfl rfl rfl rfl rfl rfl Try.func30 nm30 rfl rfl ((valiselaw6_uses.calls (HS6.give [] rfl (Lent.rd HS6 (Lent.nil) (i := 0) rfl ((HS6.cells_rd (i := 0) rfl).self))) hc_freq_0 h28).mono (fun e w hc => ?_)) (fun w30 hw31 => ?_)
          · obtain ⟨rfl, h⟩ := hc
            exact ⟨rfl, h.chg0⟩
          have HS32 := HS6.keep hw31
          refine F_gval rfl rfl rfl rfl rfl rfl (O_move rfl rfl) ?_
          refine F_gval rfl rfl rfl rfl rfl rfl (O_conv rfl rfl ⟨_, Try.underlying3⟩ Try.underlying43) ?_
          obtain ⟨g33, H⟩ := of_gd H
          refine F_gval rfl rfl rfl rfl rfl rfl (O_shl rfl rfl rfl g33) ?_
          refine F_gval rfl rfl rfl rfl rfl rfl (O_gt rfl rfl rfl) ?_
          refine F_val rfl rfl rfl (O_pickF rfl rfl rfl) ?_
          refine F_know (i := 38) rfl (congrArg Value.bool (Option.some.inj H)) ?_
          exact F_grpQE ((Chg.refl NoB _).trans hw31) (fun a ha => Is.cons ha (Is.cons ha (Is.cons ha (Is.cons ha (Is.nil ha) rfl) rfl) rfl) rfl)
      · have HS25 := HS6.keep hw24
        refine F_nil ?_
        refine L_cond rfl (fun c34 => ?_) (fun c34 => ?_)
        · have H := of_pos H c34
          refine L_seq ?_
          refine L_region ?_
          refine F_val rfl rfl rfl (O_assign rfl rfl) ?_
          refine F_nil ?_
          refine L_ret (fun a ha => (post_ret1 ha rfl rfl ?_))
          obtain rfl := Option.some.inj H
          exact ⟨rfl, HS25.sel [] rfl⟩
        · have H := of_neg H (by rw [c34]; exact Bool.false_ne_true)
          refine L_skip ?_
          refine L_seq ?_
          refine L_region ?_
          refine F_val rfl rfl rfl (O_assign rfl rfl) ?_
          have HS35 := HS25.addNil 3 (Eint .i64).sz
          have HS35 : Hp S0 w0 w23 [.rd A_freq_0 (rowC (Eint .i64) l_freq_0), .rd A_spread_2 (rowC (Eint .i64) l_spread_2), .own none 0 (rowC (Eint .i64) ([] : List Int)) 3 (Eint .i64).sz] := HS35
          refine F_nil ?_
          refine L_seq ?_
          refine L_region ?_
          refine F_val rfl rfl rfl (O_assign rfl rfl) ?_
          have HS37 := HS35.addNil 3 (Eint .i64).sz
          have HS37 : Hp S0 w0 w23 [.rd A_freq_0 (rowC (Eint .i64) l_freq_0), .rd A_spread_2 (rowC (Eint .i64) l_spread_2), .own none 0 (rowC (Eint .i64) ([] : List Int)) 3 (Eint .i64).sz, .own none 0 (rowC (Eint .i64) ([] : List Int)) 3 (Eint .i64).sz] := HS37
          refine F_nil ?_
          refine L_seq ?_
          refine L_seq ?_
          refine L_region ?_
          refine F_val rfl rfl rfl (O_assign rfl rfl) ?_
          refine F_nil ?_
          obtain ⟨yj39, Hyj39, H⟩ := of_bind H
          refine L_join (fun a w => ∃ (l1668 : List Int), ∃ (l1671 : List Int), ∃ (A1666 : Option Addr), ∃ (c1667 : Nat), ∃ (A1669 : Option Addr), ∃ (c1670 : Nat), yj39 = (l1668, l1671) ∧ Is Try.f11.ntmps a [(0, .slice A_freq_0 l_freq_0.length c_freq_0), (1, .int .i64 limit_1), (7, .slice A1666 l1668.length c1667), (8, .slice A1669 l1671.length c1670)] ∧ Hp S0 w0 w [.rd A_freq_0 (rowC (Eint .i64) l_freq_0), .rd A_spread_2 (rowC (Eint .i64) l_spread_2), .own A1666 c1667 (rowC (Eint .i64) l1668) 3 (Eint .i64).sz, .own A1669 c1670 (rowC (Eint .i64) l1671) 3 (Eint .i64).sz]) (fun Qj39 hNj39 hOj39 => ?_) (fun a w hR => ?_)
          · skip
            have H := Hyj39
            refine L_blk (fun Qb1672 hNb1672 hXb1672 hOb1672 => ?_)
            refine L_lp (fun k a w => ∃ (l2755 : List Int), ∃ (l2758 : List Int), ∃ (s_2759 : Int), ∃ (A2753 : Option Addr), ∃ (c2754 : Nat), ∃ (A2756 : Option Addr), ∃ (c2757 : Nat), Is Try.f11.ntmps a [(0, .slice A_freq_0 l_freq_0.length c_freq_0), (1, .int .i64 limit_1), (2, .slice A_spread_2 l_spread_2.length c_spread_2), (7, .slice A2753 l2755.length c2754), (8, .slice A2756 l2758.length c2757), (9, .int .i64 s_2759)] ∧ Hp S0 w0 w [.rd A_freq_0 (rowC (Eint .i64) l_freq_0), .rd A_spread_2 (rowC (Eint .i64) l_spread_2), .own A2753 c2754 (rowC (Eint .i64) l2755) 3 (Eint .i64).sz, .own A2756 c2757 (rowC (Eint .i64) l2758) 3 (Eint .i64).sz] ∧ valiselaw6_BuildSpread.l21 k l2755 l2758 s_2759 l_freq_0 l_spread_2 = some yj39) FU (fun a ha => ⟨_, _, _, _, _, _, _, Is.cons ha (Is.cons ha (Is.cons ha (Is.cons ha (Is.cons ha (Is.cons ha (Is.nil ha) rfl) rfl) rfl) rfl) rfl) rfl, HS37.sel [0, 1, 2, 3] rfl, H⟩) (fun kp2752 a w2760 hI Qp2752 hNp2752 hOp2752 => ?_)
            obtain ⟨l2755, l2758, s_2759, A2753, c2754, A2756, c2757, ha, HS2761, HAp2752⟩ := hI
            cases kp2752 with
            | zero => cases (show (none : Option _) = some _ from HAp2752)
            | succ kp2752 =>
              have H := (valiselaw6_BuildSpread.l21.eq_2 ..).symm.trans HAp2752
              refine wpLF_app ?_ ha
              refine L_seq ?_
              refine L_seq ?_
              refine L_region ?_
              refine F_val rfl rfl rfl (O_move rfl rfl) ?_
              refine F_val rfl rfl rfl (O_move rfl rfl) ?_
              refine F_val rfl rfl rfl (O_len rfl rfl Try.underlying22) ?_
              refine F_val rfl rfl rfl (O_lt rfl rfl rfl) ?_
              refine F_nil ?_
              refine L_condP rfl (fun c2762 => ?_) (fun c2762 => ?_)
              · have H := of_pos H c2762
                refine L_skip ?_
                refine L_seq ?_
                refine L_blk (fun Q2763 hN2763 hX2763 hO2763 => ?_)
                refine L_seq ?_
                refine L_seq ?_
                refine L_region ?_
                refine F_val rfl rfl rfl (O_move rfl rfl) ?_
                refine F_val rfl rfl rfl (O_move rfl rfl) ?_
                refine F_val rfl rfl rfl (O_len rfl rfl Try.underlying22) ?_
                refine F_val rfl rfl rfl (O_lt rfl rfl rfl) ?_
                refine F_nil ?_
                obtain ⟨yj2764, Hyj2764, H⟩ := of_bind H
                refine L_join (fun a w => ∃ (l3015 : List Int), ∃ (l3018 : List Int), ∃ (A3013 : Option Addr), ∃ (c3014 : Nat), ∃ (A3016 : Option Addr), ∃ (c3017 : Nat), yj2764 = (l3015, l3018) ∧ Is Try.f11.ntmps a [(0, .slice A_freq_0 l_freq_0.length c_freq_0), (1, .int .i64 limit_1), (2, .slice A_spread_2 l_spread_2.length c_spread_2), (7, .slice A3013 l3015.length c3014), (8, .slice A3016 l3018.length c3017), (9, .int .i64 s_2759)] ∧ Hp S0 w0 w [.rd A_freq_0 (rowC (Eint .i64) l_freq_0), .rd A_spread_2 (rowC (Eint .i64) l_spread_2), .own A3013 c3014 (rowC (Eint .i64) l3015) 3 (Eint .i64).sz, .own A3016 c3017 (rowC (Eint .i64) l3018) 3 (Eint .i64).sz]) (fun Qj2764 hNj2764 hOj2764 => ?_) (fun a w hR => ?_)
                · skip
                  have H := Hyj2764
                  refine L_condP rfl (fun c3019 => ?_) (fun c3019 => ?_)
                  · have H := of_pos H c3019
                    refine L_seq ?_
                    refine L_region ?_
                    refine F_val rfl rfl rfl (O_move rfl rfl) ?_
                    refine F_val rfl rfl rfl (O_move rfl rfl) ?_
                    obtain ⟨⟨g3020, g3021⟩, H⟩ := of_gd H
                    refine F_val rfl rfl rfl (O_idx rfl rfl rfl Try.underlying22 size3 g3020 g3021 (Cells.isA (HS2761.cells_rd (i := 1) rfl) (rowC_ne (E := (Eint .i64)) g3020 g3021 (by decide)))) ?_
                    refine F_val rfl rfl rfl (O_loadC rfl rfl flat3 (HS2761.cells_rd (i := 1) rfl) (int_cell g3020 g3021)) ?_
                    obtain ⟨x3022, h3023, H⟩ := of_bnd H
                    refine F_val rfl rfl rfl (O_assign' rfl rfl (congrArg (Value.int .i64) h3023)) ?_
                    refine F_nil ?_
                    obtain ⟨yj3024, Hyj3024, H⟩ := of_bind H
                    refine L_join (fun a w => ∃ (l3144 : List Int), ∃ (l3147 : List Int), ∃ (A3142 : Option Addr), ∃ (c3143 : Nat), ∃ (A3145 : Option Addr), ∃ (c3146 : Nat), yj3024 = (l3144, l3147) ∧ Is Try.f11.ntmps a [(0, .slice A_freq_0 l_freq_0.length c_freq_0), (1, .int .i64 limit_1), (2, .slice A_spread_2 l_spread_2.length c_spread_2), (7, .slice A3142 l3144.length c3143), (8, .slice A3145 l3147.length c3146), (9, .int .i64 s_2759)] ∧ Hp S0 w0 w [.rd A_freq_0 (rowC (Eint .i64) l_freq_0), .rd A_spread_2 (rowC (Eint .i64) l_spread_2), .own A3142 c3143 (rowC (Eint .i64) l3144) 3 (Eint .i64).sz, .own A3145 c3146 (rowC (Eint .i64) l3147) 3 (Eint .i64).sz]) (fun Qj3024 hNj3024 hOj3024 => ?_) (fun a w hR => ?_)
                    · skip
                      have H := Hyj3024
                      refine L_blk (fun Qb3148 hNb3148 hXb3148 hOb3148 => ?_)
                      refine L_lp (fun k a w => ∃ (l3225 : List Int), ∃ (l3228 : List Int), ∃ (k_3229 : Int), ∃ (A3223 : Option Addr), ∃ (c3224 : Nat), ∃ (A3226 : Option Addr), ∃ (c3227 : Nat), Is Try.f11.ntmps a [(0, .slice A_freq_0 l_freq_0.length c_freq_0), (1, .int .i64 limit_1), (2, .slice A_spread_2 l_spread_2.length c_spread_2), (7, .slice A3223 l3225.length c3224), (8, .slice A3226 l3228.length c3227), (9, .int .i64 s_2759), (10, .int .i64 k_3229)] ∧ Hp S0 w0 w [.rd A_freq_0 (rowC (Eint .i64) l_freq_0), .rd A_spread_2 (rowC (Eint .i64) l_spread_2), .own A3223 c3224 (rowC (Eint .i64) l3225) 3 (Eint .i64).sz, .own A3226 c3227 (rowC (Eint .i64) l3228) 3 (Eint .i64).sz] ∧ valiselaw6_BuildSpread.l25 k l3225 l3228 k_3229  = some yj3024) FU (fun a ha => ⟨_, _, _, _, _, _, _, Is.cons ha (Is.cons ha (Is.cons ha (Is.cons ha (Is.cons ha (Is.cons ha (Is.cons ha (Is.nil ha) rfl) rfl) rfl) rfl) rfl) rfl) rfl, HS2761.sel [0, 1, 2, 3] rfl, H⟩) (fun kp3222 a w3230 hI Qp3222 hNp3222 hOp3222 => ?_)
                      obtain ⟨l3225, l3228, k_3229, A3223, c3224, A3226, c3227, ha, HS3231, HAp3222⟩ := hI
                      cases kp3222 with
                      | zero => cases (show (none : Option _) = some _ from HAp3222)
                      | succ kp3222 =>
                        have H := (valiselaw6_BuildSpread.l25.eq_2 ..).symm.trans HAp3222
                        refine wpLF_app ?_ ha
                        refine L_seq ?_
                        refine L_seq ?_
                        refine L_region ?_
                        refine F_val rfl rfl rfl (O_move rfl rfl) ?_
                        refine F_val rfl rfl rfl (O_gt rfl rfl rfl) ?_
                        refine F_val rfl rfl rfl (O_move rfl rfl) ?_
                        refine F_grp 4 [(59, .bool (decide ((0 < k_3229) ∧ ((l3225.length : Int) < 288)))), (0, .slice A_freq_0 l_freq_0.length c_freq_0), (1, .int .i64 limit_1), (2, .slice A_spread_2 l_spread_2.length c_spread_2), (7, .slice A3223 l3225.length c3224), (8, .slice A3226 l3228.length c3227), (9, .int .i64 s_2759), (10, .int .i64 k_3229)] ?_ ?_
                        · rcases Decidable.em (0 < k_3229) with c3235 | c3235
                          · refine F_know (i := 55) rfl (dec_t c3235) ?_
                            refine F_gval rfl rfl rfl rfl rfl rfl (O_move rfl rfl) ?_
                            refine F_gval rfl rfl rfl rfl rfl rfl (O_len rfl rfl Try.underlying22) ?_
                            refine F_gval rfl rfl rfl rfl rfl rfl (O_lt rfl rfl rfl) ?_
                            refine F_val rfl rfl rfl (O_pickT rfl rfl rfl) ?_
                            refine F_know (i := 59) rfl (dec_and_t (q := (l3225.length : Int) < 288) c3235) ?_
                            exact F_grpE (fun a ha => Is.cons ha (Is.cons ha (Is.cons ha (Is.cons ha (Is.cons ha (Is.cons ha (Is.cons ha (Is.cons ha (Is.nil ha) rfl) rfl) rfl) rfl) rfl) rfl) rfl) rfl)
                          · refine F_know (i := 55) rfl (dec_f c3235) ?_
                            refine F_gskip rfl rfl rfl rfl rfl rfl rfl ?_
                            refine F_gskip rfl rfl rfl rfl rfl rfl rfl ?_
                            refine F_gskip rfl rfl rfl rfl rfl rfl rfl ?_
                            refine F_val rfl rfl rfl (O_pickF rfl rfl rfl) ?_
                            refine F_know (i := 59) rfl (dec_and_f (q := (l3225.length : Int) < 288) c3235) ?_
                            exact F_grpE (fun a ha => Is.cons ha (Is.cons ha (Is.cons ha (Is.cons ha (Is.cons ha (Is.cons ha (Is.cons ha (Is.cons ha (Is.nil ha) rfl) rfl) rfl) rfl) rfl) rfl) rfl) rfl)
                        · skip
                          refine F_nil ?_
                          refine L_condP rfl (fun c3236 => ?_) (fun c3236 => ?_)
                          · have H := of_pos H c3236
                            refine L_skip ?_
                            refine L_seq ?_
                            refine L_blk (fun Q3237 hN3237 hX3237 hO3237 => ?_)
                            refine L_seq ?_
                            refine L_region ?_
                            refine F_val rfl rfl rfl (O_move rfl rfl) ?_
                            refine F_litE (E := (Eint .i64)) (e := 3) [(0, .int .i64 0)] [0] rfl rfl rfl rfl rfl rfl rfl (by decide) (fun w => by kernel_rfl) HS3231 (fun w3238 A3240 c3241 HS3239 => ?_)
                            have HS3239 : Hp S0 w0 w3238 [.rd A_freq_0 (rowC (Eint .i64) l_freq_0), .rd A_spread_2 (rowC (Eint .i64) l_spread_2), .own A3223 c3224 (rowC (Eint .i64) l3225) 3 (Eint .i64).sz, .own A3226 c3227 (rowC (Eint .i64) l3228) 3 (Eint .i64).sz, .own A3240 c3241 (rowC (Eint .i64) [0]) 3 (Eint .i64).sz] := HS3239
                            obtain ⟨l3245, h3246, H⟩ := of_bnd H
                            obtain ⟨g3247, H⟩ := of_gd H
                            refine F_appE (E := (Eint .i64)) (xs := l3225) (ys := [0]) (i := 2) rfl rfl rfl rfl Try.underlying22 info3 rfl (by decide) (by decide) rfl rfl HS3239 rfl (HS3239.cells_own (i := 4) rfl) h3246 g3247 (fun w3243 A3248 c3249 HS3244 => ?_)
                            have HS3244 : Hp S0 w0 w3243 [.rd A_freq_0 (rowC (Eint .i64) l_freq_0), .rd A_spread_2 (rowC (Eint .i64) l_spread_2), .own A3248 c3249 (rowC (Eint .i64) l3245) 3 (Eint .i64).sz, .own A3226 c3227 (rowC (Eint .i64) l3228) 3 (Eint .i64).sz, .own A3240 c3241 (rowC (Eint .i64) [0]) 3 (Eint .i64).sz] := HS3244
                            refine F_val rfl rfl rfl (O_assign rfl rfl) ?_
                            refine F_nil ?_
                            refine L_region ?_
                            refine F_val rfl rfl rfl (O_move rfl rfl) ?_
                            refine F_litE (E := (Eint .i64)) (e := 3) [(0, .int .i64 (-1))] [(-1)] rfl rfl rfl rfl rfl rfl rfl (by decide) (fun w => by kernel_rfl) HS3244 (fun w3250 A3252 c3253 HS3251 => ?_)
                            have HS3251 : Hp S0 w0 w3250 [.rd A_freq_0 (rowC (Eint .i64) l_freq_0), .rd A_spread_2 (rowC (Eint .i64) l_spread_2), .own A3248 c3249 (rowC (Eint .i64) l3245) 3 (Eint .i64).sz, .own A3226 c3227 (rowC (Eint .i64) l3228) 3 (Eint .i64).sz, .own A3240 c3241 (rowC (Eint .i64) [0]) 3 (Eint .i64).sz, .own A3252 c3253 (rowC (Eint .i64) [(-1)]) 3 (Eint .i64).sz] := HS3251
                            obtain ⟨l3257, h3258, H⟩ := of_bnd H
                            obtain ⟨g3259, H⟩ := of_gd H
                            refine F_appE (E := (Eint .i64)) (xs := l3228) (ys := [(-1)]) (i := 3) rfl rfl rfl rfl Try.underlying22 info3 rfl (by decide) (by decide) rfl rfl HS3251 rfl (HS3251.cells_own (i := 5) rfl) h3258 g3259 (fun w3255 A3260 c3261 HS3256 => ?_)
                            have HS3256 : Hp S0 w0 w3255 [.rd A_freq_0 (rowC (Eint .i64) l_freq_0), .rd A_spread_2 (rowC (Eint .i64) l_spread_2), .own A3248 c3249 (rowC (Eint .i64) l3245) 3 (Eint .i64).sz, .own A3260 c3261 (rowC (Eint .i64) l3257) 3 (Eint .i64).sz, .own A3240 c3241 (rowC (Eint .i64) [0]) 3 (Eint .i64).sz, .own A3252 c3253 (rowC (Eint .i64) [(-1)]) 3 (Eint .i64).sz] := HS3256
                            refine F_val rfl rfl rfl (O_assign rfl rfl) ?_
                            refine F_nil ?_
                            refine L_endB hN3237 ?_
                            have HS3262 : Hp S0 w0 w3255 [.rd A_freq_0 (rowC (Eint .i64) l_freq_0), .rd A_spread_2 (rowC (Eint .i64) l_spread_2), .own A3248 c3249 (rowC (Eint .i64) l3245) 3 (Eint .i64).sz, .own A3260 c3261 (rowC (Eint .i64) l3257) 3 (Eint .i64).sz] := HS3256.sel [0, 1, 2, 3] rfl
                            refine L_region ?_
                            refine F_val rfl rfl rfl (O_move rfl rfl) ?_
                            refine F_val rfl rfl rfl (O_sub rfl rfl rfl) ?_
                            obtain ⟨x3263, h3264, H⟩ := of_bnd H
                            refine F_val rfl rfl rfl (O_assign' rfl rfl (congrArg (Value.int .i64) h3264)) ?_
                            refine F_nil ?_
                            refine L_nil (fun a ha => hNp3222 _ a _ (Nat.lt_succ_self _) ⟨_, _, _, _, _, _, _, Is.cons ha (Is.cons ha (Is.cons ha (Is.cons ha (Is.cons ha (Is.cons ha (Is.cons ha (Is.nil ha) rfl) rfl) rfl) rfl) rfl) rfl) rfl, HS3262.sel [0, 1, 2, 3] rfl, H⟩)
                          · have H := of_neg H c3236
                            refine L_exitB (fun a w h => hOp3222 (.exit 2) a w rfl (hXb3148 a w h)) ?_
                            refine L_nil (fun a ha => hNj3024 a _ ⟨_, _, _, _, _, _, (Option.some.inj H).symm, Is.cons ha (Is.cons ha (Is.cons ha (Is.cons ha (Is.cons ha (Is.cons ha (Is.nil ha) rfl) rfl) rfl) rfl) rfl) rfl, HS3231.sel [0, 1, 2, 3] rfl⟩)
                    · obtain ⟨l3144, l3147, A3142, c3143, A3145, c3146, rfl, ha, HS3266⟩ := hR
                      refine wpLF_app ?_ ha
                      refine L_nil (fun a ha => hNj2764 a _ ⟨_, _, _, _, _, _, (Option.some.inj H).symm, Is.cons ha (Is.cons ha (Is.cons ha (Is.cons ha (Is.cons ha (Is.cons ha (Is.nil ha) rfl) rfl) rfl) rfl) rfl) rfl, HS3266.sel [0, 1, 2, 3] rfl⟩)
                  · have H := of_neg H c3019
                    refine L_skip ?_
                    refine L_nil (fun a ha => hNj2764 a _ ⟨_, _, _, _, _, _, (Option.some.inj H).symm, Is.cons ha (Is.cons ha (Is.cons ha (Is.cons ha (Is.cons ha (Is.cons ha (Is.nil ha) rfl) rfl) rfl) rfl) rfl) rfl, HS2761.sel [0, 1, 2, 3] rfl⟩)
                · obtain ⟨l3015, l3018, A3013, c3014, A3016, c3017, rfl, ha, HS3268⟩ := hR
                  refine wpLF_app ?_ ha
                  refine L_seq ?_
                  refine L_region ?_
                  refine F_val rfl rfl rfl (O_move rfl rfl) ?_
                  refine F_val rfl rfl rfl (O_move rfl rfl) ?_
                  refine F_val rfl rfl rfl (O_move rfl rfl) ?_
                  obtain ⟨⟨g3269, g3270⟩, H⟩ := of_gd H
                  refine F_val rfl rfl rfl (O_idx rfl rfl rfl Try.underlying22 size3 g3269 g3270 (Cells.isA (HS3268.cells_rd (i := 0) rfl) (rowC_ne (E := (Eint .i64)) g3269 g3270 (by decide)))) ?_
                  refine F_val rfl rfl rfl (O_loadC rfl rfl flat3 (HS3268.cells_rd (i := 0) rfl) (int_cell g3269 g3270)) ?_
                  refine F_litE (E := (Eint .i64)) (e := 3) [(0, .int .i64 (rd l_freq_0 s_2759))] [rd l_freq_0 s_2759] rfl rfl rfl rfl rfl rfl rfl (by decide) (fun w => by kernel_rfl) HS3268 (fun w3271 A3273 c3274 HS3272 => ?_)
                  have HS3272 : Hp S0 w0 w3271 [.rd A_freq_0 (rowC (Eint .i64) l_freq_0), .rd A_spread_2 (rowC (Eint .i64) l_spread_2), .own A3013 c3014 (rowC (Eint .i64) l3015) 3 (Eint .i64).sz, .own A3016 c3017 (rowC (Eint .i64) l3018) 3 (Eint .i64).sz, .own A3273 c3274 (rowC (Eint .i64) [rd l_freq_0 s_2759]) 3 (Eint .i64).sz] := HS3272
                  obtain ⟨l3278, h3279, H⟩ := of_bnd H
                  obtain ⟨g3280, H⟩ := of_gd H
                  refine F_appE (E := (Eint .i64)) (xs := l3015) (ys := [rd l_freq_0 s_2759]) (i := 2) rfl rfl rfl rfl Try.underlying22 info3 rfl (by decide) (by decide) rfl rfl HS3272 rfl (HS3272.cells_own (i := 4) rfl) h3279 g3280 (fun w3276 A3281 c3282 HS3277 => ?_)
                  have HS3277 : Hp S0 w0 w3276 [.rd A_freq_0 (rowC (Eint .i64) l_freq_0), .rd A_spread_2 (rowC (Eint .i64) l_spread_2), .own A3281 c3282 (rowC (Eint .i64) l3278) 3 (Eint .i64).sz, .own A3016 c3017 (rowC (Eint .i64) l3018) 3 (Eint .i64).sz, .own A3273 c3274 (rowC (Eint .i64) [rd l_freq_0 s_2759]) 3 (Eint .i64).sz] := HS3277
                  refine F_val rfl rfl rfl (O_assign rfl rfl) ?_
                  refine F_nil ?_
                  refine L_region ?_
                  refine F_val rfl rfl rfl (O_move rfl rfl) ?_
                  refine F_val rfl rfl rfl (O_move rfl rfl) ?_
                  refine F_litE (E := (Eint .i64)) (e := 3) [(0, .int .i64 s_2759)] [s_2759] rfl rfl rfl rfl rfl rfl rfl (by decide) (fun w => by kernel_rfl) HS3277 (fun w3283 A3285 c3286 HS3284 => ?_)
                  have HS3284 : Hp S0 w0 w3283 [.rd A_freq_0 (rowC (Eint .i64) l_freq_0), .rd A_spread_2 (rowC (Eint .i64) l_spread_2), .own A3281 c3282 (rowC (Eint .i64) l3278) 3 (Eint .i64).sz, .own A3016 c3017 (rowC (Eint .i64) l3018) 3 (Eint .i64).sz, .own A3273 c3274 (rowC (Eint .i64) [rd l_freq_0 s_2759]) 3 (Eint .i64).sz, .own A3285 c3286 (rowC (Eint .i64) [s_2759]) 3 (Eint .i64).sz] := HS3284
                  obtain ⟨l3290, h3291, H⟩ := of_bnd H
                  obtain ⟨g3292, H⟩ := of_gd H
                  refine F_appE (E := (Eint .i64)) (xs := l3018) (ys := [s_2759]) (i := 3) rfl rfl rfl rfl Try.underlying22 info3 rfl (by decide) (by decide) rfl rfl HS3284 rfl (HS3284.cells_own (i := 5) rfl) h3291 g3292 (fun w3288 A3293 c3294 HS3289 => ?_)
                  have HS3289 : Hp S0 w0 w3288 [.rd A_freq_0 (rowC (Eint .i64) l_freq_0), .rd A_spread_2 (rowC (Eint .i64) l_spread_2), .own A3281 c3282 (rowC (Eint .i64) l3278) 3 (Eint .i64).sz, .own A3293 c3294 (rowC (Eint .i64) l3290) 3 (Eint .i64).sz, .own A3273 c3274 (rowC (Eint .i64) [rd l_freq_0 s_2759]) 3 (Eint .i64).sz, .own A3285 c3286 (rowC (Eint .i64) [s_2759]) 3 (Eint .i64).sz] := HS3289
                  refine F_val rfl rfl rfl (O_assign rfl rfl) ?_
                  refine F_nil ?_
                  refine L_endB hN2763 ?_
                  have HS3295 : Hp S0 w0 w3288 [.rd A_freq_0 (rowC (Eint .i64) l_freq_0), .rd A_spread_2 (rowC (Eint .i64) l_spread_2), .own A3281 c3282 (rowC (Eint .i64) l3278) 3 (Eint .i64).sz, .own A3293 c3294 (rowC (Eint .i64) l3290) 3 (Eint .i64).sz] := HS3289.sel [0, 1, 2, 3] rfl
                  refine L_region ?_
                  refine F_val rfl rfl rfl (O_move rfl rfl) ?_
                  refine F_val rfl rfl rfl (O_add rfl rfl rfl) ?_
                  obtain ⟨x3296, h3297, H⟩ := of_bnd H
                  refine F_val rfl rfl rfl (O_assign' rfl rfl (congrArg (Value.int .i64) h3297)) ?_
                  refine F_nil ?_
                  refine L_nil (fun a ha => hNp2752 _ a _ (Nat.lt_succ_self _) ⟨_, _, _, _, _, _, _, Is.cons ha (Is.cons ha (Is.cons ha (Is.cons ha (Is.cons ha (Is.cons ha (Is.nil ha) rfl) rfl) rfl) rfl) rfl) rfl, HS3295.sel [0, 1, 2, 3] rfl, H⟩)
              · have H := of_neg H c2762
                refine L_exitB (fun a w h => hOp2752 (.exit 0) a w rfl (hXb1672 a w h)) ?_
                refine L_nil (fun a ha => hNj39 a _ ⟨_, _, _, _, _, _, (Option.some.inj H).symm, Is.cons ha (Is.cons ha (Is.cons ha (Is.cons ha (Is.nil ha) rfl) rfl) rfl) rfl, HS2761.sel [0, 1, 2, 3] rfl⟩)
          · obtain ⟨l1668, l1671, A1666, c1667, A1669, c1670, rfl, ha, HS3299⟩ := hR
            refine wpLF_app ?_ ha
            refine L_seq ?_
            refine L_seq ?_
            refine L_region ?_
            refine F_val rfl rfl rfl (O_move rfl rfl) ?_
            refine F_val rfl rfl rfl (O_len rfl rfl Try.underlying22) ?_
            refine F_val rfl rfl rfl (O_gt rfl rfl rfl) ?_
            refine F_nil ?_
            refine L_condP rfl (fun c3300 => ?_) (fun c3300 => ?_)
            · have H := of_pos H c3300
              refine L_seq ?_
              have HS3301 : Hp S0 w0 w [.rd A_freq_0 (rowC (Eint .i64) l_freq_0), .rd A_spread_2 (rowC (Eint .i64) l_spread_2)] := HS3299.sel [0, 1] rfl
              refine L_region ?_
              refine F_val rfl rfl rfl (O_assign rfl rfl) ?_
              refine F_nil ?_
              refine L_ret (fun a ha => (post_ret1 ha rfl rfl ?_))
              obtain rfl := Option.some.inj H
              exact ⟨rfl, HS3301.sel [] rfl⟩
            · have H := of_neg H c3300
              refine L_skip ?_
              refine L_seq ?_
              refine L_region ?_
              refine F_val rfl rfl rfl (O_move rfl rfl) ?_
              obtain ⟨z3306, h3305, H⟩ := of_bind H
              refine F_call (xs := [.tmp 83]) rfl rfl rfl rfl Try.func24 nm24 rfl rfl ((valiselaw6_copied.calls (HS3299.give [] rfl (Lent.rd HS3299 (Lent.nil) (i := 0) rfl ((HS3299.cells_rd (i := 0) rfl).self))) hc_freq_0 h3305).mono (fun e w hc => ?_))
              obtain ⟨A3309, c3310, rfl, HSo⟩ := hc
              refine ⟨.slice A3309 z3306.length c3310, rfl, ?_⟩
              have HS3308 : Hp S0 w0 w [.rd A_freq_0 (rowC (Eint .i64) l_freq_0), .rd A_spread_2 (rowC (Eint .i64) l_spread_2), .own A1666 c1667 (rowC (Eint .i64) l1668) 3 (Eint .i64).sz, .own A1669 c1670 (rowC (Eint .i64) l1671) 3 (Eint .i64).sz, .own A3309 c3310 (rowC (Eint .i64) z3306) 3 (Eint .i64).sz] := (HS3299.back [] HSo rfl).sel [0, 1, 2, 3, 4] rfl
              obtain ⟨⟨z3316, z3317⟩, h3315, H⟩ := of_bind H
              refine F_call (xs := [.tmp 84]) rfl rfl rfl rfl Try.func20 nm20 rfl rfl ((build_Depths.calls (HS3308.give [] rfl (Lent.own HS3308 (Lent.nil) (i := 4) rfl rfl ((HS3308.cells_own (i := 4) rfl).self))) (HS3308.own_capE (i := 4) rfl (by decide)) h3315).mono (fun e w hc => ?_))
              obtain ⟨A3320, c3321, rfl, HSo⟩ := hc
              refine ⟨.tuple #[.slice A3320 z3316.length c3321, .int .i64 z3317], rfl, ?_⟩
              have HS3319 : Hp S0 w0 w [.rd A_freq_0 (rowC (Eint .i64) l_freq_0), .rd A_spread_2 (rowC (Eint .i64) l_spread_2), .own A1666 c1667 (rowC (Eint .i64) l1668) 3 (Eint .i64).sz, .own A1669 c1670 (rowC (Eint .i64) l1671) 3 (Eint .i64).sz, .own A3309 c3310 (rowC (Eint .i64) z3306) 3 (Eint .i64).sz, .own A3320 c3321 (rowC (Eint .i64) z3316) 3 (Eint .i64).sz] := (HS3308.back [] HSo rfl).sel [0, 1, 2, 3, 4, 5] rfl
              refine F_val rfl rfl rfl (O_move rfl rfl) ?_
              refine F_val rfl rfl rfl (O_extract (v := .slice A3320 z3316.length c3321) rfl rfl rfl) ?_
              refine F_val rfl rfl rfl (O_extract (v := .int .i64 z3317) rfl rfl rfl) ?_
              refine F_val rfl rfl rfl (O_assign rfl rfl) ?_
              refine F_val rfl rfl rfl (O_assign rfl rfl) ?_
              refine F_nil ?_
              refine L_seq ?_
              refine L_region ?_
              refine F_val rfl rfl rfl (O_move rfl rfl) ?_
              obtain ⟨z3327, h3326, H⟩ := of_bind H
              refine F_call (xs := [.tmp 89]) rfl rfl rfl rfl Try.func24 nm24 rfl rfl ((valiselaw6_copied.calls (HS3319.give [] rfl (Lent.rd HS3319 (Lent.nil) (i := 0) rfl ((HS3319.cells_rd (i := 0) rfl).self))) hc_freq_0 h3326).mono (fun e w hc => ?_))
              obtain ⟨A3330, c3331, rfl, HSo⟩ := hc
              refine ⟨.slice A3330 z3327.length c3331, rfl, ?_⟩
              have HS3329 : Hp S0 w0 w [.rd A_freq_0 (rowC (Eint .i64) l_freq_0), .rd A_spread_2 (rowC (Eint .i64) l_spread_2), .own A1666 c1667 (rowC (Eint .i64) l1668) 3 (Eint .i64).sz, .own A1669 c1670 (rowC (Eint .i64) l1671) 3 (Eint .i64).sz, .own A3309 c3310 (rowC (Eint .i64) z3306) 3 (Eint .i64).sz, .own A3320 c3321 (rowC (Eint .i64) z3316) 3 (Eint .i64).sz, .own A3330 c3331 (rowC (Eint .i64) z3327) 3 (Eint .i64).sz] := (HS3319.back [] HSo rfl).sel [0, 1, 2, 3, 4, 5, 6] rfl
              refine F_val rfl rfl rfl (O_move rfl rfl) ?_
              obtain ⟨⟨z3337, z3338⟩, h3336, H⟩ := of_bind H
              refine F_call (xs := [.tmp 90, .tmp 91]) rfl rfl rfl rfl Try.func28 nm28 rfl rfl ((build_Limited.calls (HS3329.give [] rfl (Lent.own HS3329 (Lent.nil) (i := 6) rfl rfl ((HS3329.cells_own (i := 6) rfl).self))) (HS3329.own_capE (i := 6) rfl (by decide)) h3336).mono (fun e w hc => ?_))
              obtain ⟨A3341, c3342, rfl, HSo⟩ := hc
              refine ⟨.tuple #[.slice A3341 z3337.length c3342, .int .i64 z3338], rfl, ?_⟩
              have HS3340 : Hp S0 w0 w [.rd A_freq_0 (rowC (Eint .i64) l_freq_0), .rd A_spread_2 (rowC (Eint .i64) l_spread_2), .own A1666 c1667 (rowC (Eint .i64) l1668) 3 (Eint .i64).sz, .own A1669 c1670 (rowC (Eint .i64) l1671) 3 (Eint .i64).sz, .own A3309 c3310 (rowC (Eint .i64) z3306) 3 (Eint .i64).sz, .own A3320 c3321 (rowC (Eint .i64) z3316) 3 (Eint .i64).sz, .own A3330 c3331 (rowC (Eint .i64) z3327) 3 (Eint .i64).sz, .own A3341 c3342 (rowC (Eint .i64) z3337) 3 (Eint .i64).sz] := (HS3329.back [] HSo rfl).sel [0, 1, 2, 3, 4, 5, 6, 7] rfl
              refine F_val rfl rfl rfl (O_move rfl rfl) ?_
              refine F_val rfl rfl rfl (O_extract (v := .slice A3341 z3337.length c3342) rfl rfl rfl) ?_
              refine F_val rfl rfl rfl (O_extract (v := .int .i64 z3338) rfl rfl rfl) ?_
              refine F_val rfl rfl rfl (O_assign rfl rfl) ?_
              refine F_val rfl rfl rfl (O_assign rfl rfl) ?_
              refine F_nil ?_
              refine L_seq ?_
              refine L_seq ?_
              have HS3344 : Hp S0 w0 w [.rd A_freq_0 (rowC (Eint .i64) l_freq_0), .rd A_spread_2 (rowC (Eint .i64) l_spread_2), .own A1666 c1667 (rowC (Eint .i64) l1668) 3 (Eint .i64).sz, .own A1669 c1670 (rowC (Eint .i64) l1671) 3 (Eint .i64).sz, .own A3320 c3321 (rowC (Eint .i64) z3316) 3 (Eint .i64).sz, .own A3341 c3342 (rowC (Eint .i64) z3337) 3 (Eint .i64).sz] := HS3340.sel [0, 1, 2, 3, 5, 7] rfl
              refine L_region ?_
              refine F_val rfl rfl rfl (O_move rfl rfl) ?_
              refine F_val rfl rfl rfl (O_ne rfl rfl rfl) ?_
              refine F_val rfl rfl rfl (O_move rfl rfl) ?_
              refine F_grp 3 [(100, .bool (decide ((z3317 ≠ 0) ∨ (z3338 ≠ 0)))), (0, .slice A_freq_0 l_freq_0.length c_freq_0), (1, .int .i64 limit_1), (7, .slice A1666 l1668.length c1667), (8, .slice A1669 l1671.length c1670), (11, .slice A3320 z3316.length c3321), (13, .slice A3341 z3337.length c3342)] ?_ ?_
              · rcases Decidable.em (z3317 ≠ 0) with c3348 | c3348
                · refine F_know (i := 97) rfl (dec_t c3348) ?_
                  refine F_gskip rfl rfl rfl rfl rfl rfl rfl ?_
                  refine F_gskip rfl rfl rfl rfl rfl rfl rfl ?_
                  refine F_val rfl rfl rfl (O_pickT rfl rfl rfl) ?_
                  refine F_know (i := 100) rfl (dec_or_t (q := z3338 ≠ 0) c3348) ?_
                  exact F_grpE (fun a ha => Is.cons ha (Is.cons ha (Is.cons ha (Is.cons ha (Is.cons ha (Is.cons ha (Is.cons ha (Is.nil ha) rfl) rfl) rfl) rfl) rfl) rfl) rfl)
                · refine F_know (i := 97) rfl (dec_f c3348) ?_
                  refine F_gval rfl rfl rfl rfl rfl rfl (O_move rfl rfl) ?_
                  refine F_gval rfl rfl rfl rfl rfl rfl (O_ne rfl rfl rfl) ?_
                  refine F_val rfl rfl rfl (O_pickF rfl rfl rfl) ?_
                  refine F_know (i := 100) rfl (dec_or_f (q := z3338 ≠ 0) c3348) ?_
                  exact F_grpE (fun a ha => Is.cons ha (Is.cons ha (Is.cons ha (Is.cons ha (Is.cons ha (Is.cons ha (Is.cons ha (Is.nil ha) rfl) rfl) rfl) rfl) rfl) rfl) rfl)
              · skip
                refine F_val rfl rfl rfl (O_move rfl rfl) ?_
                obtain ⟨b3355, Hb3355, H⟩ := of_bind H
                refine F_grpQ 5 [(106, .bool b3355), (0, .slice A_freq_0 l_freq_0.length c_freq_0), (1, .int .i64 limit_1), (7, .slice A1666 l1668.length c1667), (8, .slice A1669 l1671.length c1670), (11, .slice A3320 z3316.length c3321), (13, .slice A3341 z3337.length c3342)] ?_ (fun w3356 hw3357 => ?_)
                · rcases Decidable.em ((z3317 ≠ 0) ∨ (z3338 ≠ 0)) with c3359 | c3359
                  · refine F_know (i := 101) rfl (dec_t c3359) ?_
                    have H := of_pos Hb3355 c3359
                    refine F_gskip rfl rfl rfl rfl rfl rfl rfl ?_
                    refine F_gskip rfl rfl rfl rfl rfl rfl rfl ?_
                    refine F_gskip rfl rfl rfl rfl rfl rfl rfl ?_
                    refine F_gskip rfl rfl rfl rfl rfl rfl rfl ?_
                    refine F_val rfl rfl rfl (O_pickT rfl rfl rfl) ?_
                    refine F_know (i := 106) rfl (congrArg Value.bool (Option.some.inj H)) ?_
                    exact F_grpQE (Chg.refl NoB _) (fun a ha => Is.cons ha (Is.cons ha (Is.cons ha (Is.cons ha (Is.cons ha (Is.cons ha (Is.cons ha (Is.nil ha) rfl) rfl) rfl) rfl) rfl) rfl) rfl)
                  · refine F_know (i := 101) rfl (dec_f c3359) ?_
                    have H := of_neg Hb3355 c3359
                    refine F_gval rfl rfl rfl rfl rfl rfl (O_move rfl rfl) ?_
                    refine F_gval rfl rfl rfl rfl rfl rfl (O_move rfl rfl) ?_
                    obtain ⟨z3362, h3361, H⟩ := of_bind H
                    refine F_gqcall (v := .bool z3362) (xs := [.tmp 102, .tmp 103, .const (.int .i64 60)]) rfl rfl rfl rfl rfl rfl rfl Try.func25 nm25 rfl rfl ((valiselaw6_good.calls (HS3344.give [] rfl (Lent.rd HS3344 (Lent.own HS3344 (Lent.nil) (i := 4) rfl rfl ((HS3344.cells_own (i := 4) rfl).self)) (i := 0) rfl ((HS3344.cells_rd (i := 0) rfl).self))) hc_freq_0 (HS3344.own_capE (i := 4) rfl (by decide)) h3361).mono (fun e w hc => ?_)) (fun w3363 hw3364 => ?_)
                    · obtain ⟨rfl, h⟩ := hc
                      exact ⟨rfl, h.chg0⟩
                    have HS3365 := HS3344.keep hw3364
                    refine F_gval rfl rfl rfl rfl rfl rfl (O_notb rfl rfl) ?_
                    refine F_val rfl rfl rfl (O_pickF rfl rfl rfl) ?_
                    refine F_know (i := 106) rfl (congrArg Value.bool (Option.some.inj H)) ?_
                    exact F_grpQE ((Chg.refl NoB _).trans hw3364) (fun a ha => Is.cons ha (Is.cons ha (Is.cons ha (Is.cons ha (Is.cons ha (Is.cons ha (Is.cons ha (Is.nil ha) rfl) rfl) rfl) rfl) rfl) rfl) rfl)
                · have HS3358 := HS3344.keep hw3357
                  refine F_val rfl rfl rfl (O_move rfl rfl) ?_
                  obtain ⟨b3372, Hb3372, H⟩ := of_bind H
                  refine F_grpQ 6 [(113, .bool b3372), (1, .int .i64 limit_1), (7, .slice A1666 l1668.length c1667), (8, .slice A1669 l1671.length c1670), (11, .slice A3320 z3316.length c3321), (13, .slice A3341 z3337.length c3342)] ?_ (fun w3373 hw3374 => ?_)
                  · rcases Decidable.em (b3355 = true) with c3376 | c3376
                    · refine F_know (i := 107) rfl (congrArg Value.bool c3376) ?_
                      have H := of_pos Hb3372 c3376
                      refine F_gskip rfl rfl rfl rfl rfl rfl rfl ?_
                      refine F_gskip rfl rfl rfl rfl rfl rfl rfl ?_
                      refine F_gskip rfl rfl rfl rfl rfl rfl rfl ?_
                      refine F_gskip rfl rfl rfl rfl rfl rfl rfl ?_
                      refine F_gskip rfl rfl rfl rfl rfl rfl rfl ?_
                      refine F_val rfl rfl rfl (O_pickT rfl rfl rfl) ?_
                      refine F_know (i := 113) rfl (congrArg Value.bool (Option.some.inj H)) ?_
                      exact F_grpQE (Chg.refl NoB _) (fun a ha => Is.cons ha (Is.cons ha (Is.cons ha (Is.cons ha (Is.cons ha (Is.cons ha (Is.nil ha) rfl) rfl) rfl) rfl) rfl) rfl)
                    · refine F_know (i := 107) rfl (congrArg Value.bool (Bool.eq_false_iff.mpr c3376)) ?_
                      have H := of_neg Hb3372 c3376
                      refine F_gval rfl rfl rfl rfl rfl rfl (O_move rfl rfl) ?_
                      refine F_gval rfl rfl rfl rfl rfl rfl (O_move rfl rfl) ?_
                      refine F_gval rfl rfl rfl rfl rfl rfl (O_move rfl rfl) ?_
                      obtain ⟨z3379, h3378, H⟩ := of_bind H
                      refine F_gqcall (v := .bool z3379) (xs := [.tmp 108, .tmp 109, .tmp 110]) rfl rfl rfl rfl rfl rfl rfl Try.func25 nm25 rfl rfl ((valiselaw6_good.calls (HS3358.give [] rfl (Lent.rd HS3358 (Lent.own HS3358 (Lent.nil) (i := 5) rfl rfl ((HS3358.cells_own (i := 5) rfl).self)) (i := 0) rfl ((HS3358.cells_rd (i := 0) rfl).self))) hc_freq_0 (HS3358.own_capE (i := 5) rfl (by decide)) h3378).mono (fun e w hc => ?_)) (fun w3380 hw3381 => ?_)
                      · obtain ⟨rfl, h⟩ := hc
                        exact ⟨rfl, h.chg0⟩
                      have HS3382 := HS3358.keep hw3381
                      refine F_gval rfl rfl rfl rfl rfl rfl (O_notb rfl rfl) ?_
                      refine F_val rfl rfl rfl (O_pickF rfl rfl rfl) ?_
                      refine F_know (i := 113) rfl (congrArg Value.bool (Option.some.inj H)) ?_
                      exact F_grpQE ((Chg.refl NoB _).trans hw3381) (fun a ha => Is.cons ha (Is.cons ha (Is.cons ha (Is.cons ha (Is.cons ha (Is.cons ha (Is.nil ha) rfl) rfl) rfl) rfl) rfl) rfl)
                  · have HS3375 := HS3358.keep hw3374
                    refine F_nil ?_
                    refine L_cond rfl (fun c3383 => ?_) (fun c3383 => ?_)
                    · have H := of_pos H c3383
                      refine L_seq ?_
                      have HS3384 : Hp S0 w0 w3373 [.rd A_freq_0 (rowC (Eint .i64) l_freq_0), .rd A_spread_2 (rowC (Eint .i64) l_spread_2)] := HS3375.sel [0, 1] rfl
                      refine L_region ?_
                      refine F_val rfl rfl rfl (O_assign rfl rfl) ?_
                      refine F_nil ?_
                      refine L_ret (fun a ha => (post_ret1 ha rfl rfl ?_))
                      obtain rfl := Option.some.inj H
                      exact ⟨rfl, HS3384.sel [] rfl⟩
                    · have H := of_neg H (by rw [c3383]; exact Bool.false_ne_true)
                      refine L_skip ?_
                      refine L_seq ?_
                      refine L_region ?_
                      refine F_val rfl rfl rfl (O_move rfl rfl) ?_
                      obtain ⟨z3389, h3388, H⟩ := of_bind H
                      refine F_call (xs := [.tmp 115]) rfl rfl rfl rfl Try.func24 nm24 rfl rfl ((valiselaw6_copied.calls (HS3375.give [] rfl (Lent.own HS3375 (Lent.nil) (i := 2) rfl rfl ((HS3375.cells_own (i := 2) rfl).self))) (HS3375.own_capE (i := 2) rfl (by decide)) h3388).mono (fun e w hc => ?_))
                      obtain ⟨A3392, c3393, rfl, HSo⟩ := hc
                      refine ⟨.slice A3392 z3389.length c3393, rfl, ?_⟩
                      have HS3391 : Hp S0 w0 w [.rd A_freq_0 (rowC (Eint .i64) l_freq_0), .rd A_spread_2 (rowC (Eint .i64) l_spread_2), .own A1666 c1667 (rowC (Eint .i64) l1668) 3 (Eint .i64).sz, .own A1669 c1670 (rowC (Eint .i64) l1671) 3 (Eint .i64).sz, .own A3320 c3321 (rowC (Eint .i64) z3316) 3 (Eint .i64).sz, .own A3341 c3342 (rowC (Eint .i64) z3337) 3 (Eint .i64).sz, .own A3392 c3393 (rowC (Eint .i64) z3389) 3 (Eint .i64).sz] := (HS3375.back [] HSo rfl).sel [0, 1, 2, 3, 4, 5, 6] rfl
                      obtain ⟨⟨z3399, z3400⟩, h3398, H⟩ := of_bind H
                      refine F_call (xs := [.tmp 116]) rfl rfl rfl rfl Try.func20 nm20 rfl rfl ((build_Depths.calls (HS3391.give [] rfl (Lent.own HS3391 (Lent.nil) (i := 6) rfl rfl ((HS3391.cells_own (i := 6) rfl).self))) (HS3391.own_capE (i := 6) rfl (by decide)) h3398).mono (fun e w hc => ?_))
                      obtain ⟨A3403, c3404, rfl, HSo⟩ := hc
                      refine ⟨.tuple #[.slice A3403 z3399.length c3404, .int .i64 z3400], rfl, ?_⟩
                      have HS3402 : Hp S0 w0 w [.rd A_freq_0 (rowC (Eint .i64) l_freq_0), .rd A_spread_2 (rowC (Eint .i64) l_spread_2), .own A1666 c1667 (rowC (Eint .i64) l1668) 3 (Eint .i64).sz, .own A1669 c1670 (rowC (Eint .i64) l1671) 3 (Eint .i64).sz, .own A3320 c3321 (rowC (Eint .i64) z3316) 3 (Eint .i64).sz, .own A3341 c3342 (rowC (Eint .i64) z3337) 3 (Eint .i64).sz, .own A3392 c3393 (rowC (Eint .i64) z3389) 3 (Eint .i64).sz, .own A3403 c3404 (rowC (Eint .i64) z3399) 3 (Eint .i64).sz] := (HS3391.back [] HSo rfl).sel [0, 1, 2, 3, 4, 5, 6, 7] rfl
                      refine F_val rfl rfl rfl (O_move rfl rfl) ?_
                      refine F_val rfl rfl rfl (O_extract (v := .slice A3403 z3399.length c3404) rfl rfl rfl) ?_
                      refine F_val rfl rfl rfl (O_extract (v := .int .i64 z3400) rfl rfl rfl) ?_
                      refine F_val rfl rfl rfl (O_assign rfl rfl) ?_
                      refine F_val rfl rfl rfl (O_assign rfl rfl) ?_
                      refine F_nil ?_
                      refine L_seq ?_
                      refine L_region ?_
                      refine F_val rfl rfl rfl (O_move rfl rfl) ?_
                      obtain ⟨z3410, h3409, H⟩ := of_bind H
                      refine F_call (xs := [.tmp 121]) rfl rfl rfl rfl Try.func24 nm24 rfl rfl ((valiselaw6_copied.calls (HS3402.give [] rfl (Lent.own HS3402 (Lent.nil) (i := 2) rfl rfl ((HS3402.cells_own (i := 2) rfl).self))) (HS3402.own_capE (i := 2) rfl (by decide)) h3409).mono (fun e w hc => ?_))
                      obtain ⟨A3413, c3414, rfl, HSo⟩ := hc
                      refine ⟨.slice A3413 z3410.length c3414, rfl, ?_⟩
                      have HS3412 : Hp S0 w0 w [.rd A_freq_0 (rowC (Eint .i64) l_freq_0), .rd A_spread_2 (rowC (Eint .i64) l_spread_2), .own A1666 c1667 (rowC (Eint .i64) l1668) 3 (Eint .i64).sz, .own A1669 c1670 (rowC (Eint .i64) l1671) 3 (Eint .i64).sz, .own A3320 c3321 (rowC (Eint .i64) z3316) 3 (Eint .i64).sz, .own A3341 c3342 (rowC (Eint .i64) z3337) 3 (Eint .i64).sz, .own A3392 c3393 (rowC (Eint .i64) z3389) 3 (Eint .i64).sz, .own A3403 c3404 (rowC (Eint .i64) z3399) 3 (Eint .i64).sz, .own A3413 c3414 (rowC (Eint .i64) z3410) 3 (Eint .i64).sz] := (HS3402.back [] HSo rfl).sel [0, 1, 2, 3, 4, 5, 6, 7, 8] rfl
                      refine F_val rfl rfl rfl (O_move rfl rfl) ?_
                      obtain ⟨⟨z3420, z3421⟩, h3419, H⟩ := of_bind H
                      refine F_call (xs := [.tmp 122, .tmp 123]) rfl rfl rfl rfl Try.func28 nm28 rfl rfl ((build_Limited.calls (HS3412.give [] rfl (Lent.own HS3412 (Lent.nil) (i := 8) rfl rfl ((HS3412.cells_own (i := 8) rfl).self))) (HS3412.own_capE (i := 8) rfl (by decide)) h3419).mono (fun e w hc => ?_))
                      obtain ⟨A3424, c3425, rfl, HSo⟩ := hc
                      refine ⟨.tuple #[.slice A3424 z3420.length c3425, .int .i64 z3421], rfl, ?_⟩
                      have HS3423 : Hp S0 w0 w [.rd A_freq_0 (rowC (Eint .i64) l_freq_0), .rd A_spread_2 (rowC (Eint .i64) l_spread_2), .own A1666 c1667 (rowC (Eint .i64) l1668) 3 (Eint .i64).sz, .own A1669 c1670 (rowC (Eint .i64) l1671) 3 (Eint .i64).sz, .own A3320 c3321 (rowC (Eint .i64) z3316) 3 (Eint .i64).sz, .own A3341 c3342 (rowC (Eint .i64) z3337) 3 (Eint .i64).sz, .own A3392 c3393 (rowC (Eint .i64) z3389) 3 (Eint .i64).sz, .own A3403 c3404 (rowC (Eint .i64) z3399) 3 (Eint .i64).sz, .own A3413 c3414 (rowC (Eint .i64) z3410) 3 (Eint .i64).sz, .own A3424 c3425 (rowC (Eint .i64) z3420) 3 (Eint .i64).sz] := (HS3412.back [] HSo rfl).sel [0, 1, 2, 3, 4, 5, 6, 7, 8, 9] rfl
                      refine F_val rfl rfl rfl (O_move rfl rfl) ?_
                      refine F_val rfl rfl rfl (O_extract (v := .slice A3424 z3420.length c3425) rfl rfl rfl) ?_
                      refine F_val rfl rfl rfl (O_extract (v := .int .i64 z3421) rfl rfl rfl) ?_
                      refine F_val rfl rfl rfl (O_assign rfl rfl) ?_
                      refine F_val rfl rfl rfl (O_assign rfl rfl) ?_
                      refine F_nil ?_
                      refine L_seq ?_
                      refine L_seq ?_
                      have HS3427 : Hp S0 w0 w [.rd A_freq_0 (rowC (Eint .i64) l_freq_0), .rd A_spread_2 (rowC (Eint .i64) l_spread_2), .own A1666 c1667 (rowC (Eint .i64) l1668) 3 (Eint .i64).sz, .own A1669 c1670 (rowC (Eint .i64) l1671) 3 (Eint .i64).sz, .own A3320 c3321 (rowC (Eint .i64) z3316) 3 (Eint .i64).sz, .own A3341 c3342 (rowC (Eint .i64) z3337) 3 (Eint .i64).sz, .own A3403 c3404 (rowC (Eint .i64) z3399) 3 (Eint .i64).sz, .own A3424 c3425 (rowC (Eint .i64) z3420) 3 (Eint .i64).sz] := HS3423.sel [0, 1, 2, 3, 4, 5, 7, 9] rfl
                      refine L_region ?_
                      refine F_val rfl rfl rfl (O_move rfl rfl) ?_
                      refine F_val rfl rfl rfl (O_ne rfl rfl rfl) ?_
                      refine F_val rfl rfl rfl (O_move rfl rfl) ?_
                      refine F_grp 3 [(132, .bool (decide ((z3400 ≠ 0) ∨ (z3421 ≠ 0)))), (7, .slice A1666 l1668.length c1667), (8, .slice A1669 l1671.length c1670), (11, .slice A3320 z3316.length c3321), (13, .slice A3341 z3337.length c3342), (15, .slice A3403 z3399.length c3404), (17, .slice A3424 z3420.length c3425)] ?_ ?_
                      · rcases Decidable.em (z3400 ≠ 0) with c3431 | c3431
                        · refine F_know (i := 129) rfl (dec_t c3431) ?_
                          refine F_gskip rfl rfl rfl rfl rfl rfl rfl ?_
                          refine F_gskip rfl rfl rfl rfl rfl rfl rfl ?_
                          refine F_val rfl rfl rfl (O_pickT rfl rfl rfl) ?_
                          refine F_know (i := 132) rfl (dec_or_t (q := z3421 ≠ 0) c3431) ?_
                          exact F_grpE (fun a ha => Is.cons ha (Is.cons ha (Is.cons ha (Is.cons ha (Is.cons ha (Is.cons ha (Is.cons ha (Is.nil ha) rfl) rfl) rfl) rfl) rfl) rfl) rfl)
                        · refine F_know (i := 129) rfl (dec_f c3431) ?_
                          refine F_gval rfl rfl rfl rfl rfl rfl (O_move rfl rfl) ?_
                          refine F_gval rfl rfl rfl rfl rfl rfl (O_ne rfl rfl rfl) ?_
                          refine F_val rfl rfl rfl (O_pickF rfl rfl rfl) ?_
                          refine F_know (i := 132) rfl (dec_or_f (q := z3421 ≠ 0) c3431) ?_
                          exact F_grpE (fun a ha => Is.cons ha (Is.cons ha (Is.cons ha (Is.cons ha (Is.cons ha (Is.cons ha (Is.cons ha (Is.nil ha) rfl) rfl) rfl) rfl) rfl) rfl) rfl)
                      · skip
                        refine F_val rfl rfl rfl (O_move rfl rfl) ?_
                        refine F_grp 6 [(139, .bool (decide (((z3400 ≠ 0) ∨ (z3421 ≠ 0)) ∨ ((z3399.length : Int) ≠ (l1668.length : Int))))), (7, .slice A1666 l1668.length c1667), (8, .slice A1669 l1671.length c1670), (11, .slice A3320 z3316.length c3321), (13, .slice A3341 z3337.length c3342), (15, .slice A3403 z3399.length c3404), (17, .slice A3424 z3420.length c3425)] ?_ ?_
                        · rcases Decidable.em ((z3400 ≠ 0) ∨ (z3421 ≠ 0)) with c3435 | c3435
                          · refine F_know (i := 133) rfl (dec_t c3435) ?_
                            refine F_gskip rfl rfl rfl rfl rfl rfl rfl ?_
                            refine F_gskip rfl rfl rfl rfl rfl rfl rfl ?_
                            refine F_gskip rfl rfl rfl rfl rfl rfl rfl ?_
                            refine F_gskip rfl rfl rfl rfl rfl rfl rfl ?_
                            refine F_gskip rfl rfl rfl rfl rfl rfl rfl ?_
                            refine F_val rfl rfl rfl (O_pickT rfl rfl rfl) ?_
                            refine F_know (i := 139) rfl (dec_or_t (q := (z3399.length : Int) ≠ (l1668.length : Int)) c3435) ?_
                            exact F_grpE (fun a ha => Is.cons ha (Is.cons ha (Is.cons ha (Is.cons ha (Is.cons ha (Is.cons ha (Is.cons ha (Is.nil ha) rfl) rfl) rfl) rfl) rfl) rfl) rfl)
                          · refine F_know (i := 133) rfl (dec_f c3435) ?_
                            refine F_gval rfl rfl rfl rfl rfl rfl (O_move rfl rfl) ?_
                            refine F_gval rfl rfl rfl rfl rfl rfl (O_len rfl rfl Try.underlying22) ?_
                            refine F_gval rfl rfl rfl rfl rfl rfl (O_move rfl rfl) ?_
                            refine F_gval rfl rfl rfl rfl rfl rfl (O_len rfl rfl Try.underlying22) ?_
                            refine F_gval rfl rfl rfl rfl rfl rfl (O_ne rfl rfl rfl) ?_
                            refine F_val rfl rfl rfl (O_pickF rfl rfl rfl) ?_
                            refine F_know (i := 139) rfl (dec_or_f (q := (z3399.length : Int) ≠ (l1668.length : Int)) c3435) ?_
                            exact F_grpE (fun a ha => Is.cons ha (Is.cons ha (Is.cons ha (Is.cons ha (Is.cons ha (Is.cons ha (Is.cons ha (Is.nil ha) rfl) rfl) rfl) rfl) rfl) rfl) rfl)
                        · skip
                          refine F_val rfl rfl rfl (O_move rfl rfl) ?_
                          refine F_grp 6 [(146, .bool (decide ((((z3400 ≠ 0) ∨ (z3421 ≠ 0)) ∨ ((z3399.length : Int) ≠ (l1668.length : Int))) ∨ ((z3420.length : Int) ≠ (l1668.length : Int))))), (7, .slice A1666 l1668.length c1667), (8, .slice A1669 l1671.length c1670), (11, .slice A3320 z3316.length c3321), (13, .slice A3341 z3337.length c3342), (15, .slice A3403 z3399.length c3404), (17, .slice A3424 z3420.length c3425)] ?_ ?_
                          · rcases Decidable.em (((z3400 ≠ 0) ∨ (z3421 ≠ 0)) ∨ ((z3399.length : Int) ≠ (l1668.length : Int))) with c3439 | c3439
                            · refine F_know (i := 140) rfl (dec_t c3439) ?_
                              refine F_gskip rfl rfl rfl rfl rfl rfl rfl ?_
                              refine F_gskip rfl rfl rfl rfl rfl rfl rfl ?_
                              refine F_gskip rfl rfl rfl rfl rfl rfl rfl ?_
                              refine F_gskip rfl rfl rfl rfl rfl rfl rfl ?_
                              refine F_gskip rfl rfl rfl rfl rfl rfl rfl ?_
                              refine F_val rfl rfl rfl (O_pickT rfl rfl rfl) ?_
                              refine F_know (i := 146) rfl (dec_or_t (q := (z3420.length : Int) ≠ (l1668.length : Int)) c3439) ?_
                              exact F_grpE (fun a ha => Is.cons ha (Is.cons ha (Is.cons ha (Is.cons ha (Is.cons ha (Is.cons ha (Is.cons ha (Is.nil ha) rfl) rfl) rfl) rfl) rfl) rfl) rfl)
                            · refine F_know (i := 140) rfl (dec_f c3439) ?_
                              refine F_gval rfl rfl rfl rfl rfl rfl (O_move rfl rfl) ?_
                              refine F_gval rfl rfl rfl rfl rfl rfl (O_len rfl rfl Try.underlying22) ?_
                              refine F_gval rfl rfl rfl rfl rfl rfl (O_move rfl rfl) ?_
                              refine F_gval rfl rfl rfl rfl rfl rfl (O_len rfl rfl Try.underlying22) ?_
                              refine F_gval rfl rfl rfl rfl rfl rfl (O_ne rfl rfl rfl) ?_
                              refine F_val rfl rfl rfl (O_pickF rfl rfl rfl) ?_
                              refine F_know (i := 146) rfl (dec_or_f (q := (z3420.length : Int) ≠ (l1668.length : Int)) c3439) ?_
                              exact F_grpE (fun a ha => Is.cons ha (Is.cons ha (Is.cons ha (Is.cons ha (Is.cons ha (Is.cons ha (Is.cons ha (Is.nil ha) rfl) rfl) rfl) rfl) rfl) rfl) rfl)
                          · skip
                            refine F_nil ?_
                            refine L_condP rfl (fun c3440 => ?_) (fun c3440 => ?_)
                            · have H := of_pos H c3440
                              refine L_seq ?_
                              have HS3441 : Hp S0 w0 w [.rd A_freq_0 (rowC (Eint .i64) l_freq_0), .rd A_spread_2 (rowC (Eint .i64) l_spread_2)] := HS3427.sel [0, 1] rfl
                              refine L_region ?_
                              refine F_val rfl rfl rfl (O_assign rfl rfl) ?_
                              refine F_nil ?_
                              refine L_ret (fun a ha => (post_ret1 ha rfl rfl ?_))
                              obtain rfl := Option.some.inj H
                              exact ⟨rfl, HS3441.sel [] rfl⟩
                            · have H := of_neg H c3440
                              refine L_skip ?_
                              refine L_seq ?_
                              refine L_seq ?_
                              refine L_region ?_
                              refine F_val rfl rfl rfl (O_assign rfl rfl) ?_
                              refine F_nil ?_
                              obtain ⟨yj3442, Hyj3442, H⟩ := of_bind H
                              refine L_join (fun a w => yj3442 = Sum.inr () ∧ Is Try.f11.ntmps a [] ∧ Hp S0 w0 w [.rd A_freq_0 (rowC (Eint .i64) l_freq_0), .rd A_spread_2 (rowC (Eint .i64) l_spread_2)]) (fun Qj3442 hNj3442 hOj3442 => ?_) (fun a w hR => ?_)
                              · have HOj3442 := H
                                have H := Hyj3442
                                refine L_blk (fun Qb3684 hNb3684 hXb3684 hOb3684 => ?_)
                                refine L_lp (fun k a w => ∃ (i_3845 : Int), Is Try.f11.ntmps a [(7, .slice A1666 l1668.length c1667), (8, .slice A1669 l1671.length c1670), (11, .slice A3320 z3316.length c3321), (13, .slice A3341 z3337.length c3342), (15, .slice A3403 z3399.length c3404), (17, .slice A3424 z3420.length c3425), (19, .int .i64 i_3845)] ∧ Hp S0 w0 w [.rd A_freq_0 (rowC (Eint .i64) l_freq_0), .rd A_spread_2 (rowC (Eint .i64) l_spread_2), .own A1666 c1667 (rowC (Eint .i64) l1668) 3 (Eint .i64).sz, .own A1669 c1670 (rowC (Eint .i64) l1671) 3 (Eint .i64).sz, .own A3320 c3321 (rowC (Eint .i64) z3316) 3 (Eint .i64).sz, .own A3341 c3342 (rowC (Eint .i64) z3337) 3 (Eint .i64).sz, .own A3403 c3404 (rowC (Eint .i64) z3399) 3 (Eint .i64).sz, .own A3424 c3425 (rowC (Eint .i64) z3420) 3 (Eint .i64).sz] ∧ valiselaw6_BuildSpread.l27 k i_3845 l1668 l1671 z3316 z3337 z3399 z3420 = some yj3442) FU (fun a ha => ⟨_, Is.cons ha (Is.cons ha (Is.cons ha (Is.cons ha (Is.cons ha (Is.cons ha (Is.cons ha (Is.nil ha) rfl) rfl) rfl) rfl) rfl) rfl) rfl, HS3427.sel [0, 1, 2, 3, 4, 5, 6, 7] rfl, H⟩) (fun kp3844 a w3846 hI Qp3844 hNp3844 hOp3844 => ?_)
                                obtain ⟨i_3845, ha, HS3847, HAp3844⟩ := hI
                                cases kp3844 with
                                | zero => cases (show (none : Option _) = some _ from HAp3844)
                                | succ kp3844 =>
                                  have H := (valiselaw6_BuildSpread.l27.eq_2 ..).symm.trans HAp3844
                                  refine wpLF_app ?_ ha
                                  refine L_seq ?_
                                  refine L_seq ?_
                                  refine L_region ?_
                                  refine F_val rfl rfl rfl (O_move rfl rfl) ?_
                                  refine F_val rfl rfl rfl (O_move rfl rfl) ?_
                                  refine F_val rfl rfl rfl (O_len rfl rfl Try.underlying22) ?_
                                  refine F_val rfl rfl rfl (O_lt rfl rfl rfl) ?_
                                  refine F_nil ?_
                                  refine L_condP rfl (fun c3848 => ?_) (fun c3848 => ?_)
                                  · have H := of_pos H c3848
                                    refine L_skip ?_
                                    refine L_seq ?_
                                    refine L_blk (fun Q3849 hN3849 hX3849 hO3849 => ?_)
                                    refine L_seq ?_
                                    refine L_seq ?_
                                    refine L_region ?_
                                    refine F_val rfl rfl rfl (O_move rfl rfl) ?_
                                    refine F_val rfl rfl rfl (O_move rfl rfl) ?_
                                    obtain ⟨⟨g3850, g3851⟩, H⟩ := of_gd H
                                    refine F_val rfl rfl rfl (O_idx rfl rfl rfl Try.underlying22 size3 g3850 g3851 (Cells.isA (HS3847.cells_own (i := 3) rfl) (rowC_ne (E := (Eint .i64)) g3850 g3851 (by decide)))) ?_
                                    refine F_val rfl rfl rfl (O_loadC rfl rfl flat3 (HS3847.cells_own (i := 3) rfl) (int_cell g3850 g3851)) ?_
                                    refine F_val rfl rfl rfl (O_lt rfl rfl rfl) ?_
                                    refine F_val rfl rfl rfl (O_move rfl rfl) ?_
                                    obtain ⟨b3863, Hb3863, H⟩ := of_bind H
                                    refine F_grp 13 [(171, .bool b3863), (7, .slice A1666 l1668.length c1667), (8, .slice A1669 l1671.length c1670), (11, .slice A3320 z3316.length c3321), (13, .slice A3341 z3337.length c3342), (15, .slice A3403 z3399.length c3404), (17, .slice A3424 z3420.length c3425), (19, .int .i64 i_3845)] ?_ ?_
                                    · rcases Decidable.em (rd l1671 i_3845 < 0) with c3867 | c3867
                                      · refine F_know (i := 158) rfl (dec_t c3867) ?_
                                        have H := of_pos Hb3863 c3867
                                        refine F_gval rfl rfl rfl rfl rfl rfl (O_move rfl rfl) ?_
                                        refine F_gval rfl rfl rfl rfl rfl rfl (O_move rfl rfl) ?_
                                        obtain ⟨⟨g3868, g3869⟩, H⟩ := of_gd H
                                        refine F_gval rfl rfl rfl rfl rfl rfl (O_idx rfl rfl rfl Try.underlying22 size3 g3868 g3869 (Cells.isA (HS3847.cells_own (i := 6) rfl) (rowC_ne (E := (Eint .i64)) g3868 g3869 (by decide)))) ?_
                                        refine F_gval rfl rfl rfl rfl rfl rfl (O_loadC rfl rfl flat3 (HS3847.cells_own (i := 6) rfl) (int_cell g3868 g3869)) ?_
                                        refine F_gval rfl rfl rfl rfl rfl rfl (O_ne rfl rfl rfl) ?_
                                        refine F_gval rfl rfl rfl rfl rfl rfl (O_move rfl rfl) ?_
                                        obtain ⟨b3872, Hb3872, H⟩ := of_bind H
                                        refine F_grp 6 [(170, .bool b3872), (7, .slice A1666 l1668.length c1667), (8, .slice A1669 l1671.length c1670), (11, .slice A3320 z3316.length c3321), (13, .slice A3341 z3337.length c3342), (15, .slice A3403 z3399.length c3404), (17, .slice A3424 z3420.length c3425), (19, .int .i64 i_3845), (158, .bool true), (159, .slice A3403 z3399.length c3404), (160, .int .i64 i_3845), (162, .int .i64 (rd z3399 i_3845)), (163, .bool (decide (rd z3399 i_3845 ≠ 0))), (164, .bool (decide (rd z3399 i_3845 ≠ 0)))] ?_ ?_
                                        · rcases Decidable.em (rd z3399 i_3845 ≠ 0) with c3876 | c3876
                                          · refine F_know (i := 164) rfl (dec_t c3876) ?_
                                            have H := of_pos Hb3872 c3876
                                            refine F_gskip rfl rfl rfl rfl rfl rfl rfl ?_
                                            refine F_gskip rfl rfl rfl rfl rfl rfl rfl ?_
                                            refine F_gskip rfl rfl rfl rfl rfl rfl rfl ?_
                                            refine F_gskip rfl rfl rfl rfl rfl rfl rfl ?_
                                            refine F_gskip rfl rfl rfl rfl rfl rfl rfl ?_
                                            refine F_gval rfl rfl rfl rfl rfl rfl (O_pickT rfl rfl rfl) ?_
                                            refine F_know (i := 170) rfl (congrArg Value.bool (Option.some.inj H)) ?_
                                            exact F_grpE (fun a ha => Is.cons ha (Is.cons ha (Is.cons ha (Is.cons ha (Is.cons ha (Is.cons ha (Is.cons ha (Is.cons ha (Is.cons ha (Is.cons ha (Is.cons ha (Is.cons ha (Is.cons ha (Is.cons (i := 164) (v := .bool (decide (rd z3399 i_3845 ≠ 0))) ha (Is.nil ha) (congrArg some (dec_t c3876).symm)) rfl) rfl) rfl) rfl) rfl) rfl) rfl) rfl) rfl) rfl) rfl) rfl) rfl)
                                          · refine F_know (i := 164) rfl (dec_f c3876) ?_
                                            have H := of_neg Hb3872 c3876
                                            refine F_gval rfl rfl rfl rfl rfl rfl (O_move rfl rfl) ?_
                                            refine F_gval rfl rfl rfl rfl rfl rfl (O_move rfl rfl) ?_
                                            obtain ⟨⟨g3877, g3878⟩, H⟩ := of_gd H
                                            refine F_gval rfl rfl rfl rfl rfl rfl (O_idx rfl rfl rfl Try.underlying22 size3 g3877 g3878 (Cells.isA (HS3847.cells_own (i := 7) rfl) (rowC_ne (E := (Eint .i64)) g3877 g3878 (by decide)))) ?_
                                            refine F_gval rfl rfl rfl rfl rfl rfl (O_loadC rfl rfl flat3 (HS3847.cells_own (i := 7) rfl) (int_cell g3877 g3878)) ?_
                                            refine F_gval rfl rfl rfl rfl rfl rfl (O_ne rfl rfl rfl) ?_
                                            refine F_gval rfl rfl rfl rfl rfl rfl (O_pickF rfl rfl rfl) ?_
                                            refine F_know (i := 170) rfl (congrArg Value.bool (Option.some.inj H)) ?_
                                            exact F_grpE (fun a ha => Is.cons ha (Is.cons ha (Is.cons ha (Is.cons ha (Is.cons ha (Is.cons ha (Is.cons ha (Is.cons ha (Is.cons ha (Is.cons ha (Is.cons ha (Is.cons ha (Is.cons ha (Is.cons (i := 164) (v := .bool (decide (rd z3399 i_3845 ≠ 0))) ha (Is.nil ha) (congrArg some (dec_f c3876).symm)) rfl) rfl) rfl) rfl) rfl) rfl) rfl) rfl) rfl) rfl) rfl) rfl) rfl)
                                        · skip
                                          refine F_val rfl rfl rfl (O_pickT rfl rfl rfl) ?_
                                          refine F_know (i := 171) rfl (congrArg Value.bool (Option.some.inj H)) ?_
                                          exact F_grpE (fun a ha => Is.cons ha (Is.cons ha (Is.cons ha (Is.cons ha (Is.cons ha (Is.cons ha (Is.cons ha (Is.cons ha (Is.nil ha) rfl) rfl) rfl) rfl) rfl) rfl) rfl) rfl)
                                      · refine F_know (i := 158) rfl (dec_f c3867) ?_
                                        have H := of_neg Hb3863 c3867
                                        refine F_gskip rfl rfl rfl rfl rfl rfl rfl ?_
                                        refine F_gskip rfl rfl rfl rfl rfl rfl rfl ?_
                                        refine F_gskip rfl rfl rfl rfl rfl rfl rfl ?_
                                        refine F_gskip rfl rfl rfl rfl rfl rfl rfl ?_
                                        refine F_gskip rfl rfl rfl rfl rfl rfl rfl ?_
                                        refine F_gskip rfl rfl rfl rfl rfl rfl rfl ?_
                                        refine F_gskip rfl rfl rfl rfl rfl rfl rfl ?_
                                        refine F_gskip rfl rfl rfl rfl rfl rfl rfl ?_
                                        refine F_gskip rfl rfl rfl rfl rfl rfl rfl ?_
                                        refine F_gskip rfl rfl rfl rfl rfl rfl rfl ?_
                                        refine F_gskip rfl rfl rfl rfl rfl rfl rfl ?_
                                        refine F_gskip rfl rfl rfl rfl rfl rfl rfl ?_
                                        refine F_val rfl rfl rfl (O_pickF rfl rfl rfl) ?_
                                        refine F_know (i := 171) rfl (congrArg Value.bool (Option.some.inj H)) ?_
                                        exact F_grpE (fun a ha => Is.cons ha (Is.cons ha (Is.cons ha (Is.cons ha (Is.cons ha (Is.cons ha (Is.cons ha (Is.cons ha (Is.nil ha) rfl) rfl) rfl) rfl) rfl) rfl) rfl) rfl)
                                    · skip
                                      refine F_nil ?_
                                      refine L_cond rfl (fun c3879 => ?_) (fun c3879 => ?_)
                                      · have H := of_pos H c3879
                                        refine L_seq ?_
                                        refine L_region ?_
                                        refine F_val rfl rfl rfl (O_assign rfl rfl) ?_
                                        refine F_nil ?_
                                        refine L_ret (fun a ha => (hO3849 .ret a _ rfl (hOp3844 .ret a _ rfl (hOb3684 .ret a _ rfl (hOj3442 .ret a _ rfl (post_ret1 ha rfl rfl ?_))))))
                                        obtain rfl := Option.some.inj H
                                        obtain rfl := Option.some.inj (show (some false : Option (Bool)) = some _ from HOj3442)
                                        exact ⟨rfl, HS3847.sel [] rfl⟩
                                      · have H := of_neg H (by rw [c3879]; exact Bool.false_ne_true)
                                        refine L_skip ?_
                                        refine L_seq ?_
                                        refine L_quiet mix (by kernel_rfl) ?_
                                        refine Q_val rfl rfl rfl (fun wq hq => O_move rfl rfl) ?_
                                        refine Q_val rfl rfl rfl (fun wq hq => O_move rfl rfl) ?_
                                        refine Q_val rfl rfl rfl (fun wq hq => O_idx rfl rfl rfl Try.underlying22 size3 g3850 g3851 (Cells.isA ((HS3847.keep hq).cells_own (i := 3) rfl) (rowC_ne (E := (Eint .i64)) g3850 g3851 (by decide)))) ?_
                                        refine Q_val rfl rfl rfl (fun wq hq => O_loadC rfl rfl flat3 ((HS3847.keep hq).cells_own (i := 3) rfl) (int_cell g3850 g3851)) ?_
                                        refine Q_val rfl rfl rfl (fun wq hq => O_ge rfl rfl rfl) ?_
                                        refine Q_val rfl rfl rfl (fun wq hq => O_move rfl rfl) ?_
                                        obtain ⟨b3897, Hb3897, H⟩ := of_bind H
                                        refine Q_grp 27 [(204, .bool b3897), (7, .slice A1666 l1668.length c1667), (8, .slice A1669 l1671.length c1670), (11, .slice A3320 z3316.length c3321), (13, .slice A3341 z3337.length c3342), (15, .slice A3403 z3399.length c3404), (17, .slice A3424 z3420.length c3425), (19, .int .i64 i_3845)] ?_ ?_
                                        · rcases Decidable.em (0 ≤ rd l1671 i_3845) with c3901 | c3901
                                          · refine Q_know (i := 177) rfl (dec_t c3901) ?_
                                            have H := of_pos Hb3897 c3901
                                            refine Q_gval rfl rfl rfl rfl rfl rfl (fun wq hq => O_move rfl rfl) ?_
                                            refine Q_gval rfl rfl rfl rfl rfl rfl (fun wq hq => O_move rfl rfl) ?_
                                            obtain ⟨⟨g3902, g3903⟩, H⟩ := of_gd H
                                            refine Q_gval rfl rfl rfl rfl rfl rfl (fun wq hq => O_idx rfl rfl rfl Try.underlying22 size3 g3902 g3903 (Cells.isA ((HS3847.keep hq).cells_own (i := 6) rfl) (rowC_ne (E := (Eint .i64)) g3902 g3903 (by decide)))) ?_
                                            refine Q_gval rfl rfl rfl rfl rfl rfl (fun wq hq => O_loadC rfl rfl flat3 ((HS3847.keep hq).cells_own (i := 6) rfl) (int_cell g3902 g3903)) ?_
                                            refine Q_gval rfl rfl rfl rfl rfl rfl (fun wq hq => O_move rfl rfl) ?_
                                            refine Q_gval rfl rfl rfl rfl rfl rfl (fun wq hq => O_move rfl rfl) ?_
                                            refine Q_gval rfl rfl rfl rfl rfl rfl (fun wq hq => O_move rfl rfl) ?_
                                            refine Q_gval rfl rfl rfl rfl rfl rfl (fun wq hq => O_idx rfl rfl rfl Try.underlying22 size3 g3850 g3851 (Cells.isA ((HS3847.keep hq).cells_own (i := 3) rfl) (rowC_ne (E := (Eint .i64)) g3850 g3851 (by decide)))) ?_
                                            refine Q_gval rfl rfl rfl rfl rfl rfl (fun wq hq => O_loadC rfl rfl flat3 ((HS3847.keep hq).cells_own (i := 3) rfl) (int_cell g3850 g3851)) ?_
                                            obtain ⟨⟨g3904, g3905⟩, H⟩ := of_gd H
                                            refine Q_gval rfl rfl rfl rfl rfl rfl (fun wq hq => O_idx rfl rfl rfl Try.underlying22 size3 g3904 g3905 (Cells.isA ((HS3847.keep hq).cells_own (i := 4) rfl) (rowC_ne (E := (Eint .i64)) g3904 g3905 (by decide)))) ?_
                                            refine Q_gval rfl rfl rfl rfl rfl rfl (fun wq hq => O_loadC rfl rfl flat3 ((HS3847.keep hq).cells_own (i := 4) rfl) (int_cell g3904 g3905)) ?_
                                            refine Q_gval rfl rfl rfl rfl rfl rfl (fun wq hq => O_ne rfl rfl rfl) ?_
                                            refine Q_gval rfl rfl rfl rfl rfl rfl (fun wq hq => O_move rfl rfl) ?_
                                            obtain ⟨b3910, Hb3910, H⟩ := of_bind H
                                            refine Q_grp 13 [(203, .bool b3910), (7, .slice A1666 l1668.length c1667), (8, .slice A1669 l1671.length c1670), (11, .slice A3320 z3316.length c3321), (13, .slice A3341 z3337.length c3342), (15, .slice A3403 z3399.length c3404), (17, .slice A3424 z3420.length c3425), (19, .int .i64 i_3845), (177, .bool true), (178, .slice A3403 z3399.length c3404), (179, .int .i64 i_3845), (181, .int .i64 (rd z3399 i_3845)), (182, .slice A3320 z3316.length c3321), (183, .slice A1669 l1671.length c1670), (184, .int .i64 i_3845), (186, .int .i64 (rd l1671 i_3845)), (188, .int .i64 (rd z3316 (rd l1671 i_3845))), (189, .bool (decide (rd z3399 i_3845 ≠ rd z3316 (rd l1671 i_3845)))), (190, .bool (decide (rd z3399 i_3845 ≠ rd z3316 (rd l1671 i_3845))))] ?_ ?_
                                            · rcases Decidable.em (rd z3399 i_3845 ≠ rd z3316 (rd l1671 i_3845)) with c3914 | c3914
                                              · refine Q_know (i := 190) rfl (dec_t c3914) ?_
                                                have H := of_pos Hb3910 c3914
                                                refine Q_gskip rfl rfl rfl rfl rfl rfl rfl ?_
                                                refine Q_gskip rfl rfl rfl rfl rfl rfl rfl ?_
                                                refine Q_gskip rfl rfl rfl rfl rfl rfl rfl ?_
                                                refine Q_gskip rfl rfl rfl rfl rfl rfl rfl ?_
                                                refine Q_gskip rfl rfl rfl rfl rfl rfl rfl ?_
                                                refine Q_gskip rfl rfl rfl rfl rfl rfl rfl ?_
                                                refine Q_gskip rfl rfl rfl rfl rfl rfl rfl ?_
                                                refine Q_gskip rfl rfl rfl rfl rfl rfl rfl ?_
                                                refine Q_gskip rfl rfl rfl rfl rfl rfl rfl ?_
                                                refine Q_gskip rfl rfl rfl rfl rfl rfl rfl ?_
                                                refine Q_gskip rfl rfl rfl rfl rfl rfl rfl ?_
                                                refine Q_gskip rfl rfl rfl rfl rfl rfl rfl ?_
                                                refine Q_gval rfl rfl rfl rfl rfl rfl (fun wq hq => O_pickT rfl rfl rfl) ?_
                                                refine Q_know (i := 203) rfl (congrArg Value.bool (Option.some.inj H)) ?_
                                                exact Q_grpE (fun a ha => Is.cons ha (Is.cons ha (Is.cons ha (Is.cons ha (Is.cons ha (Is.cons ha (Is.cons ha (Is.cons ha (Is.cons ha (Is.cons ha (Is.cons ha (Is.cons ha (Is.cons ha (Is.cons ha (Is.cons ha (Is.cons ha (Is.cons ha (Is.cons ha (Is.cons (i := 190) (v := .bool (decide (rd z3399 i_3845 ≠ rd z3316 (rd l1671 i_3845)))) ha (Is.nil ha) (congrArg some (dec_t c3914).symm)) rfl) rfl) rfl) rfl) rfl) rfl) rfl) rfl) rfl) rfl) rfl) rfl) rfl) rfl) rfl) rfl) rfl) rfl)
                                              · refine Q_know (i := 190) rfl (dec_f c3914) ?_
                                                have H := of_neg Hb3910 c3914
                                                refine Q_gval rfl rfl rfl rfl rfl rfl (fun wq hq => O_move rfl rfl) ?_
                                                refine Q_gval rfl rfl rfl rfl rfl rfl (fun wq hq => O_move rfl rfl) ?_
                                                obtain ⟨⟨g3915, g3916⟩, H⟩ := of_gd H
                                                refine Q_gval rfl rfl rfl rfl rfl rfl (fun wq hq => O_idx rfl rfl rfl Try.underlying22 size3 g3915 g3916 (Cells.isA ((HS3847.keep hq).cells_own (i := 7) rfl) (rowC_ne (E := (Eint .i64)) g3915 g3916 (by decide)))) ?_
                                                refine Q_gval rfl rfl rfl rfl rfl rfl (fun wq hq => O_loadC rfl rfl flat3 ((HS3847.keep hq).cells_own (i := 7) rfl) (int_cell g3915 g3916)) ?_
                                                refine Q_gval rfl rfl rfl rfl rfl rfl (fun wq hq => O_move rfl rfl) ?_
                                                refine Q_gval rfl rfl rfl rfl rfl rfl (fun wq hq => O_move rfl rfl) ?_
                                                refine Q_gval rfl rfl rfl rfl rfl rfl (fun wq hq => O_move rfl rfl) ?_
                                                refine Q_gval rfl rfl rfl rfl rfl rfl (fun wq hq => O_idx rfl rfl rfl Try.underlying22 size3 g3850 g3851 (Cells.isA ((HS3847.keep hq).cells_own (i := 3) rfl) (rowC_ne (E := (Eint .i64)) g3850 g3851 (by decide)))) ?_
                                                refine Q_gval rfl rfl rfl rfl rfl rfl (fun wq hq => O_loadC rfl rfl flat3 ((HS3847.keep hq).cells_own (i := 3) rfl) (int_cell g3850 g3851)) ?_
                                                obtain ⟨⟨g3917, g3918⟩, H⟩ := of_gd H
                                                refine Q_gval rfl rfl rfl rfl rfl rfl (fun wq hq => O_idx rfl rfl rfl Try.underlying22 size3 g3917 g3918 (Cells.isA ((HS3847.keep hq).cells_own (i := 5) rfl) (rowC_ne (E := (Eint .i64)) g3917 g3918 (by decide)))) ?_
                                                refine Q_gval rfl rfl rfl rfl rfl rfl (fun wq hq => O_loadC rfl rfl flat3 ((HS3847.keep hq).cells_own (i := 5) rfl) (int_cell g3917 g3918)) ?_
                                                refine Q_gval rfl rfl rfl rfl rfl rfl (fun wq hq => O_ne rfl rfl rfl) ?_
                                                refine Q_gval rfl rfl rfl rfl rfl rfl (fun wq hq => O_pickF rfl rfl rfl) ?_
                                                refine Q_know (i := 203) rfl (congrArg Value.bool (Option.some.inj H)) ?_
                                                exact Q_grpE (fun a ha => Is.cons ha (Is.cons ha (Is.cons ha (Is.cons ha (Is.cons ha (Is.cons ha (Is.cons ha (Is.cons ha (Is.cons ha (Is.cons ha (Is.cons ha (Is.cons ha (Is.cons ha (Is.cons ha (Is.cons ha (Is.cons ha (Is.cons ha (Is.cons ha (Is.cons (i := 190) (v := .bool (decide (rd z3399 i_3845 ≠ rd z3316 (rd l1671 i_3845)))) ha (Is.nil ha) (congrArg some (dec_f c3914).symm)) rfl) rfl) rfl) rfl) rfl) rfl) rfl) rfl) rfl) rfl) rfl) rfl) rfl) rfl) rfl) rfl) rfl) rfl)
                                            · skip
                                              refine Q_val rfl rfl rfl (fun wq hq => O_pickT rfl rfl rfl) ?_
                                              refine Q_know (i := 204) rfl (congrArg Value.bool (Option.some.inj H)) ?_
                                              exact Q_grpE (fun a ha => Is.cons ha (Is.cons ha (Is.cons ha (Is.cons ha (Is.cons ha (Is.cons ha (Is.cons ha (Is.cons ha (Is.nil ha) rfl) rfl) rfl) rfl) rfl) rfl) rfl) rfl)
                                          · refine Q_know (i := 177) rfl (dec_f c3901) ?_
                                            have H := of_neg Hb3897 c3901
                                            refine Q_gskip rfl rfl rfl rfl rfl rfl rfl ?_
                                            refine Q_gskip rfl rfl rfl rfl rfl rfl rfl ?_
                                            refine Q_gskip rfl rfl rfl rfl rfl rfl rfl ?_
                                            refine Q_gskip rfl rfl rfl rfl rfl rfl rfl ?_
                                            refine Q_gskip rfl rfl rfl rfl rfl rfl rfl ?_
                                            refine Q_gskip rfl rfl rfl rfl rfl rfl rfl ?_
                                            refine Q_gskip rfl rfl rfl rfl rfl rfl rfl ?_
                                            refine Q_gskip rfl rfl rfl rfl rfl rfl rfl ?_
                                            refine Q_gskip rfl rfl rfl rfl rfl rfl rfl ?_
                                            refine Q_gskip rfl rfl rfl rfl rfl rfl rfl ?_
                                            refine Q_gskip rfl rfl rfl rfl rfl rfl rfl ?_
                                            refine Q_gskip rfl rfl rfl rfl rfl rfl rfl ?_
                                            refine Q_gskip rfl rfl rfl rfl rfl rfl rfl ?_
                                            refine Q_gskip rfl rfl rfl rfl rfl rfl rfl ?_
                                            refine Q_gskip rfl rfl rfl rfl rfl rfl rfl ?_
                                            refine Q_gskip rfl rfl rfl rfl rfl rfl rfl ?_
                                            refine Q_gskip rfl rfl rfl rfl rfl rfl rfl ?_
                                            refine Q_gskip rfl rfl rfl rfl rfl rfl rfl ?_
                                            refine Q_gskip rfl rfl rfl rfl rfl rfl rfl ?_
                                            refine Q_gskip rfl rfl rfl rfl rfl rfl rfl ?_
                                            refine Q_gskip rfl rfl rfl rfl rfl rfl rfl ?_
                                            refine Q_gskip rfl rfl rfl rfl rfl rfl rfl ?_
                                            refine Q_gskip rfl rfl rfl rfl rfl rfl rfl ?_
                                            refine Q_gskip rfl rfl rfl rfl rfl rfl rfl ?_
                                            refine Q_gskip rfl rfl rfl rfl rfl rfl rfl ?_
                                            refine Q_gskip rfl rfl rfl rfl rfl rfl rfl ?_
                                            refine Q_val rfl rfl rfl (fun wq hq => O_pickF rfl rfl rfl) ?_
                                            refine Q_know (i := 204) rfl (congrArg Value.bool (Option.some.inj H)) ?_
                                            exact Q_grpE (fun a ha => Is.cons ha (Is.cons ha (Is.cons ha (Is.cons ha (Is.cons ha (Is.cons ha (Is.cons ha (Is.cons ha (Is.nil ha) rfl) rfl) rfl) rfl) rfl) rfl) rfl) rfl)
                                        · skip
                                          refine Q_nil (fun w3919 hw3920 => ?_)
                                          have HS3921 := HS3847.keep hw3920
                                          refine L_cond rfl (fun c3922 => ?_) (fun c3922 => ?_)
                                          · have H := of_pos H c3922
                                            refine L_seq ?_
                                            refine L_region ?_
                                            refine F_val rfl rfl rfl (O_assign rfl rfl) ?_
                                            refine F_nil ?_
                                            refine L_ret (fun a ha => (hO3849 .ret a _ rfl (hOp3844 .ret a _ rfl (hOb3684 .ret a _ rfl (hOj3442 .ret a _ rfl (post_ret1 ha rfl rfl ?_))))))
                                            obtain rfl := Option.some.inj H
                                            obtain rfl := Option.some.inj (show (some false : Option (Bool)) = some _ from HOj3442)
                                            exact ⟨rfl, HS3921.sel [] rfl⟩
                                          · have H := of_neg H (by rw [c3922]; exact Bool.false_ne_true)
                                            refine L_skip ?_
                                            refine L_endB hN3849 ?_
                                            refine L_region ?_
                                            refine F_val rfl rfl rfl (O_move rfl rfl) ?_
                                            refine F_val rfl rfl rfl (O_add rfl rfl rfl) ?_
                                            obtain ⟨x3923, h3924, H⟩ := of_bnd H
                                            refine F_val rfl rfl rfl (O_assign' rfl rfl (congrArg (Value.int .i64) h3924)) ?_
                                            refine F_nil ?_
                                            refine L_nil (fun a ha => hNp3844 _ a _ (Nat.lt_succ_self _) ⟨_, Is.cons ha (Is.cons ha (Is.cons ha (Is.cons ha (Is.cons ha (Is.cons ha (Is.cons ha (Is.nil ha) rfl) rfl) rfl) rfl) rfl) rfl) rfl, HS3921.sel [0, 1, 2, 3, 4, 5, 6, 7] rfl, H⟩)
                                  · have H := of_neg H c3848
                                    refine L_exitB (fun a w h => hOp3844 (.exit 4) a w rfl (hXb3684 a w h)) ?_
                                    refine L_nil (fun a ha => hNj3442 a _ ⟨(Option.some.inj H).symm, Is.nil ha, HS3847.sel [0, 1] rfl⟩)
                              · obtain ⟨rfl, ha, HS3926⟩ := hR
                                refine wpLF_app ?_ ha
                                have H := (onR_inr _ _ _).symm.trans H
                                refine L_seq ?_
                                refine L_region ?_
                                refine F_val rfl rfl rfl (O_assign rfl rfl) ?_
                                refine F_nil ?_
                                refine L_ret (fun a ha => (post_ret1 ha rfl rfl ?_))
                                obtain rfl := Option.some.inj H
                                exact ⟨rfl, HS3926.sel [] rfl⟩

end Go.Proofs.Ytbegkkmngkpjmaa
