import Derived.Test.YteckboojmmeecaaChecked
import Derived.Test.YteckboojmmeecaaGBlockChoosesLeastPure
set_option linter.unusedVariables false
set_option linter.unusedSimpArgs false
set_option maxRecDepth 10000
namespace Go.Proofs.Yteckboojmmeecaa
open Go Go.V Go.V.Pu
theorem mix : Try.prog.follows .mixedOrders = true := by kernel_rfl
theorem field23_0 : FieldAt Try.prog 23 0 0 := fun w a => by kernel_rfl
theorem flat3 : Flat Try.prog 3 := Flat.of Try.underlying3 rfl
theorem field23_1 : FieldAt Try.prog 23 1 1 := fun w a => by kernel_rfl
theorem field23_2 : FieldAt Try.prog 23 2 2 := fun w a => by kernel_rfl
theorem wide23 : Wide Try.prog 23 3 := Wide.of Try.underlying23 rfl (by kernel_rfl)
theorem nm9 : (Try.f9.name == "runtime.NumGoroutine") = false := by kernel_rfl
theorem size3 : (Try.prog.info? 3).map (·.size) = some 1 := by kernel_rfl
/-! function 9: valise/block.Choose -/
theorem block_Choose.calls {S0 : Nat → Prop} {w0 : World} {s_0_Stored : Int} {s_0_Fixed : Int} {s_0_Dynamic : Int} {r : Int} (HS0 : Hp S0 w0 w0 []) (h : block_Choose.f s_0_Stored s_0_Fixed s_0_Dynamic = some r) :
    Calls Try.prog 9 ([.agg #[.int .i64 s_0_Stored, .int .i64 s_0_Fixed, .int .i64 s_0_Dynamic]] : List Value).toArray w0 (fun e w => e = .returned (.int .i64 r) ∧ Hp S0 w0 w []) := by
  have H : (if (s_0_Stored ≤ s_0_Fixed) ∧ (s_0_Stored ≤ s_0_Dynamic) then (some 0) else (if s_0_Fixed ≤ s_0_Dynamic then (some 1) else (some 2))) = some r := h
  refine calls_start Try.func9 rfl rfl ?_
  refine L_seq ?_
  refine L_region ?_
  refine F_box (C := [.int .i64 s_0_Stored, .int .i64 s_0_Fixed, .int .i64 s_0_Dynamic]) rfl rfl rfl rfl rfl rfl HS0 (fun w1 g3 HS2 => ?_)
  have HS2 : Hp S0 w0 w1 [.box g3 [.int .i64 s_0_Stored, .int .i64 s_0_Fixed, .int .i64 s_0_Dynamic] 23] := HS2
  refine F_val rfl rfl rfl (O_assign rfl rfl) ?_
  refine F_nil ?_
  refine L_seq ?_
  refine L_blk (fun Q5 hN5 hX5 hO5 => ?_)
  refine L_seq ?_
  refine L_region ?_
  refine F_val rfl rfl rfl (O_fieldB rfl rfl field23_0) ?_
  refine F_val rfl rfl rfl (O_loadB rfl rfl flat3 (HS2.cells_box (i := 0) rfl) rfl) ?_
  refine F_val rfl rfl rfl (O_fieldB rfl rfl field23_1) ?_
  refine F_val rfl rfl rfl (O_loadB rfl rfl flat3 (HS2.cells_box (i := 0) rfl) rfl) ?_
  refine F_val rfl rfl rfl (O_le rfl rfl rfl) ?_
  refine F_val rfl rfl rfl (O_move rfl rfl) ?_
  refine F_grp 6 [(15, .bool (decide ((s_0_Stored ≤ s_0_Fixed) ∧ (s_0_Stored ≤ s_0_Dynamic)))), (1, .pointer (some ⟨g3, 0, none⟩))] ?_ ?_
  · rcases Decidable.em (s_0_Stored ≤ s_0_Fixed) with c6 | c6
    · refine F_know (i := 9) rfl (dec_t c6) ?_
      refine F_gval rfl rfl rfl rfl rfl rfl (O_fieldB rfl rfl field23_0) ?_
      refine F_gval rfl rfl rfl rfl rfl rfl (O_loadB rfl rfl flat3 (HS2.cells_box (i := 0) rfl) rfl) ?_
      refine F_gval rfl rfl rfl rfl rfl rfl (O_fieldB rfl rfl field23_2) ?_
      refine F_gval rfl rfl rfl rfl rfl rfl (O_loadB rfl rfl flat3 (HS2.cells_box (i := 0) rfl) rfl) ?_
      refine F_gval rfl rfl rfl rfl rfl rfl (O_le rfl rfl rfl) ?_
      refine F_val rfl rfl rfl (O_pickT rfl rfl rfl) ?_
      refine F_know (i := 15) rfl (dec_and_t (q := s_0_Stored ≤ s_0_Dynamic) c6) ?_
      exact F_grpE (fun a ha => Is.cons ha (Is.cons ha (Is.nil ha) rfl) rfl)
    · refine F_know (i := 9) rfl (dec_f c6) ?_
      refine F_gskip rfl rfl rfl rfl rfl rfl rfl ?_
      refine F_gskip rfl rfl rfl rfl rfl rfl rfl ?_
      refine F_gskip rfl rfl rfl rfl rfl rfl rfl ?_
      refine F_gskip rfl rfl rfl rfl rfl rfl rfl ?_
      refine F_gskip rfl rfl rfl rfl rfl rfl rfl ?_
      refine F_val rfl rfl rfl (O_pickF rfl rfl rfl) ?_
      refine F_know (i := 15) rfl (dec_and_f (q := s_0_Stored ≤ s_0_Dynamic) c6) ?_
      exact F_grpE (fun a ha => Is.cons ha (Is.cons ha (Is.nil ha) rfl) rfl)
  · skip
    refine F_val rfl rfl rfl (O_assign rfl rfl) ?_
    refine F_nil ?_
    refine L_condP rfl (fun c7 => ?_) (fun c7 => ?_)
    · have H := of_pos H c7
      refine L_seq ?_
      refine L_region ?_
      refine F_val rfl rfl rfl (O_assign rfl rfl) ?_
      refine F_nil ?_
      refine L_ret (fun a ha => (hO5 .ret a _ rfl (post_ret1 ha rfl rfl ?_)))
      obtain rfl := Option.some.inj H
      exact ⟨rfl, HS2.sel [] rfl⟩
    · have H := of_neg H c7
      refine L_seq ?_
      refine L_region ?_
      refine F_val rfl rfl rfl (O_fieldB rfl rfl field23_1) ?_
      refine F_val rfl rfl rfl (O_loadB rfl rfl flat3 (HS2.cells_box (i := 0) rfl) rfl) ?_
      refine F_val rfl rfl rfl (O_fieldB rfl rfl field23_2) ?_
      refine F_val rfl rfl rfl (O_loadB rfl rfl flat3 (HS2.cells_box (i := 0) rfl) rfl) ?_
      refine F_val rfl rfl rfl (O_le rfl rfl rfl) ?_
      refine F_val rfl rfl rfl (O_assign rfl rfl) ?_
      refine F_nil ?_
      refine L_condP rfl (fun c8 => ?_) (fun c8 => ?_)
      · have H := of_pos H c8
        refine L_seq ?_
        refine L_region ?_
        refine F_val rfl rfl rfl (O_assign rfl rfl) ?_
        refine F_nil ?_
        refine L_ret (fun a ha => (hO5 .ret a _ rfl (post_ret1 ha rfl rfl ?_)))
        obtain rfl := Option.some.inj H
        exact ⟨rfl, HS2.sel [] rfl⟩
      · have H := of_neg H c8
        refine L_skip ?_
        refine L_endB hN5 ?_
        refine L_seq ?_
        refine L_region ?_
        refine F_val rfl rfl rfl (O_assign rfl rfl) ?_
        refine F_nil ?_
        refine L_ret (fun a ha => (post_ret1 ha rfl rfl ?_))
        obtain rfl := Option.some.inj H
        exact ⟨rfl, HS2.sel [] rfl⟩

/-! function 3: valise/valiselaw10.BlockChoosesLeast -/
theorem valiselaw10_BlockChoosesLeast.calls {S0 : Nat → Prop} {w0 : World} {s_0_Stored : Int} {s_0_Fixed : Int} {s_0_Dynamic : Int} {r : Bool} (HS0 : Hp S0 w0 w0 []) (h : valiselaw10_BlockChoosesLeast.f s_0_Stored s_0_Fixed s_0_Dynamic = some r) :
    Calls Try.prog 3 ([.agg #[.int .i64 s_0_Stored, .int .i64 s_0_Fixed, .int .i64 s_0_Dynamic]] : List Value).toArray w0 (fun e w => e = .returned (.bool r) ∧ Hp S0 w0 w []) := by
  have H : ((block_Choose.f s_0_Stored s_0_Fixed s_0_Dynamic).bind fun z14 => if (z14 < 0) ∨ (2 < z14) then (some false) else ((valiselaw10_BlockChoosesLeast.l1 FU 0 s_0_Stored s_0_Fixed s_0_Dynamic z14).bind fun (yj19 : Sum (Bool) (Unit)) => onR yj19 (fun r => some r) fun () => some true)) = some r := h
  refine calls_start Try.func3 rfl rfl ?_
  refine L_seq ?_
  refine L_region ?_
  refine F_box (C := [.int .i64 s_0_Stored, .int .i64 s_0_Fixed, .int .i64 s_0_Dynamic]) rfl rfl rfl rfl rfl rfl HS0 (fun w1 g3 HS2 => ?_)
  have HS2 : Hp S0 w0 w1 [.box g3 [.int .i64 s_0_Stored, .int .i64 s_0_Fixed, .int .i64 s_0_Dynamic] 23] := HS2
  refine F_val rfl rfl rfl (O_assign rfl rfl) ?_
  refine F_nil ?_
  refine L_seq ?_
  refine L_region ?_
  refine F_val rfl rfl rfl (O_fieldB rfl rfl field23_0) ?_
  refine F_val rfl rfl rfl (O_loadB rfl rfl flat3 (HS2.cells_box (i := 0) rfl) rfl) ?_
  refine F_val rfl rfl rfl (O_fieldB rfl rfl field23_1) ?_
  refine F_val rfl rfl rfl (O_loadB rfl rfl flat3 (HS2.cells_box (i := 0) rfl) rfl) ?_
  refine F_val rfl rfl rfl (O_fieldB rfl rfl field23_2) ?_
  refine F_val rfl rfl rfl (O_loadB rfl rfl flat3 (HS2.cells_box (i := 0) rfl) rfl) ?_
  refine F_litE (E := (Eint .i64)) (e := 3) [(0, .int .i64 s_0_Stored), (1, .int .i64 s_0_Fixed), (2, .int .i64 s_0_Dynamic)] [s_0_Stored, s_0_Fixed, s_0_Dynamic] rfl rfl rfl rfl rfl rfl rfl (by decide) (fun w => by kernel_rfl) HS2 (fun w5 A7 c8 HS6 => ?_)
  have HS6 : Hp S0 w0 w5 [.box g3 [.int .i64 s_0_Stored, .int .i64 s_0_Fixed, .int .i64 s_0_Dynamic] 23, .own A7 c8 (rowC (Eint .i64) [s_0_Stored, s_0_Fixed, s_0_Dynamic]) 3 (Eint .i64).sz] := HS6
  refine F_val rfl rfl rfl (O_assign rfl rfl) ?_
  refine F_nil ?_
  refine L_seq ?_
  refine L_region ?_
  refine F_val rfl rfl rfl (O_loadWB' (k := 0) (vs := [.int .i64 s_0_Stored, .int .i64 s_0_Fixed, .int .i64 s_0_Dynamic]) rfl rfl wide23 (HS6.cells_box (i := 0) rfl) rfl rfl (by simp)) ?_
  obtain ⟨z14, h13, H⟩ := of_bind H
  refine F_call (xs := [.tmp 13]) rfl rfl rfl rfl Try.func9 nm9 rfl rfl ((block_Choose.calls (HS6.give [] rfl (Lent.nil)) h13).mono (fun e w hc => ?_))
  obtain ⟨rfl, HSo⟩ := hc
  refine ⟨.int .i64 z14, rfl, ?_⟩
  have HS16 : Hp S0 w0 w [.box g3 [.int .i64 s_0_Stored, .int .i64 s_0_Fixed, .int .i64 s_0_Dynamic] 23, .own A7 c8 (rowC (Eint .i64) [s_0_Stored, s_0_Fixed, s_0_Dynamic]) 3 (Eint .i64).sz] := (HS6.back [] HSo rfl).sel [0, 1] rfl
  refine F_val rfl rfl rfl (O_assign rfl rfl) ?_
  refine F_nil ?_
  refine L_seq ?_
  refine L_seq ?_
  refine L_region ?_
  refine F_val rfl rfl rfl (O_move rfl rfl) ?_
  refine F_val rfl rfl rfl (O_lt rfl rfl rfl) ?_
  refine F_val rfl rfl rfl (O_move rfl rfl) ?_
  refine F_grp 3 [(20, .bool (decide ((z14 < 0) ∨ (2 < z14)))), (3, .slice A7 [s_0_Stored, s_0_Fixed, s_0_Dynamic].length c8), (4, .int .i64 z14)] ?_ ?_
  · rcases Decidable.em (z14 < 0) with c17 | c17
    · refine F_know (i := 17) rfl (dec_t c17) ?_
      refine F_gskip rfl rfl rfl rfl rfl rfl rfl ?_
      refine F_gskip rfl rfl rfl rfl rfl rfl rfl ?_
      refine F_val rfl rfl rfl (O_pickT rfl rfl rfl) ?_
      refine F_know (i := 20) rfl (dec_or_t (q := 2 < z14) c17) ?_
      exact F_grpE (fun a ha => Is.cons ha (Is.cons ha (Is.cons ha (Is.nil ha) rfl) rfl) rfl)
    · refine F_know (i := 17) rfl (dec_f c17) ?_
      refine F_gval rfl rfl rfl rfl rfl rfl (O_move rfl rfl) ?_
      refine F_gval rfl rfl rfl rfl rfl rfl (O_gt rfl rfl rfl) ?_
      refine F_val rfl rfl rfl (O_pickF rfl rfl rfl) ?_
      refine F_know (i := 20) rfl (dec_or_f (q := 2 < z14) c17) ?_
      exact F_grpE (fun a ha => Is.cons ha (Is.cons ha (Is.cons ha (Is.nil ha) rfl) rfl) rfl)
  · skip
    refine F_nil ?_
    refine L_condP rfl (fun c18 => ?_) (fun c18 => ?_)
    · have H := of_pos H c18
      refine L_seq ?_
      refine L_region ?_
      refine F_val rfl rfl rfl (O_assign rfl rfl) ?_
      refine F_nil ?_
      refine L_ret (fun a ha => (post_ret1 ha rfl rfl ?_))
      obtain rfl := Option.some.inj H
      exact ⟨rfl, HS16.sel [] rfl⟩
    · have H := of_neg H c18
      refine L_skip ?_
      refine L_seq ?_
      refine L_seq ?_
      refine L_region ?_
      refine F_val rfl rfl rfl (O_assign rfl rfl) ?_
      refine F_nil ?_
      obtain ⟨yj19, Hyj19, H⟩ := of_bind H
      refine L_join (fun a w => yj19 = Sum.inr () ∧ Is Try.f3.ntmps a [] ∧ Hp S0 w0 w []) (fun Qj19 hNj19 hOj19 => ?_) (fun a w hR => ?_)
      · have HOj19 := H
        have H := Hyj19
        refine L_blk (fun Qb71 hNb71 hXb71 hOb71 => ?_)
        refine L_lp (fun k a w => ∃ (i_104 : Int), Is Try.f3.ntmps a [(3, .slice A7 [s_0_Stored, s_0_Fixed, s_0_Dynamic].length c8), (4, .int .i64 z14), (5, .int .i64 i_104)] ∧ Hp S0 w0 w [.own A7 c8 (rowC (Eint .i64) [s_0_Stored, s_0_Fixed, s_0_Dynamic]) 3 (Eint .i64).sz] ∧ valiselaw10_BlockChoosesLeast.l1 k i_104 s_0_Stored s_0_Fixed s_0_Dynamic z14 = some yj19) FU (fun a ha => ⟨_, Is.cons ha (Is.cons ha (Is.cons ha (Is.nil ha) rfl) rfl) rfl, HS16.sel [1] rfl, H⟩) (fun kp103 a w105 hI Qp103 hNp103 hOp103 => ?_)
        obtain ⟨i_104, ha, HS106, HAp103⟩ := hI
        cases kp103 with
        | zero => cases (show (none : Option _) = some _ from HAp103)
        | succ kp103 =>
          have H := (valiselaw10_BlockChoosesLeast.l1.eq_2 ..).symm.trans HAp103
          refine wpLF_app ?_ ha
          refine L_seq ?_
          refine L_seq ?_
          refine L_region ?_
          refine F_val rfl rfl rfl (O_move rfl rfl) ?_
          refine F_val rfl rfl rfl (O_lt rfl rfl rfl) ?_
          refine F_nil ?_
          refine L_condP rfl (fun c107 => ?_) (fun c107 => ?_)
          · have H := of_pos H c107
            refine L_skip ?_
            refine L_seq ?_
            refine L_blk (fun Q108 hN108 hX108 hO108 => ?_)
            refine L_seq ?_
            refine L_quiet mix (by kernel_rfl) ?_
            refine Q_val rfl rfl rfl (fun wq hq => O_move rfl rfl) ?_
            refine Q_val rfl rfl rfl (fun wq hq => O_move rfl rfl) ?_
            obtain ⟨⟨g109, g110⟩, H⟩ := of_gd H
            refine Q_val rfl rfl rfl (fun wq hq => O_idx rfl rfl rfl Try.underlying24 size3 g109 g110 (Cells.isA ((HS106.keep hq).cells_own (i := 0) rfl) (rowC_ne (E := (Eint .i64)) g109 g110 (by decide)))) ?_
            refine Q_val rfl rfl rfl (fun wq hq => O_loadC rfl rfl flat3 ((HS106.keep hq).cells_own (i := 0) rfl) (int_cell g109 g110)) ?_
            refine Q_val rfl rfl rfl (fun wq hq => O_move rfl rfl) ?_
            refine Q_val rfl rfl rfl (fun wq hq => O_move rfl rfl) ?_
            obtain ⟨⟨g111, g112⟩, H⟩ := of_gd H
            refine Q_val rfl rfl rfl (fun wq hq => O_idx rfl rfl rfl Try.underlying24 size3 g111 g112 (Cells.isA ((HS106.keep hq).cells_own (i := 0) rfl) (rowC_ne (E := (Eint .i64)) g111 g112 (by decide)))) ?_
            refine Q_val rfl rfl rfl (fun wq hq => O_loadC rfl rfl flat3 ((HS106.keep hq).cells_own (i := 0) rfl) (int_cell g111 g112)) ?_
            refine Q_val rfl rfl rfl (fun wq hq => O_lt rfl rfl rfl) ?_
            refine Q_val rfl rfl rfl (fun wq hq => O_move rfl rfl) ?_
            refine Q_grp 15 [(49, .bool (decide ((rd [s_0_Stored, s_0_Fixed, s_0_Dynamic] i_104 < rd [s_0_Stored, s_0_Fixed, s_0_Dynamic] z14) ∨ ((i_104 < z14) ∧ (rd [s_0_Stored, s_0_Fixed, s_0_Dynamic] i_104 = rd [s_0_Stored, s_0_Fixed, s_0_Dynamic] z14))))), (3, .slice A7 [s_0_Stored, s_0_Fixed, s_0_Dynamic].length c8), (4, .int .i64 z14), (5, .int .i64 i_104)] ?_ ?_
            · rcases Decidable.em (rd [s_0_Stored, s_0_Fixed, s_0_Dynamic] i_104 < rd [s_0_Stored, s_0_Fixed, s_0_Dynamic] z14) with c114 | c114
              · refine Q_know (i := 34) rfl (dec_t c114) ?_
                refine Q_gskip rfl rfl rfl rfl rfl rfl rfl ?_
                refine Q_gskip rfl rfl rfl rfl rfl rfl rfl ?_
                refine Q_gskip rfl rfl rfl rfl rfl rfl rfl ?_
                refine Q_gskip rfl rfl rfl rfl rfl rfl rfl ?_
                refine Q_gskip rfl rfl rfl rfl rfl rfl rfl ?_
                refine Q_gskip rfl rfl rfl rfl rfl rfl rfl ?_
                refine Q_gskip rfl rfl rfl rfl rfl rfl rfl ?_
                refine Q_gskip rfl rfl rfl rfl rfl rfl rfl ?_
                refine Q_gskip rfl rfl rfl rfl rfl rfl rfl ?_
                refine Q_gskip rfl rfl rfl rfl rfl rfl rfl ?_
                refine Q_gskip rfl rfl rfl rfl rfl rfl rfl ?_
                refine Q_gskip rfl rfl rfl rfl rfl rfl rfl ?_
                refine Q_gskip rfl rfl rfl rfl rfl rfl rfl ?_
                refine Q_gskip rfl rfl rfl rfl rfl rfl rfl ?_
                refine Q_val rfl rfl rfl (fun wq hq => O_pickT rfl rfl rfl) ?_
                refine Q_know (i := 49) rfl (dec_or_t (q := (i_104 < z14) ∧ (rd [s_0_Stored, s_0_Fixed, s_0_Dynamic] i_104 = rd [s_0_Stored, s_0_Fixed, s_0_Dynamic] z14)) c114) ?_
                exact Q_grpE (fun a ha => Is.cons ha (Is.cons ha (Is.cons ha (Is.cons ha (Is.nil ha) rfl) rfl) rfl) rfl)
              · refine Q_know (i := 34) rfl (dec_f c114) ?_
                refine Q_gval rfl rfl rfl rfl rfl rfl (fun wq hq => O_move rfl rfl) ?_
                refine Q_gval rfl rfl rfl rfl rfl rfl (fun wq hq => O_move rfl rfl) ?_
                refine Q_gval rfl rfl rfl rfl rfl rfl (fun wq hq => O_lt rfl rfl rfl) ?_
                refine Q_gval rfl rfl rfl rfl rfl rfl (fun wq hq => O_move rfl rfl) ?_
                refine Q_grp 10 [(48, .bool (decide ((i_104 < z14) ∧ (rd [s_0_Stored, s_0_Fixed, s_0_Dynamic] i_104 = rd [s_0_Stored, s_0_Fixed, s_0_Dynamic] z14)))), (3, .slice A7 [s_0_Stored, s_0_Fixed, s_0_Dynamic].length c8), (4, .int .i64 z14), (5, .int .i64 i_104), (34, .bool false), (35, .int .i64 i_104), (36, .int .i64 z14), (37, .bool (decide (i_104 < z14))), (38, .bool (decide (i_104 < z14)))] ?_ ?_
                · rcases Decidable.em (i_104 < z14) with c115 | c115
                  · refine Q_know (i := 38) rfl (dec_t c115) ?_
                    refine Q_gval rfl rfl rfl rfl rfl rfl (fun wq hq => O_move rfl rfl) ?_
                    refine Q_gval rfl rfl rfl rfl rfl rfl (fun wq hq => O_move rfl rfl) ?_
                    refine Q_gval rfl rfl rfl rfl rfl rfl (fun wq hq => O_idx rfl rfl rfl Try.underlying24 size3 g109 g110 (Cells.isA ((HS106.keep hq).cells_own (i := 0) rfl) (rowC_ne (E := (Eint .i64)) g109 g110 (by decide)))) ?_
                    refine Q_gval rfl rfl rfl rfl rfl rfl (fun wq hq => O_loadC rfl rfl flat3 ((HS106.keep hq).cells_own (i := 0) rfl) (int_cell g109 g110)) ?_
                    refine Q_gval rfl rfl rfl rfl rfl rfl (fun wq hq => O_move rfl rfl) ?_
                    refine Q_gval rfl rfl rfl rfl rfl rfl (fun wq hq => O_move rfl rfl) ?_
                    refine Q_gval rfl rfl rfl rfl rfl rfl (fun wq hq => O_idx rfl rfl rfl Try.underlying24 size3 g111 g112 (Cells.isA ((HS106.keep hq).cells_own (i := 0) rfl) (rowC_ne (E := (Eint .i64)) g111 g112 (by decide)))) ?_
                    refine Q_gval rfl rfl rfl rfl rfl rfl (fun wq hq => O_loadC rfl rfl flat3 ((HS106.keep hq).cells_own (i := 0) rfl) (int_cell g111 g112)) ?_
                    refine Q_gval rfl rfl rfl rfl rfl rfl (fun wq hq => O_eq rfl rfl rfl) ?_
                    refine Q_gval rfl rfl rfl rfl rfl rfl (fun wq hq => O_pickT rfl rfl rfl) ?_
                    refine Q_know (i := 48) rfl (dec_and_t (q := rd [s_0_Stored, s_0_Fixed, s_0_Dynamic] i_104 = rd [s_0_Stored, s_0_Fixed, s_0_Dynamic] z14) c115) ?_
                    exact Q_grpE (fun a ha => Is.cons ha (Is.cons ha (Is.cons ha (Is.cons ha (Is.cons ha (Is.cons ha (Is.cons ha (Is.cons ha (Is.cons (i := 38) (v := .bool (decide (i_104 < z14))) ha (Is.nil ha) (congrArg some (dec_t c115).symm)) rfl) rfl) rfl) rfl) rfl) rfl) rfl) rfl)
                  · refine Q_know (i := 38) rfl (dec_f c115) ?_
                    refine Q_gskip rfl rfl rfl rfl rfl rfl rfl ?_
                    refine Q_gskip rfl rfl rfl rfl rfl rfl rfl ?_
                    refine Q_gskip rfl rfl rfl rfl rfl rfl rfl ?_
                    refine Q_gskip rfl rfl rfl rfl rfl rfl rfl ?_
                    refine Q_gskip rfl rfl rfl rfl rfl rfl rfl ?_
                    refine Q_gskip rfl rfl rfl rfl rfl rfl rfl ?_
                    refine Q_gskip rfl rfl rfl rfl rfl rfl rfl ?_
                    refine Q_gskip rfl rfl rfl rfl rfl rfl rfl ?_
                    refine Q_gskip rfl rfl rfl rfl rfl rfl rfl ?_
                    refine Q_gval rfl rfl rfl rfl rfl rfl (fun wq hq => O_pickF rfl rfl rfl) ?_
                    refine Q_know (i := 48) rfl (dec_and_f (q := rd [s_0_Stored, s_0_Fixed, s_0_Dynamic] i_104 = rd [s_0_Stored, s_0_Fixed, s_0_Dynamic] z14) c115) ?_
                    exact Q_grpE (fun a ha => Is.cons ha (Is.cons ha (Is.cons ha (Is.cons ha (Is.cons ha (Is.cons ha (Is.cons ha (Is.cons ha (Is.cons (i := 38) (v := .bool (decide (i_104 < z14))) ha (Is.nil ha) (congrArg some (dec_f c115).symm)) rfl) rfl) rfl) rfl) rfl) rfl) rfl) rfl)
                · skip
                  refine Q_val rfl rfl rfl (fun wq hq => O_pickF rfl rfl rfl) ?_
                  refine Q_know (i := 49) rfl (dec_or_f (q := (i_104 < z14) ∧ (rd [s_0_Stored, s_0_Fixed, s_0_Dynamic] i_104 = rd [s_0_Stored, s_0_Fixed, s_0_Dynamic] z14)) c114) ?_
                  exact Q_grpE (fun a ha => Is.cons ha (Is.cons ha (Is.cons ha (Is.cons ha (Is.nil ha) rfl) rfl) rfl) rfl)
            · skip
              refine Q_nil (fun w116 hw117 => ?_)
              have HS118 := HS106.keep hw117
              refine L_condP rfl (fun c119 => ?_) (fun c119 => ?_)
              · have H := of_pos H c119
                refine L_seq ?_
                refine L_region ?_
                refine F_val rfl rfl rfl (O_assign rfl rfl) ?_
                refine F_nil ?_
                refine L_ret (fun a ha => (hO108 .ret a _ rfl (hOp103 .ret a _ rfl (hOb71 .ret a _ rfl (hOj19 .ret a _ rfl (post_ret1 ha rfl rfl ?_))))))
                obtain rfl := Option.some.inj H
                obtain rfl := Option.some.inj (show some false = some _ from HOj19)
                exact ⟨rfl, HS118.sel [] rfl⟩
              · have H := of_neg H c119
                refine L_skip ?_
                refine L_endB hN108 ?_
                refine L_region ?_
                refine F_val rfl rfl rfl (O_move rfl rfl) ?_
                refine F_val rfl rfl rfl (O_add rfl rfl rfl) ?_
                obtain ⟨x120, h121, H⟩ := of_bnd H
                refine F_val rfl rfl rfl (O_assign' rfl rfl (congrArg (Value.int .i64) h121)) ?_
                refine F_nil ?_
                refine L_nil (fun a ha => hNp103 _ a _ (Nat.lt_succ_self _) ⟨_, Is.cons ha (Is.cons ha (Is.cons ha (Is.nil ha) rfl) rfl) rfl, HS118.sel [0] rfl, H⟩)
          · have H := of_neg H c107
            refine L_exitB (fun a w h => hOp103 (.exit 0) a w rfl (hXb71 a w h)) ?_
            refine L_nil (fun a ha => hNj19 a _ ⟨(Option.some.inj H).symm, Is.nil ha, HS106.sel [] rfl⟩)
      · obtain ⟨rfl, ha, HS123⟩ := hR
        refine wpLF_app ?_ ha
        have H := (onR_inr _ _ _).symm.trans H
        refine L_seq ?_
        refine L_region ?_
        refine F_val rfl rfl rfl (O_assign rfl rfl) ?_
        refine F_nil ?_
        refine L_ret (fun a ha => (post_ret1 ha rfl rfl ?_))
        obtain rfl := Option.some.inj H
        exact ⟨rfl, HS123.sel [] rfl⟩

end Go.Proofs.Yteckboojmmeecaa
