import Derived.Test.YtbegkkmngkpjmaaGBuildLimitsWalk2
set_option linter.unusedVariables false
set_option linter.unusedSimpArgs false
set_option maxRecDepth 10000
set_option maxHeartbeats 1000000
namespace Go.Proofs.Ytbegkkmngkpjmaa
open Go Go.V Go.V.Pu
/-! function 16: valise/build.Cost -/
theorem build_Cost.calls {S0 : Nat → Prop} {w0 : World} {A_freq_0 : Option Addr} {c_freq_0 : Nat} {A_lens_1 : Option Addr} {c_lens_1 : Nat} {l_freq_0 : List Int} {l_lens_1 : List Int} {r : Int × Int} (HS0 : Hp S0 w0 w0 [.rd A_freq_0 (rowC (Eint .i64) l_freq_0), .rd A_lens_1 (rowC (Eint .i64) l_lens_1)]) (hc_freq_0 : l_freq_0.length ≤ c_freq_0) (hc_lens_1 : l_lens_1.length ≤ c_lens_1) (h : build_Cost.f l_freq_0 l_lens_1 = some r) :
    Calls Try.prog 16 ([.slice A_freq_0 l_freq_0.length c_freq_0, .slice A_lens_1 l_lens_1.length c_lens_1] : List Value).toArray w0 (fun e w => e = .returned (.tuple #[.int .i64 r.1, .int .i64 r.2]) ∧ Hp S0 w0 w []) := by
  have H : ((if (288 < (l_freq_0.length : Int)) ∨ ((l_lens_1.length : Int) ≠ (l_freq_0.length : Int)) then (some (0, 1)) else ((build_Cost.l1 FU 0 l_lens_1).bind fun (yj6 : Sum (Int × Int) (Unit)) => onR yj6 (fun r => some r) fun () => (build_used.f l_freq_0).bind fun (z91, z92) => if z92 ≠ 0 then (some (0, z92)) else ((build_Cost.l3 FU 0 0 l_freq_0 l_lens_1).bind fun sum_138 => some (sum_138, 0)))) : Option (Int × Int)) = some r := h
  refine calls_start Try.func16 rfl rfl ?_
  refine L_seq ?_
  refine L_region ?_
  refine F_val rfl rfl rfl (O_assign rfl rfl) ?_
  refine F_val rfl rfl rfl (O_assign rfl rfl) ?_
  refine F_nil ?_
  refine L_seq ?_
  refine L_seq ?_
  refine L_region ?_
  refine F_val rfl rfl rfl (O_move rfl rfl) ?_
  refine F_val rfl rfl rfl (O_len rfl rfl Try.underlying22) ?_
  refine F_val rfl rfl rfl (O_gt rfl rfl rfl) ?_
  refine F_val rfl rfl rfl (O_move rfl rfl) ?_
  refine F_grp 6 [(22, .bool (decide ((288 < (l_freq_0.length : Int)) ∨ ((l_lens_1.length : Int) ≠ (l_freq_0.length : Int))))), (0, .slice A_freq_0 l_freq_0.length c_freq_0), (1, .slice A_lens_1 l_lens_1.length c_lens_1)] ?_ ?_
  · rcases Decidable.em (288 < (l_freq_0.length : Int)) with c4 | c4
    · refine F_know (i := 16) rfl (dec_t c4) ?_
      refine F_gskip rfl rfl rfl rfl rfl rfl rfl ?_
      refine F_gskip rfl rfl rfl rfl rfl rfl rfl ?_
      refine F_gskip rfl rfl rfl rfl rfl rfl rfl ?_
      refine F_gskip rfl rfl rfl rfl rfl rfl rfl ?_
      refine F_gskip rfl rfl rfl rfl rfl rfl rfl ?_
      refine F_val rfl rfl rfl (O_pickT rfl rfl rfl) ?_
      refine F_know (i := 22) rfl (dec_or_t (q := (l_lens_1.length : Int) ≠ (l_freq_0.length : Int)) c4) ?_
      exact F_grpE (fun a ha => Is.cons ha (Is.cons ha (Is.cons ha (Is.nil ha) rfl) rfl) rfl)
    · refine F_know (i := 16) rfl (dec_f c4) ?_
      refine F_gval rfl rfl rfl rfl rfl rfl (O_move rfl rfl) ?_
      refine F_gval rfl rfl rfl rfl rfl rfl (O_len rfl rfl Try.underlying22) ?_
      refine F_gval rfl rfl rfl rfl rfl rfl (O_move rfl rfl) ?_
      refine F_gval rfl rfl rfl rfl rfl rfl (O_len rfl rfl Try.underlying22) ?_
      refine F_gval rfl rfl rfl rfl rfl rfl (O_ne rfl rfl rfl) ?_
      refine F_val rfl rfl rfl (O_pickF rfl rfl rfl) ?_
      refine F_know (i := 22) rfl (dec_or_f (q := (l_lens_1.length : Int) ≠ (l_freq_0.length : Int)) c4) ?_
      exact F_grpE (fun a ha => Is.cons ha (Is.cons ha (Is.cons ha (Is.nil ha) rfl) rfl) rfl)
  · skip
    refine F_nil ?_
    refine L_condP rfl (fun c5 => ?_) (fun c5 => ?_)
    · have H := of_pos H c5
      refine L_seq ?_
      refine L_region ?_
      refine F_val rfl rfl rfl (O_assign rfl rfl) ?_
      refine F_val rfl rfl rfl (O_assign rfl rfl) ?_
      refine F_nil ?_
      refine L_ret (fun a ha => (post_ret2 ha rfl rfl rfl ?_))
      obtain rfl := Option.some.inj H
      exact ⟨rfl, HS0.sel [] rfl⟩
    · have H := of_neg H c5
      refine L_skip ?_
      refine L_seq ?_
      refine L_seq ?_
      refine L_region ?_
      refine F_val rfl rfl rfl (O_move rfl rfl) ?_
      refine F_val rfl rfl rfl (O_len rfl rfl Try.underlying22) ?_
      refine F_val rfl rfl rfl (O_move rfl rfl) ?_
      refine F_nil ?_
      obtain ⟨yj6, Hyj6, H⟩ := of_bind H
      refine L_join (fun a w => yj6 = Sum.inr () ∧ Is Try.f16.ntmps a [(0, .slice A_freq_0 l_freq_0.length c_freq_0), (1, .slice A_lens_1 l_lens_1.length c_lens_1)] ∧ Hp S0 w0 w [.rd A_freq_0 (rowC (Eint .i64) l_freq_0), .rd A_lens_1 (rowC (Eint .i64) l_lens_1)]) (fun Qj6 hNj6 hOj6 => ?_) (fun a w hR => ?_)
      · have HOj6 := H
        have H := Hyj6
        refine L_blk (fun Qb46 hNb46 hXb46 hOb46 => ?_)
        refine L_lp (fun k a w => ∃ (t71 : Int), Is Try.f16.ntmps a [(0, .slice A_freq_0 l_freq_0.length c_freq_0), (1, .slice A_lens_1 l_lens_1.length c_lens_1), (23, .slice A_lens_1 l_lens_1.length c_lens_1), (24, .int .i64 (l_lens_1.length : Int)), (25, .int .i64 t71)] ∧ Hp S0 w0 w [.rd A_freq_0 (rowC (Eint .i64) l_freq_0), .rd A_lens_1 (rowC (Eint .i64) l_lens_1)] ∧ build_Cost.l1 k t71 l_lens_1 = some yj6) FU (fun a ha => ⟨_, Is.cons ha (Is.cons ha (Is.cons ha (Is.cons ha (Is.cons ha (Is.nil ha) rfl) rfl) rfl) rfl) rfl, HS0.sel [0, 1] rfl, H⟩) (fun kp70 a w72 hI Qp70 hNp70 hOp70 => ?_)
        obtain ⟨t71, ha, HS73, HAp70⟩ := hI
        cases kp70 with
        | zero => cases (show (none : Option _) = some _ from HAp70)
        | succ kp70 =>
          have H := (build_Cost.l1.eq_2 ..).symm.trans HAp70
          refine wpLF_app ?_ ha
          refine L_seq ?_
          refine L_region ?_
          refine F_val rfl rfl rfl (O_lt rfl rfl rfl) ?_
          refine F_nil ?_
          refine L_seq ?_
          refine L_condP rfl (fun c74 => ?_) (fun c74 => ?_)
          · have H := of_pos H c74
            refine L_skip ?_
            refine L_seq ?_
            refine L_blk (fun Q75 hN75 hX75 hO75 => ?_)
            refine L_seq ?_
            refine L_region ?_
            obtain ⟨⟨g76, g77⟩, H⟩ := of_gd H
            refine F_val rfl rfl rfl (O_idx rfl rfl rfl Try.underlying22 size3 g76 g77 (Cells.isA (HS73.cells_rd (i := 1) rfl) (rowC_ne (E := (Eint .i64)) g76 g77 (by decide)))) ?_
            refine F_val rfl rfl rfl (O_loadC rfl rfl flat3 (HS73.cells_rd (i := 1) rfl) (int_cell g76 g77)) ?_
            obtain ⟨x78, h79, H⟩ := of_bnd H
            refine F_val rfl rfl rfl (O_assign' rfl rfl (congrArg (Value.int .i64) h79)) ?_
            refine F_nil ?_
            refine L_seq ?_
            refine L_region ?_
            refine F_val rfl rfl rfl (O_move rfl rfl) ?_
            refine F_val rfl rfl rfl (O_lt rfl rfl rfl) ?_
            refine F_val rfl rfl rfl (O_move rfl rfl) ?_
            refine F_grp 3 [(34, .bool (decide ((x78 < 0) ∨ (288 < x78)))), (0, .slice A_freq_0 l_freq_0.length c_freq_0), (1, .slice A_lens_1 l_lens_1.length c_lens_1), (23, .slice A_lens_1 l_lens_1.length c_lens_1), (24, .int .i64 (l_lens_1.length : Int)), (25, .int .i64 t71)] ?_ ?_
            · rcases Decidable.em (x78 < 0) with c83 | c83
              · refine F_know (i := 31) rfl (dec_t c83) ?_
                refine F_gskip rfl rfl rfl rfl rfl rfl rfl ?_
                refine F_gskip rfl rfl rfl rfl rfl rfl rfl ?_
                refine F_val rfl rfl rfl (O_pickT rfl rfl rfl) ?_
                refine F_know (i := 34) rfl (dec_or_t (q := 288 < x78) c83) ?_
                exact F_grpE (fun a ha => Is.cons ha (Is.cons ha (Is.cons ha (Is.cons ha (Is.cons ha (Is.cons ha (Is.nil ha) rfl) rfl) rfl) rfl) rfl) rfl)
              · refine F_know (i := 31) rfl (dec_f c83) ?_
                refine F_gval rfl rfl rfl rfl rfl rfl (O_move rfl rfl) ?_
                refine F_gval rfl rfl rfl rfl rfl rfl (O_gt rfl rfl rfl) ?_
                refine F_val rfl rfl rfl (O_pickF rfl rfl rfl) ?_
                refine F_know (i := 34) rfl (dec_or_f (q := 288 < x78) c83) ?_
                exact F_grpE (fun a ha => Is.cons ha (Is.cons ha (Is.cons ha (Is.cons ha (Is.cons ha (Is.cons ha (Is.nil ha) rfl) rfl) rfl) rfl) rfl) rfl)
            · skip
              refine F_nil ?_
              refine L_condP rfl (fun c84 => ?_) (fun c84 => ?_)
              · have H := of_pos H c84
                refine L_seq ?_
                refine L_region ?_
                refine F_val rfl rfl rfl (O_assign rfl rfl) ?_
                refine F_val rfl rfl rfl (O_assign rfl rfl) ?_
                refine F_nil ?_
                refine L_ret (fun a ha => (hO75 .ret a _ rfl (hOp70 .ret a _ rfl (hOb46 .ret a _ rfl (hOj6 .ret a _ rfl (post_ret2 ha rfl rfl rfl ?_))))))
                obtain rfl := Option.some.inj H
                obtain rfl := Option.some.inj (show (some (0, 1) : Option (Int × Int)) = some _ from HOj6)
                exact ⟨rfl, HS73.sel [] rfl⟩
              · have H := of_neg H c84
                refine L_skip ?_
                refine L_endB hN75 ?_
                refine L_region ?_
                refine F_val rfl rfl rfl (O_add rfl rfl rfl) ?_
                refine F_val rfl rfl rfl (O_move rfl rfl) ?_
                refine F_nil ?_
                refine L_nil (fun a ha => hNp70 _ a _ (Nat.lt_succ_self _) ⟨_, Is.cons ha (Is.cons ha (Is.cons ha (Is.cons ha (Is.cons ha (Is.nil ha) rfl) rfl) rfl) rfl) rfl, HS73.sel [0, 1] rfl, H⟩)
          · have H := of_neg H c74
            refine L_exitB (fun a w h => hOp70 (.exit 0) a w rfl (hXb46 a w h)) ?_
            refine L_nil (fun a ha => hNj6 a _ ⟨(Option.some.inj H).symm, Is.cons ha (Is.cons ha (Is.nil ha) rfl) rfl, HS73.sel [0, 1] rfl⟩)
      · obtain ⟨rfl, ha, HS86⟩ := hR
        refine wpLF_app ?_ ha
        have H := (onR_inr _ _ _).symm.trans H
        refine L_seq ?_
        refine L_seq ?_
        refine L_region ?_
        refine F_val rfl rfl rfl (O_move rfl rfl) ?_
        obtain ⟨⟨z91, z92⟩, h90, H⟩ := of_bind H
        refine F_call (xs := [.tmp 37]) rfl rfl rfl rfl Try.func35 nm35 rfl rfl ((build_used.calls (HS86.give [] rfl (Lent.rd HS86 (Lent.nil) (i := 0) rfl ((HS86.cells_rd (i := 0) rfl).self))) hc_freq_0 h90).mono (fun e w hc => ?_))
        obtain ⟨A95, c96, rfl, HSo⟩ := hc
        refine ⟨.tuple #[.slice A95 z91.length c96, .int .i64 z92], rfl, ?_⟩
        have HS94 : Hp S0 w0 w [.rd A_freq_0 (rowC (Eint .i64) l_freq_0), .rd A_lens_1 (rowC (Eint .i64) l_lens_1), .own A95 c96 (rowC (Eint .i64) z91) 3 (Eint .i64).sz] := (HS86.back [] HSo rfl).sel [0, 1, 2] rfl
        refine F_val rfl rfl rfl (O_move rfl rfl) ?_
        refine F_val rfl rfl rfl (O_extract (v := .slice A95 z91.length c96) rfl rfl rfl) ?_
        refine F_val rfl rfl rfl (O_extract (v := .int .i64 z92) rfl rfl rfl) ?_
        refine F_val rfl rfl rfl (O_assign rfl rfl) ?_
        refine F_val rfl rfl rfl (O_assign rfl rfl) ?_
        refine F_nil ?_
        refine L_seq ?_
        refine L_region ?_
        refine F_val rfl rfl rfl (O_move rfl rfl) ?_
        refine F_val rfl rfl rfl (O_ne rfl rfl rfl) ?_
        refine F_nil ?_
        refine L_condP rfl (fun c98 => ?_) (fun c98 => ?_)
        · have H := of_pos H c98
          refine L_seq ?_
          refine L_region ?_
          refine F_val rfl rfl rfl (O_move rfl rfl) ?_
          refine F_val rfl rfl rfl (O_assign rfl rfl) ?_
          refine F_val rfl rfl rfl (O_assign rfl rfl) ?_
          refine F_nil ?_
          refine L_ret (fun a ha => (post_ret2 ha rfl rfl rfl ?_))
          obtain rfl := Option.some.inj H
          exact ⟨rfl, HS94.sel [] rfl⟩
        · have H := of_neg H c98
          refine L_skip ?_
          refine L_seq ?_
          refine L_region ?_
          refine F_val rfl rfl rfl (O_assign rfl rfl) ?_
          refine F_nil ?_
          refine L_seq ?_
          refine L_seq ?_
          refine L_region ?_
          refine F_val rfl rfl rfl (O_move rfl rfl) ?_
          refine F_val rfl rfl rfl (O_len rfl rfl Try.underlying22) ?_
          refine F_val rfl rfl rfl (O_move rfl rfl) ?_
          refine F_nil ?_
          obtain ⟨yj99, Hyj99, H⟩ := of_bind H
          refine L_join (fun a w => ∃ (sum_138 : Int), yj99 = sum_138 ∧ Is Try.f16.ntmps a [(10, .int .i64 sum_138)] ∧ Hp S0 w0 w [.rd A_freq_0 (rowC (Eint .i64) l_freq_0), .rd A_lens_1 (rowC (Eint .i64) l_lens_1)]) (fun Qj99 hNj99 hOj99 => ?_) (fun a w hR => ?_)
          · skip
            have H := Hyj99
            refine L_blk (fun Qb139 hNb139 hXb139 hOb139 => ?_)
            refine L_lp (fun k a w => ∃ (sum_163 : Int), ∃ (t164 : Int), Is Try.f16.ntmps a [(1, .slice A_lens_1 l_lens_1.length c_lens_1), (10, .int .i64 sum_163), (44, .slice A_freq_0 l_freq_0.length c_freq_0), (45, .int .i64 (l_freq_0.length : Int)), (46, .int .i64 t164)] ∧ Hp S0 w0 w [.rd A_freq_0 (rowC (Eint .i64) l_freq_0), .rd A_lens_1 (rowC (Eint .i64) l_lens_1)] ∧ build_Cost.l3 k sum_163 t164 l_freq_0 l_lens_1 = some yj99) FU (fun a ha => ⟨_, _, Is.cons ha (Is.cons ha (Is.cons ha (Is.cons ha (Is.cons ha (Is.nil ha) rfl) rfl) rfl) rfl) rfl, HS94.sel [0, 1] rfl, H⟩) (fun kp162 a w165 hI Qp162 hNp162 hOp162 => ?_)
            obtain ⟨sum_163, t164, ha, HS166, HAp162⟩ := hI
            cases kp162 with
            | zero => cases (show (none : Option _) = some _ from HAp162)
            | succ kp162 =>
              have H := (build_Cost.l3.eq_2 ..).symm.trans HAp162
              refine wpLF_app ?_ ha
              refine L_seq ?_
              refine L_region ?_
              refine F_val rfl rfl rfl (O_lt rfl rfl rfl) ?_
              refine F_nil ?_
              refine L_seq ?_
              refine L_condP rfl (fun c167 => ?_) (fun c167 => ?_)
              · have H := of_pos H c167
                refine L_skip ?_
                refine L_seq ?_
                refine L_blk (fun Q168 hN168 hX168 hO168 => ?_)
                refine L_seq ?_
                refine L_region ?_
                refine F_val rfl rfl rfl (O_move rfl rfl) ?_
                obtain ⟨⟨g169, g170⟩, H⟩ := of_gd H
                refine F_val rfl rfl rfl (O_idx rfl rfl rfl Try.underlying22 size3 g169 g170 (Cells.isA (HS166.cells_rd (i := 0) rfl) (rowC_ne (E := (Eint .i64)) g169 g170 (by decide)))) ?_
                refine F_val rfl rfl rfl (O_loadC rfl rfl flat3 (HS166.cells_rd (i := 0) rfl) (int_cell g169 g170)) ?_
                refine F_val rfl rfl rfl (O_assign rfl rfl) ?_
                obtain ⟨x171, h172, H⟩ := of_bnd H
                refine F_val rfl rfl rfl (O_assign' rfl rfl (congrArg (Value.int .i64) h172)) ?_
                refine F_nil ?_
                refine L_region ?_
                refine F_val rfl rfl rfl (O_move rfl rfl) ?_
                refine F_val rfl rfl rfl (O_move rfl rfl) ?_
                refine F_val rfl rfl rfl (O_move rfl rfl) ?_
                refine F_val rfl rfl rfl (O_move rfl rfl) ?_
                obtain ⟨⟨g173, g174⟩, H⟩ := of_gd H
                refine F_val rfl rfl rfl (O_idx rfl rfl rfl Try.underlying22 size3 g173 g174 (Cells.isA (HS166.cells_rd (i := 1) rfl) (rowC_ne (E := (Eint .i64)) g173 g174 (by decide)))) ?_
                refine F_val rfl rfl rfl (O_loadC rfl rfl flat3 (HS166.cells_rd (i := 1) rfl) (int_cell g173 g174)) ?_
                refine F_val rfl rfl rfl (O_mul rfl rfl rfl) ?_
                refine F_val rfl rfl rfl (O_add rfl rfl rfl) ?_
                obtain ⟨x175, h176, H⟩ := of_bnd H
                refine F_val rfl rfl rfl (O_assign' rfl rfl (congrArg (Value.int .i64) h176)) ?_
                refine F_nil ?_
                refine L_endB hN168 ?_
                refine L_region ?_
                refine F_val rfl rfl rfl (O_add rfl rfl rfl) ?_
                refine F_val rfl rfl rfl (O_move rfl rfl) ?_
                refine F_nil ?_
                refine L_nil (fun a ha => hNp162 _ a _ (Nat.lt_succ_self _) ⟨_, _, Is.cons ha (Is.cons ha (Is.cons ha (Is.cons ha (Is.cons ha (Is.nil ha) rfl) rfl) rfl) rfl) rfl, HS166.sel [0, 1] rfl, H⟩)
              · have H := of_neg H c167
                refine L_exitB (fun a w h => hOp162 (.exit 2) a w rfl (hXb139 a w h)) ?_
                refine L_nil (fun a ha => hNj99 a _ ⟨_, (Option.some.inj H).symm, Is.cons ha (Is.nil ha) rfl, HS166.sel [0, 1] rfl⟩)
          · obtain ⟨sum_138, ej, ha, HS178⟩ := hR
            obtain rfl := ej.symm
            refine wpLF_app ?_ ha
            refine L_seq ?_
            refine L_region ?_
            refine F_val rfl rfl rfl (O_move rfl rfl) ?_
            refine F_val rfl rfl rfl (O_assign rfl rfl) ?_
            refine F_val rfl rfl rfl (O_assign rfl rfl) ?_
            refine F_nil ?_
            refine L_ret (fun a ha => (post_ret2 ha rfl rfl rfl ?_))
            obtain rfl := Option.some.inj H
            exact ⟨rfl, HS178.sel [] rfl⟩

/-! function 27: valise/valiselaw6.cost -/
theorem valiselaw6_cost.calls {S0 : Nat → Prop} {w0 : World} {A_freq_0 : Option Addr} {c_freq_0 : Nat} {A_lens_1 : Option Addr} {c_lens_1 : Nat} {l_freq_0 : List Int} {l_lens_1 : List Int} {r : Int} (HS0 : Hp S0 w0 w0 [.rd A_freq_0 (rowC (Eint .i64) l_freq_0), .rd A_lens_1 (rowC (Eint .i64) l_lens_1)]) (hc_freq_0 : l_freq_0.length ≤ c_freq_0) (hc_lens_1 : l_lens_1.length ≤ c_lens_1) (h : valiselaw6_cost.f l_freq_0 l_lens_1 = some r) :
    Calls Try.prog 27 ([.slice A_freq_0 l_freq_0.length c_freq_0, .slice A_lens_1 l_lens_1.length c_lens_1] : List Value).toArray w0 (fun e w => e = .returned (.int .i64 r) ∧ Hp S0 w0 w []) := by
  have H : (((valiselaw6_cost.l1 FU 0 0 l_freq_0 l_lens_1).bind fun n_61 => some n_61) : Option (Int)) = some r := h
  refine calls_start Try.func27 rfl rfl ?_
  refine L_seq ?_
  refine L_region ?_
  refine F_val rfl rfl rfl (O_assign rfl rfl) ?_
  refine F_nil ?_
  refine L_seq ?_
  refine L_region ?_
  refine F_val rfl rfl rfl (O_assign rfl rfl) ?_
  refine F_nil ?_
  refine L_seq ?_
  refine L_seq ?_
  refine L_region ?_
  refine F_val rfl rfl rfl (O_assign rfl rfl) ?_
  refine F_nil ?_
  obtain ⟨yj1, Hyj1, H⟩ := of_bind H
  refine L_join (fun a w => ∃ (n_61 : Int), yj1 = n_61 ∧ Is Try.f27.ntmps a [(5, .int .i64 n_61)] ∧ Hp S0 w0 w [.rd A_freq_0 (rowC (Eint .i64) l_freq_0), .rd A_lens_1 (rowC (Eint .i64) l_lens_1)]) (fun Qj1 hNj1 hOj1 => ?_) (fun a w hR => ?_)
  · skip
    have H := Hyj1
    refine L_blk (fun Qb62 hNb62 hXb62 hOb62 => ?_)
    refine L_lp (fun k a w => ∃ (n_100 : Int), ∃ (s_101 : Int), Is Try.f27.ntmps a [(0, .slice A_freq_0 l_freq_0.length c_freq_0), (1, .slice A_lens_1 l_lens_1.length c_lens_1), (5, .int .i64 n_100), (6, .int .i64 s_101)] ∧ Hp S0 w0 w [.rd A_freq_0 (rowC (Eint .i64) l_freq_0), .rd A_lens_1 (rowC (Eint .i64) l_lens_1)] ∧ valiselaw6_cost.l1 k n_100 s_101 l_freq_0 l_lens_1 = some yj1) FU (fun a ha => ⟨_, _, Is.cons ha (Is.cons ha (Is.cons ha (Is.cons ha (Is.nil ha) rfl) rfl) rfl) rfl, HS0.sel [0, 1] rfl, H⟩) (fun kp99 a w102 hI Qp99 hNp99 hOp99 => ?_)
    obtain ⟨n_100, s_101, ha, HS103, HAp99⟩ := hI
    cases kp99 with
    | zero => cases (show (none : Option _) = some _ from HAp99)
    | succ kp99 =>
      have H := (valiselaw6_cost.l1.eq_2 ..).symm.trans HAp99
      refine wpLF_app ?_ ha
      refine L_seq ?_
      refine L_seq ?_
      refine L_region ?_
      refine F_val rfl rfl rfl (O_move rfl rfl) ?_
      refine F_val rfl rfl rfl (O_move rfl rfl) ?_
      refine F_val rfl rfl rfl (O_len rfl rfl Try.underlying22) ?_
      refine F_val rfl rfl rfl (O_lt rfl rfl rfl) ?_
      refine F_val rfl rfl rfl (O_move rfl rfl) ?_
      refine F_grp 5 [(16, .bool (decide ((s_101 < (l_freq_0.length : Int)) ∧ (s_101 < (l_lens_1.length : Int))))), (0, .slice A_freq_0 l_freq_0.length c_freq_0), (1, .slice A_lens_1 l_lens_1.length c_lens_1), (5, .int .i64 n_100), (6, .int .i64 s_101)] ?_ ?_
      · rcases Decidable.em (s_101 < (l_freq_0.length : Int)) with c107 | c107
        · refine F_know (i := 11) rfl (dec_t c107) ?_
          refine F_gval rfl rfl rfl rfl rfl rfl (O_move rfl rfl) ?_
          refine F_gval rfl rfl rfl rfl rfl rfl (O_move rfl rfl) ?_
          refine F_gval rfl rfl rfl rfl rfl rfl (O_len rfl rfl Try.underlying22) ?_
          refine F_gval rfl rfl rfl rfl rfl rfl (O_lt rfl rfl rfl) ?_
          refine F_val rfl rfl rfl (O_pickT rfl rfl rfl) ?_
          refine F_know (i := 16) rfl (dec_and_t (q := s_101 < (l_lens_1.length : Int)) c107) ?_
          exact F_grpE (fun a ha => Is.cons ha (Is.cons ha (Is.cons ha (Is.cons ha (Is.cons ha (Is.nil ha) rfl) rfl) rfl) rfl) rfl)
        · refine F_know (i := 11) rfl (dec_f c107) ?_
          refine F_gskip rfl rfl rfl rfl rfl rfl rfl ?_
          refine F_gskip rfl rfl rfl rfl rfl rfl rfl ?_
          refine F_gskip rfl rfl rfl rfl rfl rfl rfl ?_
          refine F_gskip rfl rfl rfl rfl rfl rfl rfl ?_
          refine F_val rfl rfl rfl (O_pickF rfl rfl rfl) ?_
          refine F_know (i := 16) rfl (dec_and_f (q := s_101 < (l_lens_1.length : Int)) c107) ?_
          exact F_grpE (fun a ha => Is.cons ha (Is.cons ha (Is.cons ha (Is.cons ha (Is.cons ha (Is.nil ha) rfl) rfl) rfl) rfl) rfl)
      · skip
        refine F_nil ?_
        refine L_condP rfl (fun c108 => ?_) (fun c108 => ?_)
        · have H := of_pos H c108
          refine L_skip ?_
          refine L_seq ?_
          refine L_blk (fun Q109 hN109 hX109 hO109 => ?_)
          refine L_quiet mix (by kernel_rfl) ?_
          refine Q_val rfl rfl rfl (fun wq hq => O_move rfl rfl) ?_
          refine Q_val rfl rfl rfl (fun wq hq => O_move rfl rfl) ?_
          refine Q_val rfl rfl rfl (fun wq hq => O_move rfl rfl) ?_
          obtain ⟨⟨g110, g111⟩, H⟩ := of_gd H
          refine Q_val rfl rfl rfl (fun wq hq => O_idx rfl rfl rfl Try.underlying22 size3 g110 g111 (Cells.isA ((HS103.keep hq).cells_rd (i := 0) rfl) (rowC_ne (E := (Eint .i64)) g110 g111 (by decide)))) ?_
          refine Q_val rfl rfl rfl (fun wq hq => O_loadC rfl rfl flat3 ((HS103.keep hq).cells_rd (i := 0) rfl) (int_cell g110 g111)) ?_
          refine Q_val rfl rfl rfl (fun wq hq => O_move rfl rfl) ?_
          refine Q_val rfl rfl rfl (fun wq hq => O_move rfl rfl) ?_
          obtain ⟨⟨g112, g113⟩, H⟩ := of_gd H
          refine Q_val rfl rfl rfl (fun wq hq => O_idx rfl rfl rfl Try.underlying22 size3 g112 g113 (Cells.isA ((HS103.keep hq).cells_rd (i := 1) rfl) (rowC_ne (E := (Eint .i64)) g112 g113 (by decide)))) ?_
          refine Q_val rfl rfl rfl (fun wq hq => O_loadC rfl rfl flat3 ((HS103.keep hq).cells_rd (i := 1) rfl) (int_cell g112 g113)) ?_
          refine Q_val rfl rfl rfl (fun wq hq => O_mul rfl rfl rfl) ?_
          refine Q_val rfl rfl rfl (fun wq hq => O_add rfl rfl rfl) ?_
          obtain ⟨x114, h115, H⟩ := of_bnd H
          refine Q_val rfl rfl rfl (fun wq hq => O_assign' rfl rfl (congrArg (Value.int .i64) h115)) ?_
          refine Q_nil (fun w116 hw117 => ?_)
          have HS118 := HS103.keep hw117
          refine L_endB hN109 ?_
          refine L_region ?_
          refine F_val rfl rfl rfl (O_move rfl rfl) ?_
          refine F_val rfl rfl rfl (O_add rfl rfl rfl) ?_
          obtain ⟨x119, h120, H⟩ := of_bnd H
          refine F_val rfl rfl rfl (O_assign' rfl rfl (congrArg (Value.int .i64) h120)) ?_
          refine F_nil ?_
          refine L_nil (fun a ha => hNp99 _ a _ (Nat.lt_succ_self _) ⟨_, _, Is.cons ha (Is.cons ha (Is.cons ha (Is.cons ha (Is.nil ha) rfl) rfl) rfl) rfl, HS118.sel [0, 1] rfl, H⟩)
        · have H := of_neg H c108
          refine L_exitB (fun a w h => hOp99 (.exit 0) a w rfl (hXb62 a w h)) ?_
          refine L_nil (fun a ha => hNj1 a _ ⟨_, (Option.some.inj H).symm, Is.cons ha (Is.nil ha) rfl, HS103.sel [0, 1] rfl⟩)
  · obtain ⟨n_61, ej, ha, HS122⟩ := hR
    obtain rfl := ej.symm
    refine wpLF_app ?_ ha
    refine L_seq ?_
    refine L_region ?_
    refine F_val rfl rfl rfl (O_move rfl rfl) ?_
    refine F_val rfl rfl rfl (O_assign rfl rfl) ?_
    refine F_nil ?_
    refine L_ret (fun a ha => (post_ret1 ha rfl rfl ?_))
    obtain rfl := Option.some.inj H
    exact ⟨rfl, HS122.sel [] rfl⟩

/-! function 12: valise/valiselaw6.BuildLimits -/
theorem valiselaw6_BuildLimits.calls {S0 : Nat → Prop} {w0 : World} {A_freq_0 : Option Addr} {c_freq_0 : Nat} {l_freq_0 : List Int} {limit_1 : Int} {r : Bool} (HS0 : Hp S0 w0 w0 [.rd A_freq_0 (rowC (Eint .i64) l_freq_0)]) (hc_freq_0 : l_freq_0.length ≤ c_freq_0) (h : valiselaw6_BuildLimits.f l_freq_0 limit_1 = some r) :
    Calls Try.prog 12 ([.slice A_freq_0 l_freq_0.length c_freq_0, .int .i64 limit_1] : List Value).toArray w0 (fun e w => e = .returned (.bool r) ∧ Hp S0 w0 w []) := by
  have H : (((valiselaw6_sound.f l_freq_0).bind fun z3 => (if (((!z3) = true) ∨ (limit_1 < 1)) ∨ (15 < limit_1) then (some true) else ((valiselaw6_uses.f l_freq_0).bind fun z29 => gd (¬ (IntKind.u64.wrap limit_1) < 0) (some (decide (shl .i64 1 (IntKind.u64.wrap limit_1) < z29))))).bind fun b22 => if b22 = true then (some true) else ((valiselaw6_copied.f l_freq_0).bind fun z39 => (build_Depths.f z39).bind fun (z49, z50) => (valiselaw6_copied.f l_freq_0).bind fun z60 => (build_Limited.f z60 limit_1).bind fun (z70, z71) => (if (z50 ≠ 0) ∨ (z71 ≠ 0) then (some true) else ((valiselaw6_good.f l_freq_0 z49 60).bind fun z95 => some (!z95))).bind fun b88 => (if b88 = true then (some true) else ((valiselaw6_good.f l_freq_0 z70 limit_1).bind fun z112 => some (!z112))).bind fun b105 => if b105 = true then (some false) else ((valiselaw6_copied.f l_freq_0).bind fun z122 => (build_Cost.f z122 z49).bind fun (z130, z131) => (valiselaw6_copied.f l_freq_0).bind fun z139 => (build_Cost.f z139 z70).bind fun (z147, z148) => (if (z131 ≠ 0) ∨ (z148 ≠ 0) then (some true) else ((valiselaw6_cost.f l_freq_0 z49).bind fun z170 => some (decide (z130 ≠ z170)))).bind fun b163 => (if b163 = true then (some true) else ((valiselaw6_cost.f l_freq_0 z70).bind fun z187 => some (decide (z147 ≠ z187)))).bind fun b180 => if (b180 = true) ∨ (z147 < z130) then (some false) else ((valiselaw6_BuildLimits.l1 FU 0 0 z49).bind fun deep_230 => if (deep_230 ≤ limit_1) ∧ (z130 ≠ z147) then (some false) else (if limit_1 = 15 then (some true) else ((valiselaw6_copied.f l_freq_0).bind fun z275 => (build_Limited.f z275 (IntKind.i64.wrap (limit_1 + 1))).bind fun (z285, z286) => (if z286 = 0 then ((valiselaw6_good.f l_freq_0 z285 (IntKind.i64.wrap (limit_1 + 1))).bind fun z305 => some z305) else (some false)).bind fun b298 => (if b298 = true then ((valiselaw6_cost.f l_freq_0 z285).bind fun z322 => some (decide (z322 ≤ z147))) else (some false)).bind fun b315 => some b315)))))) : Option (Bool)) = some r := h
  refine calls_start Try.func12 rfl rfl ?_
  refine L_seq ?_
  refine L_region ?_
  refine F_val rfl rfl rfl (O_assign rfl rfl) ?_
  refine F_nil ?_
  refine L_seq ?_
  refine L_seq ?_
  refine L_region ?_
  refine F_val rfl rfl rfl (O_move rfl rfl) ?_
  obtain ⟨z3, h2, H⟩ := of_bind H
  refine F_qcall (v := .bool z3) (xs := [.tmp 17]) rfl rfl rfl rfl Try.func23 nm23 rfl rfl ((valiselaw6_sound.calls (HS0.give [] rfl (Lent.rd HS0 (Lent.nil) (i := 0) rfl ((HS0.cells_rd (i := 0) rfl).self))) hc_freq_0 h2).mono (fun e w hc => ?_)) (fun w4 hw5 => ?_)
  · obtain ⟨rfl, h⟩ := hc
    exact ⟨rfl, h.chg0⟩
  have HS6 := HS0.keep hw5
  refine F_val rfl rfl rfl (O_notb rfl rfl) ?_
  refine F_val rfl rfl rfl (O_move rfl rfl) ?_
  refine F_grp 3 [(23, .bool (decide (((!z3) = true) ∨ (limit_1 < 1)))), (0, .slice A_freq_0 l_freq_0.length c_freq_0), (1, .int .i64 limit_1)] ?_ ?_
  · rcases Decidable.em ((!z3) = true) with c10 | c10
    · refine F_know (i := 20) rfl (congrArg Value.bool c10) ?_
      refine F_gskip rfl rfl rfl rfl rfl rfl rfl ?_
      refine F_gskip rfl rfl rfl rfl rfl rfl rfl ?_
      refine F_val rfl rfl rfl (O_pickT rfl rfl rfl) ?_
      refine F_know (i := 23) rfl (dec_or_t (q := limit_1 < 1) c10) ?_
      exact F_grpE (fun a ha => Is.cons ha (Is.cons ha (Is.cons ha (Is.nil ha) rfl) rfl) rfl)
    · refine F_know (i := 20) rfl (congrArg Value.bool (Bool.eq_false_iff.mpr c10)) ?_
      refine F_gval rfl rfl rfl rfl rfl rfl (O_move rfl rfl) ?_
      refine F_gval rfl rfl rfl rfl rfl rfl (O_lt rfl rfl rfl) ?_
      refine F_val rfl rfl rfl (O_pickF rfl rfl rfl) ?_
      refine F_know (i := 23) rfl (dec_or_f (q := limit_1 < 1) c10) ?_
      exact F_grpE (fun a ha => Is.cons ha (Is.cons ha (Is.cons ha (Is.nil ha) rfl) rfl) rfl)
  · skip
    refine F_val rfl rfl rfl (O_move rfl rfl) ?_
    refine F_grp 3 [(27, .bool (decide ((((!z3) = true) ∨ (limit_1 < 1)) ∨ (15 < limit_1)))), (0, .slice A_freq_0 l_freq_0.length c_freq_0), (1, .int .i64 limit_1)] ?_ ?_
    · rcases Decidable.em (((!z3) = true) ∨ (limit_1 < 1)) with c14 | c14
      · refine F_know (i := 24) rfl (dec_t c14) ?_
        refine F_gskip rfl rfl rfl rfl rfl rfl rfl ?_
        refine F_gskip rfl rfl rfl rfl rfl rfl rfl ?_
        refine F_val rfl rfl rfl (O_pickT rfl rfl rfl) ?_
        refine F_know (i := 27) rfl (dec_or_t (q := 15 < limit_1) c14) ?_
        exact F_grpE (fun a ha => Is.cons ha (Is.cons ha (Is.cons ha (Is.nil ha) rfl) rfl) rfl)
      · refine F_know (i := 24) rfl (dec_f c14) ?_
        refine F_gval rfl rfl rfl rfl rfl rfl (O_move rfl rfl) ?_
        refine F_gval rfl rfl rfl rfl rfl rfl (O_gt rfl rfl rfl) ?_
        refine F_val rfl rfl rfl (O_pickF rfl rfl rfl) ?_
        refine F_know (i := 27) rfl (dec_or_f (q := 15 < limit_1) c14) ?_
        exact F_grpE (fun a ha => Is.cons ha (Is.cons ha (Is.cons ha (Is.nil ha) rfl) rfl) rfl)
    · skip
      refine F_val rfl rfl rfl (O_move rfl rfl) ?_
      obtain ⟨b22, Hb22, H⟩ := of_bind H
      refine F_grpQ 7 [(35, .bool b22), (0, .slice A_freq_0 l_freq_0.length c_freq_0), (1, .int .i64 limit_1)] ?_ (fun w23 hw24 => ?_)
      · rcases Decidable.em ((((!z3) = true) ∨ (limit_1 < 1)) ∨ (15 < limit_1)) with c26 | c26
        · refine F_know (i := 28) rfl (dec_t c26) ?_
          have H := of_pos Hb22 c26
          refine F_gskip rfl rfl rfl rfl rfl rfl rfl ?_
          refine F_gskip rfl rfl rfl rfl rfl rfl rfl ?_
          refine F_gskip rfl rfl rfl rfl rfl rfl rfl ?_
          refine F_gskip rfl rfl rfl rfl rfl rfl rfl ?_
          refine F_gskip rfl rfl rfl rfl rfl rfl rfl ?_
          refine F_gskip rfl rfl rfl rfl rfl rfl rfl ?_
          refine F_val rfl rfl rfl (O_pickT rfl rfl rfl) ?_
          refine F_know (i := 35) rfl (congrArg Value.bool (Option.some.inj H)) ?_
          exact F_grpQE (Chg.refl NoB _) (fun a ha => Is.cons ha (Is.cons ha (Is.cons ha (Is.nil ha) rfl) rfl) rfl)
        · refine F_know (i := 28) rfl (dec_f c26) ?_
          have H := of_neg Hb22 c26
          refine F_gval rfl rfl rfl rfl rfl rfl (O_move rfl rfl) ?_
          obtain ⟨z29, h28, H⟩ := of_bind H
          refine F_gqcall (v := .int .i64 z29) (xs := [.tmp 29]) rfl rfl rfl rfl rfl rfl rfl Try.func30 nm30 rfl rfl ((valiselaw6_uses.calls (HS6.give [] rfl (Lent.rd HS6 (Lent.nil) (i := 0) rfl ((HS6.cells_rd (i := 0) rfl).self))) hc_freq_0 h28).mono (fun e w hc => ?_)) (fun w30 hw31 => ?_)
          · obtain ⟨rfl, h⟩ := hc
            exact ⟨rfl, h.chg0⟩
          have HS32 := HS6.keep hw31
          refine F_gval rfl rfl rfl rfl rfl rfl (O_move rfl rfl) ?_
          refine F_gval rfl rfl rfl rfl rfl rfl (O_conv rfl rfl ⟨_, Try.underlying3⟩ Try.underlying43) ?_
          obtain ⟨g33, H⟩ := of_gd H
          refine F_gval rfl rfl rfl rfl rfl rfl (O_shl rfl rfl rfl g33) ?_
          refine F_gval rfl rfl rfl rfl rfl rfl (O_gt rfl rfl rfl) ?_
          refine F_val rfl rfl rfl (O_pickF rfl rfl rfl) ?_
          refine F_know (i := 35) rfl (congrArg Value.bool (Option.some.inj H)) ?_
          exact F_grpQE ((Chg.refl NoB _).trans hw31) (fun a ha => Is.cons ha (Is.cons ha (Is.cons ha (Is.nil ha) rfl) rfl) rfl)
      · have HS25 := HS6.keep hw24
        refine F_nil ?_
        refine L_cond rfl (fun c34 => ?_) (fun c34 => ?_)
        · have H := of_pos H c34
          refine L_seq ?_
          refine L_region ?_
          refine F_val rfl rfl rfl (O_assign rfl rfl) ?_
          refine F_nil ?_
          refine L_ret (fun a ha => (post_ret1 ha rfl rfl ?_))
          obtain rfl := Option.some.inj H
          exact ⟨rfl, HS25.sel [] rfl⟩
        · have H := of_neg H (by rw [c34]; exact Bool.false_ne_true)
          refine L_skip ?_
          refine L_seq ?_
          refine L_region ?_
          refine F_val rfl rfl rfl (O_move rfl rfl) ?_
          obtain ⟨z39, h38, H⟩ := of_bind H
          refine F_call (xs := [.tmp 37]) rfl rfl rfl rfl Try.func24 nm24 rfl rfl ((valiselaw6_copied.calls (HS25.give [] rfl (Lent.rd HS25 (Lent.nil) (i := 0) rfl ((HS25.cells_rd (i := 0) rfl).self))) hc_freq_0 h38).mono (fun e w hc => ?_))
          obtain ⟨A42, c43, rfl, HSo⟩ := hc
          refine ⟨.slice A42 z39.length c43, rfl, ?_⟩
          have HS41 : Hp S0 w0 w [.rd A_freq_0 (rowC (Eint .i64) l_freq_0), .own A42 c43 (rowC (Eint .i64) z39) 3 (Eint .i64).sz] := (HS25.back [] HSo rfl).sel [0, 1] rfl
          obtain ⟨⟨z49, z50⟩, h48, H⟩ := of_bind H
          refine F_call (xs := [.tmp 38]) rfl rfl rfl rfl Try.func20 nm20 rfl rfl ((build_Depths.calls (HS41.give [] rfl (Lent.own HS41 (Lent.nil) (i := 1) rfl rfl ((HS41.cells_own (i := 1) rfl).self))) (HS41.own_capE (i := 1) rfl (by decide)) h48).mono (fun e w hc => ?_))
          obtain ⟨A53, c54, rfl, HSo⟩ := hc
          refine ⟨.tuple #[.slice A53 z49.length c54, .int .i64 z50], rfl, ?_⟩
          have HS52 : Hp S0 w0 w [.rd A_freq_0 (rowC (Eint .i64) l_freq_0), .own A42 c43 (rowC (Eint .i64) z39) 3 (Eint .i64).sz, .own A53 c54 (rowC (Eint .i64) z49) 3 (Eint .i64).sz] := (HS41.back [] HSo rfl).sel [0, 1, 2] rfl
          refine F_val rfl rfl rfl (O_move rfl rfl) ?_
          refine F_val rfl rfl rfl (O_extract (v := .slice A53 z49.length c54) rfl rfl rfl) ?_
          refine F_val rfl rfl rfl (O_extract (v := .int .i64 z50) rfl rfl rfl) ?_
          refine F_val rfl rfl rfl (O_assign rfl rfl) ?_
          refine F_val rfl rfl rfl (O_assign rfl rfl) ?_
          refine F_nil ?_
          refine L_seq ?_
          refine L_region ?_
          refine F_val rfl rfl rfl (O_move rfl rfl) ?_
          obtain ⟨z60, h59, H⟩ := of_bind H
          refine F_call (xs := [.tmp 43]) rfl rfl rfl rfl Try.func24 nm24 rfl rfl ((valiselaw6_copied.calls (HS52.give [] rfl (Lent.rd HS52 (Lent.nil) (i := 0) rfl ((HS52.cells_rd (i := 0) rfl).self))) hc_freq_0 h59).mono (fun e w hc => ?_))
          obtain ⟨A63, c64, rfl, HSo⟩ := hc
          refine ⟨.slice A63 z60.length c64, rfl, ?_⟩
          have HS62 : Hp S0 w0 w [.rd A_freq_0 (rowC (Eint .i64) l_freq_0), .own A42 c43 (rowC (Eint .i64) z39) 3 (Eint .i64).sz, .own A53 c54 (rowC (Eint .i64) z49) 3 (Eint .i64).sz, .own A63 c64 (rowC (Eint .i64) z60) 3 (Eint .i64).sz] := (HS52.back [] HSo rfl).sel [0, 1, 2, 3] rfl
          refine F_val rfl rfl rfl (O_move rfl rfl) ?_
          obtain ⟨⟨z70, z71⟩, h69, H⟩ := of_bind H
          refine F_call (xs := [.tmp 44, .tmp 45]) rfl rfl rfl rfl Try.func28 nm28 rfl rfl ((build_Limited.calls (HS62.give [] rfl (Lent.own HS62 (Lent.nil) (i := 3) rfl rfl ((HS62.cells_own (i := 3) rfl).self))) (HS62.own_capE (i := 3) rfl (by decide)) h69).mono (fun e w hc => ?_))
          obtain ⟨A74, c75, rfl, HSo⟩ := hc
          refine ⟨.tuple #[.slice A74 z70.length c75, .int .i64 z71], rfl, ?_⟩
          have HS73 : Hp S0 w0 w [.rd A_freq_0 (rowC (Eint .i64) l_freq_0), .own A42 c43 (rowC (Eint .i64) z39) 3 (Eint .i64).sz, .own A53 c54 (rowC (Eint .i64) z49) 3 (Eint .i64).sz, .own A63 c64 (rowC (Eint .i64) z60) 3 (Eint .i64).sz, .own A74 c75 (rowC (Eint .i64) z70) 3 (Eint .i64).sz] := (HS62.back [] HSo rfl).sel [0, 1, 2, 3, 4] rfl
          refine F_val rfl rfl rfl (O_move rfl rfl) ?_
          refine F_val rfl rfl rfl (O_extract (v := .slice A74 z70.length c75) rfl rfl rfl) ?_
          refine F_val rfl rfl rfl (O_extract (v := .int .i64 z71) rfl rfl rfl) ?_
          refine F_val rfl rfl rfl (O_assign rfl rfl) ?_
          refine F_val rfl rfl rfl (O_assign rfl rfl) ?_
          refine F_nil ?_
          refine L_seq ?_
          refine L_seq ?_
          have HS77 : Hp S0 w0 w [.rd A_freq_0 (rowC (Eint .i64) l_freq_0), .own A53 c54 (rowC (Eint .i64) z49) 3 (Eint .i64).sz, .own A74 c75 (rowC (Eint .i64) z70) 3 (Eint .i64).sz] := HS73.sel [0, 2, 4] rfl
          refine L_region ?_
          refine F_val rfl rfl rfl (O_move rfl rfl) ?_
          refine F_val rfl rfl rfl (O_ne rfl rfl rfl) ?_
          refine F_val rfl rfl rfl (O_move rfl rfl) ?_
          refine F_grp 3 [(54, .bool (decide ((z50 ≠ 0) ∨ (z71 ≠ 0)))), (0, .slice A_freq_0 l_freq_0.length c_freq_0), (1, .int .i64 limit_1), (5, .slice A53 z49.length c54), (7, .slice A74 z70.length c75)] ?_ ?_
          · rcases Decidable.em (z50 ≠ 0) with c81 | c81
            · refine F_know (i := 51) rfl (dec_t c81) ?_
              refine F_gskip rfl rfl rfl rfl rfl rfl rfl ?_
              refine F_gskip rfl rfl rfl rfl rfl rfl rfl ?_
              refine F_val rfl rfl rfl (O_pickT rfl rfl rfl) ?_
              refine F_know (i := 54) rfl (dec_or_t (q := z71 ≠ 0) c81) ?_
              exact F_grpE (fun a ha => Is.cons ha (Is.cons ha (Is.cons ha (Is.cons ha (Is.cons ha (Is.nil ha) rfl) rfl) rfl) rfl) rfl)
            · refine F_know (i := 51) rfl (dec_f c81) ?_
              refine F_gval rfl rfl rfl rfl rfl rfl (O_move rfl rfl) ?_
              refine F_gval rfl rfl rfl rfl rfl rfl (O_ne rfl rfl rfl) ?_
              refine F_val rfl rfl rfl (O_pickF rfl rfl rfl) ?_
              refine F_know (i := 54) rfl (dec_or_f (q := z71 ≠ 0) c81) ?_
              exact F_grpE (fun a ha => Is.cons ha (Is.cons ha (Is.cons ha (Is.cons ha (Is.cons ha (Is.nil ha) rfl) rfl) rfl) rfl) rfl)
          · skip
            refine F_val rfl rfl rfl (O_move rfl rfl) ?_
            obtain ⟨b88, Hb88, H⟩ := of_bind H
            refine F_grpQ 5 [(60, .bool b88), (0, .slice A_freq_0 l_freq_0.length c_freq_0), (1, .int .i64 limit_1), (5, .slice A53 z49.length c54), (7, .slice A74 z70.length c75)] ?_ (fun w89 hw90 => ?_)
            · rcases Decidable.em ((z50 ≠ 0) ∨ (z71 ≠ 0)) with c92 | c92
              · refine F_know (i := 55) rfl (dec_t c92) ?_
                have H := of_pos Hb88 c92
                refine F_gskip rfl rfl rfl rfl rfl rfl rfl ?_
                refine F_gskip rfl rfl rfl rfl rfl rfl rfl ?_
                refine F_gskip rfl rfl rfl rfl rfl rfl rfl ?_
                refine F_gskip rfl rfl rfl rfl rfl rfl rfl ?_
                refine F_val rfl rfl rfl (O_pickT rfl rfl rfl) ?_
                refine F_know (i := 60) rfl (congrArg Value.bool (Option.some.inj H)) ?_
                exact F_grpQE (Chg.refl NoB _) (fun a ha => Is.cons ha (Is.cons ha (Is.cons ha (Is.cons ha (Is.cons ha (Is.nil ha) rfl) rfl) rfl) rfl) rfl)
              · refine F_know (i := 55) rfl (dec_f c92) ?_
                have H := of_neg Hb88 c92
                refine F_gval rfl rfl rfl rfl rfl rfl (O_move rfl rfl) ?_
                refine F_gval rfl rfl rfl rfl rfl rfl (O_move rfl rfl) ?_
                obtain ⟨z95, h94, H⟩ := of_bind H
                refine F_gqcall (v := .bool z95) (xs := [.tmp 56, .tmp 57, .const (.int .i64 60)]) rfl rfl rfl rfl rfl rfl rfl Try.func25 nm25 rfl rfl ((valiselaw6_good.calls (HS77.give [] rfl (Lent.rd HS77 (Lent.own HS77 (Lent.nil) (i := 1) rfl rfl ((HS77.cells_own (i := 1) rfl).self)) (i := 0) rfl ((HS77.cells_rd (i := 0) rfl).self))) hc_freq_0 (HS77.own_capE (i := 1) rfl (by decide)) h94).mono (fun e w hc => ?_)) (fun w96 hw97 => ?_)
                · obtain ⟨rfl, h⟩ := hc
                  exact ⟨rfl, h.chg0⟩
                have HS98 := HS77.keep hw97
                refine F_gval rfl rfl rfl rfl rfl rfl (O_notb rfl rfl) ?_
                refine F_val rfl rfl rfl (O_pickF rfl rfl rfl) ?_
                refine F_know (i := 60) rfl (congrArg Value.bool (Option.some.inj H)) ?_
                exact F_grpQE ((Chg.refl NoB _).trans hw97) (fun a ha => Is.cons ha (Is.cons ha (Is.cons ha (Is.cons ha (Is.cons ha (Is.nil ha) rfl) rfl) rfl) rfl) rfl)
            · have HS91 := HS77.keep hw90
              refine F_val rfl rfl rfl (O_move rfl rfl) ?_
              obtain ⟨b105, Hb105, H⟩ := of_bind H
              refine F_grpQ 6 [(67, .bool b105), (0, .slice A_freq_0 l_freq_0.length c_freq_0), (1, .int .i64 limit_1), (5, .slice A53 z49.length c54), (7, .slice A74 z70.length c75)] ?_ (fun w106 hw107 => ?_)
              · rcases Decidable.em (b88 = true) with c109 | c109
                · refine F_know (i := 61) rfl (congrArg Value.bool c109) ?_
                  have H := of_pos Hb105 c109
                  refine F_gskip rfl rfl rfl rfl rfl rfl rfl ?_
                  refine F_gskip rfl rfl rfl rfl rfl rfl rfl ?_
                  refine F_gskip rfl rfl rfl rfl rfl rfl rfl ?_
                  refine F_gskip rfl rfl rfl rfl rfl rfl rfl ?_
                  refine F_gskip rfl rfl rfl rfl rfl rfl rfl ?_
                  refine F_val rfl rfl rfl (O_pickT rfl rfl rfl) ?_
                  refine F_know (i := 67) rfl (congrArg Value.bool (Option.some.inj H)) ?_
                  exact F_grpQE (Chg.refl NoB _) (fun a ha => Is.cons ha (Is.cons ha (Is.cons ha (Is.cons ha (Is.cons ha (Is.nil ha) rfl) rfl) rfl) rfl) rfl)
                · refine F_know (i := 61) rfl (congrArg Value.bool (Bool.eq_false_iff.mpr c109)) ?_
                  have H := of_neg Hb105 c109
                  refine F_gval rfl rfl rfl rfl rfl rfl (O_move rfl rfl) ?_
                  refine F_gval rfl rfl rfl rfl rfl rfl (O_move rfl rfl) ?_
                  refine F_gval rfl rfl rfl rfl rfl rfl (O_move rfl rfl) ?_
                  obtain ⟨z112, h111, H⟩ := of_bind H
                  refine F_gqcall (v := .bool z112) (xs := [.tmp 62, .tmp 63, .tmp 64]) rfl rfl rfl rfl rfl rfl rfl Try.func25 nm25 rfl rfl ((valiselaw6_good.calls (HS91.give [] rfl (Lent.rd HS91 (Lent.own HS91 (Lent.nil) (i := 2) rfl rfl ((HS91.cells_own (i := 2) rfl).self)) (i := 0) rfl ((HS91.cells_rd (i := 0) rfl).self))) hc_freq_0 (HS91.own_capE (i := 2) rfl (by decide)) h111).mono (fun e w hc => ?_)) (fun w113 hw114 => ?_)
                  · obtain ⟨rfl, h⟩ := hc
                    exact ⟨rfl, h.chg0⟩
                  have HS115 := HS91.keep hw114
                  refine F_gval rfl rfl rfl rfl rfl rfl (O_notb rfl rfl) ?_
                  refine F_val rfl rfl rfl (O_pickF rfl rfl rfl) ?_
                  refine F_know (i := 67) rfl (congrArg Value.bool (Option.some.inj H)) ?_
                  exact F_grpQE ((Chg.refl NoB _).trans hw114) (fun a ha => Is.cons ha (Is.cons ha (Is.cons ha (Is.cons ha (Is.cons ha (Is.nil ha) rfl) rfl) rfl) rfl) rfl)
              · have HS108 := HS91.keep hw107
                refine F_nil ?_
                refine L_cond rfl (fun c116 => ?_) (fun c116 => ?_)
                · have H := of_pos H c116
                  refine L_seq ?_
                  have HS117 : Hp S0 w0 w106 [.rd A_freq_0 (rowC (Eint .i64) l_freq_0)] := HS108.sel [0] rfl
                  refine L_region ?_
                  refine F_val rfl rfl rfl (O_assign rfl rfl) ?_
                  refine F_nil ?_
                  refine L_ret (fun a ha => (post_ret1 ha rfl rfl ?_))
                  obtain rfl := Option.some.inj H
                  exact ⟨rfl, HS117.sel [] rfl⟩
                · have H := of_neg H (by rw [c116]; exact Bool.false_ne_true)
                  refine L_skip ?_
                  refine L_seq ?_
                  refine L_region ?_
                  refine F_val rfl rfl rfl (O_move rfl rfl) ?_
                  obtain ⟨z122, h121, H⟩ := of_bind H
                  refine F_call (xs := [.tmp 69]) rfl rfl rfl rfl Try.func24 nm24 rfl rfl ((valiselaw6_copied.calls (HS108.give [] rfl (Lent.rd HS108 (Lent.nil) (i := 0) rfl ((HS108.cells_rd (i := 0) rfl).self))) hc_freq_0 h121).mono (fun e w hc => ?_))
                  obtain ⟨A125, c126, rfl, HSo⟩ := hc
                  refine ⟨.slice A125 z122.length c126, rfl, ?_⟩
                  have HS124 : Hp S0 w0 w [.rd A_freq_0 (rowC (Eint .i64) l_freq_0), .own A53 c54 (rowC (Eint .i64) z49) 3 (Eint .i64).sz, .own A74 c75 (rowC (Eint .i64) z70) 3 (Eint .i64).sz, .own A125 c126 (rowC (Eint .i64) z122) 3 (Eint .i64).sz] := (HS108.back [] HSo rfl).sel [0, 1, 2, 3] rfl
                  refine F_val rfl rfl rfl (O_move rfl rfl) ?_
                  obtain ⟨⟨z130, z131⟩, h129, H⟩ := of_bind H
                  refine F_qcall (v := .tuple #[.int .i64 z130, .int .i64 z131]) (xs := [.tmp 70, .tmp 71]) rfl rfl rfl rfl Try.func16 nm16 rfl rfl ((build_Cost.calls (HS124.give [] rfl (Lent.own HS124 (Lent.own HS124 (Lent.nil) (i := 1) rfl rfl ((HS124.cells_own (i := 1) rfl).self)) (i := 3) rfl rfl ((HS124.cells_own (i := 3) rfl).self))) (HS124.own_capE (i := 3) rfl (by decide)) (HS124.own_capE (i := 1) rfl (by decide)) h129).mono (fun e w hc => ?_)) (fun w132 hw133 => ?_)
                  · obtain ⟨rfl, h⟩ := hc
                    exact ⟨rfl, h.chg0⟩
                  have HS134 := HS124.keep hw133
                  refine F_val rfl rfl rfl (O_move rfl rfl) ?_
                  refine F_val rfl rfl rfl (O_extract (v := .int .i64 z130) rfl rfl rfl) ?_
                  refine F_val rfl rfl rfl (O_extract (v := .int .i64 z131) rfl rfl rfl) ?_
                  refine F_val rfl rfl rfl (O_assign rfl rfl) ?_
                  refine F_val rfl rfl rfl (O_assign rfl rfl) ?_
                  refine F_nil ?_
                  refine L_seq ?_
                  refine L_region ?_
                  refine F_val rfl rfl rfl (O_move rfl rfl) ?_
                  obtain ⟨z139, h138, H⟩ := of_bind H
                  refine F_call (xs := [.tmp 76]) rfl rfl rfl rfl Try.func24 nm24 rfl rfl ((valiselaw6_copied.calls (HS134.give [] rfl (Lent.rd HS134 (Lent.nil) (i := 0) rfl ((HS134.cells_rd (i := 0) rfl).self))) hc_freq_0 h138).mono (fun e w hc => ?_))
                  obtain ⟨A142, c143, rfl, HSo⟩ := hc
                  refine ⟨.slice A142 z139.length c143, rfl, ?_⟩
                  have HS141 : Hp S0 w0 w [.rd A_freq_0 (rowC (Eint .i64) l_freq_0), .own A53 c54 (rowC (Eint .i64) z49) 3 (Eint .i64).sz, .own A74 c75 (rowC (Eint .i64) z70) 3 (Eint .i64).sz, .own A125 c126 (rowC (Eint .i64) z122) 3 (Eint .i64).sz, .own A142 c143 (rowC (Eint .i64) z139) 3 (Eint .i64).sz] := (HS134.back [] HSo rfl).sel [0, 1, 2, 3, 4] rfl
                  refine F_val rfl rfl rfl (O_move rfl rfl) ?_
                  obtain ⟨⟨z147, z148⟩, h146, H⟩ := of_bind H
                  refine F_qcall (v := .tuple #[.int .i64 z147, .int .i64 z148]) (xs := [.tmp 77, .tmp 78]) rfl rfl rfl rfl Try.func16 nm16 rfl rfl ((build_Cost.calls (HS141.give [] rfl (Lent.own HS141 (Lent.own HS141 (Lent.nil) (i := 2) rfl rfl ((HS141.cells_own (i := 2) rfl).self)) (i := 4) rfl rfl ((HS141.cells_own (i := 4) rfl).self))) (HS141.own_capE (i := 4) rfl (by decide)) (HS141.own_capE (i := 2) rfl (by decide)) h146).mono (fun e w hc => ?_)) (fun w149 hw150 => ?_)
                  · obtain ⟨rfl, h⟩ := hc
                    exact ⟨rfl, h.chg0⟩
                  have HS151 := HS141.keep hw150
                  refine F_val rfl rfl rfl (O_move rfl rfl) ?_
                  refine F_val rfl rfl rfl (O_extract (v := .int .i64 z147) rfl rfl rfl) ?_
                  refine F_val rfl rfl rfl (O_extract (v := .int .i64 z148) rfl rfl rfl) ?_
                  refine F_val rfl rfl rfl (O_assign rfl rfl) ?_
                  refine F_val rfl rfl rfl (O_assign rfl rfl) ?_
                  refine F_nil ?_
                  refine L_seq ?_
                  refine L_seq ?_
                  have HS152 : Hp S0 w0 w149 [.rd A_freq_0 (rowC (Eint .i64) l_freq_0), .own A53 c54 (rowC (Eint .i64) z49) 3 (Eint .i64).sz, .own A74 c75 (rowC (Eint .i64) z70) 3 (Eint .i64).sz] := HS151.sel [0, 1, 2] rfl
                  refine L_region ?_
                  refine F_val rfl rfl rfl (O_move rfl rfl) ?_
                  refine F_val rfl rfl rfl (O_ne rfl rfl rfl) ?_
                  refine F_val rfl rfl rfl (O_move rfl rfl) ?_
                  refine F_grp 3 [(87, .bool (decide ((z131 ≠ 0) ∨ (z148 ≠ 0)))), (0, .slice A_freq_0 l_freq_0.length c_freq_0), (1, .int .i64 limit_1), (5, .slice A53 z49.length c54), (7, .slice A74 z70.length c75), (9, .int .i64 z130), (11, .int .i64 z147)] ?_ ?_
                  · rcases Decidable.em (z131 ≠ 0) with c156 | c156
                    · refine F_know (i := 84) rfl (dec_t c156) ?_
                      refine F_gskip rfl rfl rfl rfl rfl rfl rfl ?_
                      refine F_gskip rfl rfl rfl rfl rfl rfl rfl ?_
                      refine F_val rfl rfl rfl (O_pickT rfl rfl rfl) ?_
                      refine F_know (i := 87) rfl (dec_or_t (q := z148 ≠ 0) c156) ?_
                      exact F_grpE (fun a ha => Is.cons ha (Is.cons ha (Is.cons ha (Is.cons ha (Is.cons ha (Is.cons ha (Is.cons ha (Is.nil ha) rfl) rfl) rfl) rfl) rfl) rfl) rfl)
                    · refine F_know (i := 84) rfl (dec_f c156) ?_
                      refine F_gval rfl rfl rfl rfl rfl rfl (O_move rfl rfl) ?_
                      refine F_gval rfl rfl rfl rfl rfl rfl (O_ne rfl rfl rfl) ?_
                      refine F_val rfl rfl rfl (O_pickF rfl rfl rfl) ?_
                      refine F_know (i := 87) rfl (dec_or_f (q := z148 ≠ 0) c156) ?_
                      exact F_grpE (fun a ha => Is.cons ha (Is.cons ha (Is.cons ha (Is.cons ha (Is.cons ha (Is.cons ha (Is.cons ha (Is.nil ha) rfl) rfl) rfl) rfl) rfl) rfl) rfl)
                  · skip
                    refine F_val rfl rfl rfl (O_move rfl rfl) ?_
                    obtain ⟨b163, Hb163, H⟩ := of_bind H
                    refine F_grpQ 6 [(94, .bool b163), (0, .slice A_freq_0 l_freq_0.length c_freq_0), (1, .int .i64 limit_1), (5, .slice A53 z49.length c54), (7, .slice A74 z70.length c75), (9, .int .i64 z130), (11, .int .i64 z147)] ?_ (fun w164 hw165 => ?_)
                    · rcases Decidable.em ((z131 ≠ 0) ∨ (z148 ≠ 0)) with c167 | c167
                      · refine F_know (i := 88) rfl (dec_t c167) ?_
                        have H := of_pos Hb163 c167
                        refine F_gskip rfl rfl rfl rfl rfl rfl rfl ?_
                        refine F_gskip rfl rfl rfl rfl rfl rfl rfl ?_
                        refine F_gskip rfl rfl rfl rfl rfl rfl rfl ?_
                        refine F_gskip rfl rfl rfl rfl rfl rfl rfl ?_
                        refine F_gskip rfl rfl rfl rfl rfl rfl rfl ?_
                        refine F_val rfl rfl rfl (O_pickT rfl rfl rfl) ?_
                        refine F_know (i := 94) rfl (congrArg Value.bool (Option.some.inj H)) ?_
                        exact F_grpQE (Chg.refl NoB _) (fun a ha => Is.cons ha (Is.cons ha (Is.cons ha (Is.cons ha (Is.cons ha (Is.cons ha (Is.cons ha (Is.nil ha) rfl) rfl) rfl) rfl) rfl) rfl) rfl)
                      · refine F_know (i := 88) rfl (dec_f c167) ?_
                        have H := of_neg Hb163 c167
                        refine F_gval rfl rfl rfl rfl rfl rfl (O_move rfl rfl) ?_
                        refine F_gval rfl rfl rfl rfl rfl rfl (O_move rfl rfl) ?_
                        refine F_gval rfl rfl rfl rfl rfl rfl (O_move rfl rfl) ?_
                        obtain ⟨z170, h169, H⟩ := of_bind H
                        refine F_gqcall (v := .int .i64 z170) (xs := [.tmp 90, .tmp 91]) rfl rfl rfl rfl rfl rfl rfl Try.func27 nm27 rfl rfl ((valiselaw6_cost.calls (HS152.give [] rfl (Lent.rd HS152 (Lent.own HS152 (Lent.nil) (i := 1) rfl rfl ((HS152.cells_own (i := 1) rfl).self)) (i := 0) rfl ((HS152.cells_rd (i := 0) rfl).self))) hc_freq_0 (HS152.own_capE (i := 1) rfl (by decide)) h169).mono (fun e w hc => ?_)) (fun w171 hw172 => ?_)
                        · obtain ⟨rfl, h⟩ := hc
                          exact ⟨rfl, h.chg0⟩
                        have HS173 := HS152.keep hw172
                        refine F_gval rfl rfl rfl rfl rfl rfl (O_ne rfl rfl rfl) ?_
                        refine F_val rfl rfl rfl (O_pickF rfl rfl rfl) ?_
                        refine F_know (i := 94) rfl (congrArg Value.bool (Option.some.inj H)) ?_
                        exact F_grpQE ((Chg.refl NoB _).trans hw172) (fun a ha => Is.cons ha (Is.cons ha (Is.cons ha (Is.cons ha (Is.cons ha (Is.cons ha (Is.cons ha (Is.nil ha) rfl) rfl) rfl) rfl) rfl) rfl) rfl)
                    · have HS166 := HS152.keep hw165
                      refine F_val rfl rfl rfl (O_move rfl rfl) ?_
                      obtain ⟨b180, Hb180, H⟩ := of_bind H
                      refine F_grpQ 6 [(101, .bool b180), (0, .slice A_freq_0 l_freq_0.length c_freq_0), (1, .int .i64 limit_1), (5, .slice A53 z49.length c54), (9, .int .i64 z130), (11, .int .i64 z147)] ?_ (fun w181 hw182 => ?_)
                      · rcases Decidable.em (b163 = true) with c184 | c184
                        · refine F_know (i := 95) rfl (congrArg Value.bool c184) ?_
                          have H := of_pos Hb180 c184
                          refine F_gskip rfl rfl rfl rfl rfl rfl rfl ?_
                          refine F_gskip rfl rfl rfl rfl rfl rfl rfl ?_
                          refine F_gskip rfl rfl rfl rfl rfl rfl rfl ?_
                          refine F_gskip rfl rfl rfl rfl rfl rfl rfl ?_
                          refine F_gskip rfl rfl rfl rfl rfl rfl rfl ?_
                          refine F_val rfl rfl rfl (O_pickT rfl rfl rfl) ?_
                          refine F_know (i := 101) rfl (congrArg Value.bool (Option.some.inj H)) ?_
                          exact F_grpQE (Chg.refl NoB _) (fun a ha => Is.cons ha (Is.cons ha (Is.cons ha (Is.cons ha (Is.cons ha (Is.cons ha (Is.nil ha) rfl) rfl) rfl) rfl) rfl) rfl)
                        · refine F_know (i := 95) rfl (congrArg Value.bool (Bool.eq_false_iff.mpr c184)) ?_
                          have H := of_neg Hb180 c184
                          refine F_gval rfl rfl rfl rfl rfl rfl (O_move rfl rfl) ?_
                          refine F_gval rfl rfl rfl rfl rfl rfl (O_move rfl rfl) ?_
                          refine F_gval rfl rfl rfl rfl rfl rfl (O_move rfl rfl) ?_
                          obtain ⟨z187, h186, H⟩ := of_bind H
                          refine F_gqcall (v := .int .i64 z187) (xs := [.tmp 97, .tmp 98]) rfl rfl rfl rfl rfl rfl rfl Try.func27 nm27 rfl rfl ((valiselaw6_cost.calls (HS166.give [] rfl (Lent.rd HS166 (Lent.own HS166 (Lent.nil) (i := 2) rfl rfl ((HS166.cells_own (i := 2) rfl).self)) (i := 0) rfl ((HS166.cells_rd (i := 0) rfl).self))) hc_freq_0 (HS166.own_capE (i := 2) rfl (by decide)) h186).mono (fun e w hc => ?_)) (fun w188 hw189 => ?_)
                          · obtain ⟨rfl, h⟩ := hc
                            exact ⟨rfl, h.chg0⟩
                          have HS190 := HS166.keep hw189
                          refine F_gval rfl rfl rfl rfl rfl rfl (O_ne rfl rfl rfl) ?_
                          refine F_val rfl rfl rfl (O_pickF rfl rfl rfl) ?_
                          refine F_know (i := 101) rfl (congrArg Value.bool (Option.some.inj H)) ?_
                          exact F_grpQE ((Chg.refl NoB _).trans hw189) (fun a ha => Is.cons ha (Is.cons ha (Is.cons ha (Is.cons ha (Is.cons ha (Is.cons ha (Is.nil ha) rfl) rfl) rfl) rfl) rfl) rfl)
                      · have HS183 := HS166.keep hw182
                        refine F_val rfl rfl rfl (O_move rfl rfl) ?_
                        refine F_grp 4 [(106, .bool (decide ((b180 = true) ∨ (z147 < z130)))), (0, .slice A_freq_0 l_freq_0.length c_freq_0), (1, .int .i64 limit_1), (5, .slice A53 z49.length c54), (9, .int .i64 z130), (11, .int .i64 z147)] ?_ ?_
                        · rcases Decidable.em (b180 = true) with c194 | c194
                          · refine F_know (i := 102) rfl (congrArg Value.bool c194) ?_
                            refine F_gskip rfl rfl rfl rfl rfl rfl rfl ?_
                            refine F_gskip rfl rfl rfl rfl rfl rfl rfl ?_
                            refine F_gskip rfl rfl rfl rfl rfl rfl rfl ?_
                            refine F_val rfl rfl rfl (O_pickT rfl rfl rfl) ?_
                            refine F_know (i := 106) rfl (dec_or_t (q := z147 < z130) c194) ?_
                            exact F_grpE (fun a ha => Is.cons ha (Is.cons ha (Is.cons ha (Is.cons ha (Is.cons ha (Is.cons ha (Is.nil ha) rfl) rfl) rfl) rfl) rfl) rfl)
                          · refine F_know (i := 102) rfl (congrArg Value.bool (Bool.eq_false_iff.mpr c194)) ?_
                            refine F_gval rfl rfl rfl rfl rfl rfl (O_move rfl rfl) ?_
                            refine F_gval rfl rfl rfl rfl rfl rfl (O_move rfl rfl) ?_
                            refine F_gval rfl rfl rfl rfl rfl rfl (O_lt rfl rfl rfl) ?_
                            refine F_val rfl rfl rfl (O_pickF rfl rfl rfl) ?_
                            refine F_know (i := 106) rfl (dec_or_f (q := z147 < z130) c194) ?_
                            exact F_grpE (fun a ha => Is.cons ha (Is.cons ha (Is.cons ha (Is.cons ha (Is.cons ha (Is.cons ha (Is.nil ha) rfl) rfl) rfl) rfl) rfl) rfl)
                        · skip
                          refine F_nil ?_
                          refine L_condP rfl (fun c195 => ?_) (fun c195 => ?_)
                          · have H := of_pos H c195
                            refine L_seq ?_
                            have HS196 : Hp S0 w0 w181 [.rd A_freq_0 (rowC (Eint .i64) l_freq_0)] := HS183.sel [0] rfl
                            refine L_region ?_
                            refine F_val rfl rfl rfl (O_assign rfl rfl) ?_
                            refine F_nil ?_
                            refine L_ret (fun a ha => (post_ret1 ha rfl rfl ?_))
                            obtain rfl := Option.some.inj H
                            exact ⟨rfl, HS196.sel [] rfl⟩
                          · have H := of_neg H c195
                            refine L_skip ?_
                            refine L_seq ?_
                            refine L_region ?_
                            refine F_val rfl rfl rfl (O_assign rfl rfl) ?_
                            refine F_nil ?_
                            refine L_seq ?_
                            refine L_seq ?_
                            refine L_region ?_
                            refine F_val rfl rfl rfl (O_assign rfl rfl) ?_
                            refine F_nil ?_
                            obtain ⟨yj197, Hyj197, H⟩ := of_bind H
                            refine L_join (fun a w => ∃ (deep_230 : Int), yj197 = deep_230 ∧ Is Try.f12.ntmps a [(0, .slice A_freq_0 l_freq_0.length c_freq_0), (1, .int .i64 limit_1), (9, .int .i64 z130), (11, .int .i64 z147), (13, .int .i64 deep_230)] ∧ Hp S0 w0 w [.rd A_freq_0 (rowC (Eint .i64) l_freq_0)]) (fun Qj197 hNj197 hOj197 => ?_) (fun a w hR => ?_)
                            · skip
                              have H := Hyj197
                              refine L_blk (fun Qb231 hNb231 hXb231 hOb231 => ?_)
                              refine L_lp (fun k a w => ∃ (deep_251 : Int), ∃ (s_252 : Int), Is Try.f12.ntmps a [(0, .slice A_freq_0 l_freq_0.length c_freq_0), (1, .int .i64 limit_1), (5, .slice A53 z49.length c54), (9, .int .i64 z130), (11, .int .i64 z147), (13, .int .i64 deep_251), (14, .int .i64 s_252)] ∧ Hp S0 w0 w [.rd A_freq_0 (rowC (Eint .i64) l_freq_0), .own A53 c54 (rowC (Eint .i64) z49) 3 (Eint .i64).sz] ∧ valiselaw6_BuildLimits.l1 k deep_251 s_252 z49 = some yj197) FU (fun a ha => ⟨_, _, Is.cons ha (Is.cons ha (Is.cons ha (Is.cons ha (Is.cons ha (Is.cons ha (Is.cons ha (Is.nil ha) rfl) rfl) rfl) rfl) rfl) rfl) rfl, HS183.sel [0, 1] rfl, H⟩) (fun kp250 a w253 hI Qp250 hNp250 hOp250 => ?_)
                              obtain ⟨deep_251, s_252, ha, HS254, HAp250⟩ := hI
                              cases kp250 with
                              | zero => cases (show (none : Option _) = some _ from HAp250)
                              | succ kp250 =>
                                have H := (valiselaw6_BuildLimits.l1.eq_2 ..).symm.trans HAp250
                                refine wpLF_app ?_ ha
                                refine L_seq ?_
                                refine L_seq ?_
                                refine L_region ?_
                                refine F_val rfl rfl rfl (O_move rfl rfl) ?_
                                refine F_val rfl rfl rfl (O_move rfl rfl) ?_
                                refine F_val rfl rfl rfl (O_len rfl rfl Try.underlying22) ?_
                                refine F_val rfl rfl rfl (O_lt rfl rfl rfl) ?_
                                refine F_nil ?_
                                refine L_condP rfl (fun c255 => ?_) (fun c255 => ?_)
                                · have H := of_pos H c255
                                  refine L_skip ?_
                                  refine L_seq ?_
                                  refine L_blk (fun Q256 hN256 hX256 hO256 => ?_)
                                  refine L_region ?_
                                  refine F_val rfl rfl rfl (O_move rfl rfl) ?_
                                  refine F_val rfl rfl rfl (O_move rfl rfl) ?_
                                  refine F_val rfl rfl rfl (O_move rfl rfl) ?_
                                  obtain ⟨⟨g257, g258⟩, H⟩ := of_gd H
                                  refine F_val rfl rfl rfl (O_idx rfl rfl rfl Try.underlying22 size3 g257 g258 (Cells.isA (HS254.cells_own (i := 1) rfl) (rowC_ne (E := (Eint .i64)) g257 g258 (by decide)))) ?_
                                  refine F_val rfl rfl rfl (O_loadC rfl rfl flat3 (HS254.cells_own (i := 1) rfl) (int_cell g257 g258)) ?_
                                  refine F_val rfl rfl rfl (O_max rfl rfl rfl) ?_
                                  obtain ⟨x259, h260, H⟩ := of_bnd H
                                  refine F_val rfl rfl rfl (O_assign' rfl rfl (congrArg (Value.int .i64) h260)) ?_
                                  refine F_nil ?_
                                  refine L_endB hN256 ?_
                                  refine L_region ?_
                                  refine F_val rfl rfl rfl (O_move rfl rfl) ?_
                                  refine F_val rfl rfl rfl (O_add rfl rfl rfl) ?_
                                  obtain ⟨x261, h262, H⟩ := of_bnd H
                                  refine F_val rfl rfl rfl (O_assign' rfl rfl (congrArg (Value.int .i64) h262)) ?_
                                  refine F_nil ?_
                                  refine L_nil (fun a ha => hNp250 _ a _ (Nat.lt_succ_self _) ⟨_, _, Is.cons ha (Is.cons ha (Is.cons ha (Is.cons ha (Is.cons ha (Is.cons ha (Is.cons ha (Is.nil ha) rfl) rfl) rfl) rfl) rfl) rfl) rfl, HS254.sel [0, 1] rfl, H⟩)
                                · have H := of_neg H c255
                                  refine L_exitB (fun a w h => hOp250 (.exit 0) a w rfl (hXb231 a w h)) ?_
                                  refine L_nil (fun a ha => hNj197 a _ ⟨_, (Option.some.inj H).symm, Is.cons ha (Is.cons ha (Is.cons ha (Is.cons ha (Is.cons ha (Is.nil ha) rfl) rfl) rfl) rfl) rfl, HS254.sel [0] rfl⟩)
                            · obtain ⟨deep_230, ej, ha, HS264⟩ := hR
                              obtain rfl := ej.symm
                              refine wpLF_app ?_ ha
                              refine L_seq ?_
                              refine L_seq ?_
                              refine L_region ?_
                              refine F_val rfl rfl rfl (O_move rfl rfl) ?_
                              refine F_val rfl rfl rfl (O_move rfl rfl) ?_
                              refine F_val rfl rfl rfl (O_le rfl rfl rfl) ?_
                              refine F_val rfl rfl rfl (O_move rfl rfl) ?_
                              refine F_grp 4 [(126, .bool (decide ((deep_230 ≤ limit_1) ∧ (z130 ≠ z147)))), (0, .slice A_freq_0 l_freq_0.length c_freq_0), (1, .int .i64 limit_1), (11, .int .i64 z147)] ?_ ?_
                              · rcases Decidable.em (deep_230 ≤ limit_1) with c268 | c268
                                · refine F_know (i := 122) rfl (dec_t c268) ?_
                                  refine F_gval rfl rfl rfl rfl rfl rfl (O_move rfl rfl) ?_
                                  refine F_gval rfl rfl rfl rfl rfl rfl (O_move rfl rfl) ?_
                                  refine F_gval rfl rfl rfl rfl rfl rfl (O_ne rfl rfl rfl) ?_
                                  refine F_val rfl rfl rfl (O_pickT rfl rfl rfl) ?_
                                  refine F_know (i := 126) rfl (dec_and_t (q := z130 ≠ z147) c268) ?_
                                  exact F_grpE (fun a ha => Is.cons ha (Is.cons ha (Is.cons ha (Is.cons ha (Is.nil ha) rfl) rfl) rfl) rfl)
                                · refine F_know (i := 122) rfl (dec_f c268) ?_
                                  refine F_gskip rfl rfl rfl rfl rfl rfl rfl ?_
                                  refine F_gskip rfl rfl rfl rfl rfl rfl rfl ?_
                                  refine F_gskip rfl rfl rfl rfl rfl rfl rfl ?_
                                  refine F_val rfl rfl rfl (O_pickF rfl rfl rfl) ?_
                                  refine F_know (i := 126) rfl (dec_and_f (q := z130 ≠ z147) c268) ?_
                                  exact F_grpE (fun a ha => Is.cons ha (Is.cons ha (Is.cons ha (Is.cons ha (Is.nil ha) rfl) rfl) rfl) rfl)
                              · skip
                                refine F_nil ?_
                                refine L_condP rfl (fun c269 => ?_) (fun c269 => ?_)
                                · have H := of_pos H c269
                                  refine L_seq ?_
                                  refine L_region ?_
                                  refine F_val rfl rfl rfl (O_assign rfl rfl) ?_
                                  refine F_nil ?_
                                  refine L_ret (fun a ha => (post_ret1 ha rfl rfl ?_))
                                  obtain rfl := Option.some.inj H
                                  exact ⟨rfl, HS264.sel [] rfl⟩
                                · have H := of_neg H c269
                                  refine L_skip ?_
                                  refine L_seq ?_
                                  refine L_seq ?_
                                  refine L_region ?_
                                  refine F_val rfl rfl rfl (O_move rfl rfl) ?_
                                  refine F_val rfl rfl rfl (O_eq rfl rfl rfl) ?_
                                  refine F_nil ?_
                                  refine L_condP rfl (fun c270 => ?_) (fun c270 => ?_)
                                  · have H := of_pos H c270
                                    refine L_seq ?_
                                    refine L_region ?_
                                    refine F_val rfl rfl rfl (O_assign rfl rfl) ?_
                                    refine F_nil ?_
                                    refine L_ret (fun a ha => (post_ret1 ha rfl rfl ?_))
                                    obtain rfl := Option.some.inj H
                                    exact ⟨rfl, HS264.sel [] rfl⟩
                                  · have H := of_neg H c270
                                    refine L_skip ?_
                                    refine L_seq ?_
                                    refine L_region ?_
                                    refine F_val rfl rfl rfl (O_move rfl rfl) ?_
                                    obtain ⟨z275, h274, H⟩ := of_bind H
                                    refine F_call (xs := [.tmp 130]) rfl rfl rfl rfl Try.func24 nm24 rfl rfl ((valiselaw6_copied.calls (HS264.give [] rfl (Lent.rd HS264 (Lent.nil) (i := 0) rfl ((HS264.cells_rd (i := 0) rfl).self))) hc_freq_0 h274).mono (fun e w hc => ?_))
                                    obtain ⟨A278, c279, rfl, HSo⟩ := hc
                                    refine ⟨.slice A278 z275.length c279, rfl, ?_⟩
                                    have HS277 : Hp S0 w0 w [.rd A_freq_0 (rowC (Eint .i64) l_freq_0), .own A278 c279 (rowC (Eint .i64) z275) 3 (Eint .i64).sz] := (HS264.back [] HSo rfl).sel [0, 1] rfl
                                    refine F_val rfl rfl rfl (O_move rfl rfl) ?_
                                    refine F_val rfl rfl rfl (O_add rfl rfl rfl) ?_
                                    obtain ⟨⟨z285, z286⟩, h284, H⟩ := of_bind H
                                    refine F_call (xs := [.tmp 131, .tmp 133]) rfl rfl rfl rfl Try.func28 nm28 rfl rfl ((build_Limited.calls (HS277.give [] rfl (Lent.own HS277 (Lent.nil) (i := 1) rfl rfl ((HS277.cells_own (i := 1) rfl).self))) (HS277.own_capE (i := 1) rfl (by decide)) h284).mono (fun e w hc => ?_))
                                    obtain ⟨A289, c290, rfl, HSo⟩ := hc
                                    refine ⟨.tuple #[.slice A289 z285.length c290, .int .i64 z286], rfl, ?_⟩
                                    have HS288 : Hp S0 w0 w [.rd A_freq_0 (rowC (Eint .i64) l_freq_0), .own A278 c279 (rowC (Eint .i64) z275) 3 (Eint .i64).sz, .own A289 c290 (rowC (Eint .i64) z285) 3 (Eint .i64).sz] := (HS277.back [] HSo rfl).sel [0, 1, 2] rfl
                                    refine F_val rfl rfl rfl (O_move rfl rfl) ?_
                                    refine F_val rfl rfl rfl (O_extract (v := .slice A289 z285.length c290) rfl rfl rfl) ?_
                                    refine F_val rfl rfl rfl (O_extract (v := .int .i64 z286) rfl rfl rfl) ?_
                                    refine F_val rfl rfl rfl (O_assign rfl rfl) ?_
                                    refine F_val rfl rfl rfl (O_assign rfl rfl) ?_
                                    refine F_nil ?_
                                    refine L_seq ?_
                                    refine L_region ?_
                                    refine F_val rfl rfl rfl (O_move rfl rfl) ?_
                                    refine F_val rfl rfl rfl (O_eq rfl rfl rfl) ?_
                                    refine F_val rfl rfl rfl (O_move rfl rfl) ?_
                                    obtain ⟨b298, Hb298, H⟩ := of_bind H
                                    refine F_grpQ 6 [(145, .bool b298), (0, .slice A_freq_0 l_freq_0.length c_freq_0), (11, .int .i64 z147), (15, .slice A289 z285.length c290)] ?_ (fun w299 hw300 => ?_)
                                    · rcases Decidable.em (z286 = 0) with c302 | c302
                                      · refine F_know (i := 139) rfl (dec_t c302) ?_
                                        have H := of_pos Hb298 c302
                                        refine F_gval rfl rfl rfl rfl rfl rfl (O_move rfl rfl) ?_
                                        refine F_gval rfl rfl rfl rfl rfl rfl (O_move rfl rfl) ?_
                                        refine F_gval rfl rfl rfl rfl rfl rfl (O_move rfl rfl) ?_
                                        refine F_gval rfl rfl rfl rfl rfl rfl (O_add rfl rfl rfl) ?_
                                        obtain ⟨z305, h304, H⟩ := of_bind H
                                        refine F_gqcall (v := .bool z305) (xs := [.tmp 140, .tmp 141, .tmp 143]) rfl rfl rfl rfl rfl rfl rfl Try.func25 nm25 rfl rfl ((valiselaw6_good.calls (HS288.give [] rfl (Lent.rd HS288 (Lent.own HS288 (Lent.nil) (i := 2) rfl rfl ((HS288.cells_own (i := 2) rfl).self)) (i := 0) rfl ((HS288.cells_rd (i := 0) rfl).self))) hc_freq_0 (HS288.own_capE (i := 2) rfl (by decide)) h304).mono (fun e w hc => ?_)) (fun w306 hw307 => ?_)
                                        · obtain ⟨rfl, h⟩ := hc
                                          exact ⟨rfl, h.chg0⟩
                                        have HS308 := HS288.keep hw307
                                        refine F_val rfl rfl rfl (O_pickT rfl rfl rfl) ?_
                                        refine F_know (i := 145) rfl (congrArg Value.bool (Option.some.inj H)) ?_
                                        exact F_grpQE ((Chg.refl NoB _).trans hw307) (fun a ha => Is.cons ha (Is.cons ha (Is.cons ha (Is.cons ha (Is.nil ha) rfl) rfl) rfl) rfl)
                                      · refine F_know (i := 139) rfl (dec_f c302) ?_
                                        have H := of_neg Hb298 c302
                                        refine F_gskip rfl rfl rfl rfl rfl rfl rfl ?_
                                        refine F_gskip rfl rfl rfl rfl rfl rfl rfl ?_
                                        refine F_gskip rfl rfl rfl rfl rfl rfl rfl ?_
                                        refine F_gskip rfl rfl rfl rfl rfl rfl rfl ?_
                                        refine F_gskip rfl rfl rfl rfl rfl rfl rfl ?_
                                        refine F_val rfl rfl rfl (O_pickF rfl rfl rfl) ?_
                                        refine F_know (i := 145) rfl (congrArg Value.bool (Option.some.inj H)) ?_
                                        exact F_grpQE (Chg.refl NoB _) (fun a ha => Is.cons ha (Is.cons ha (Is.cons ha (Is.cons ha (Is.nil ha) rfl) rfl) rfl) rfl)
                                    · have HS301 := HS288.keep hw300
                                      refine F_val rfl rfl rfl (O_move rfl rfl) ?_
                                      obtain ⟨b315, Hb315, H⟩ := of_bind H
                                      refine F_grpQ 6 [(152, .bool b315)] ?_ (fun w316 hw317 => ?_)
                                      · rcases Decidable.em (b298 = true) with c319 | c319
                                        · refine F_know (i := 146) rfl (congrArg Value.bool c319) ?_
                                          have H := of_pos Hb315 c319
                                          refine F_gval rfl rfl rfl rfl rfl rfl (O_move rfl rfl) ?_
                                          refine F_gval rfl rfl rfl rfl rfl rfl (O_move rfl rfl) ?_
                                          obtain ⟨z322, h321, H⟩ := of_bind H
                                          refine F_gqcall (v := .int .i64 z322) (xs := [.tmp 147, .tmp 148]) rfl rfl rfl rfl rfl rfl rfl Try.func27 nm27 rfl rfl ((valiselaw6_cost.calls (HS301.give [] rfl (Lent.rd HS301 (Lent.own HS301 (Lent.nil) (i := 2) rfl rfl ((HS301.cells_own (i := 2) rfl).self)) (i := 0) rfl ((HS301.cells_rd (i := 0) rfl).self))) hc_freq_0 (HS301.own_capE (i := 2) rfl (by decide)) h321).mono (fun e w hc => ?_)) (fun w323 hw324 => ?_)
                                          · obtain ⟨rfl, h⟩ := hc
                                            exact ⟨rfl, h.chg0⟩
                                          have HS325 := HS301.keep hw324
                                          refine F_gval rfl rfl rfl rfl rfl rfl (O_move rfl rfl) ?_
                                          refine F_gval rfl rfl rfl rfl rfl rfl (O_le rfl rfl rfl) ?_
                                          refine F_val rfl rfl rfl (O_pickT rfl rfl rfl) ?_
                                          refine F_know (i := 152) rfl (congrArg Value.bool (Option.some.inj H)) ?_
                                          exact F_grpQE ((Chg.refl NoB _).trans hw324) (fun a ha => Is.cons ha (Is.nil ha) rfl)
                                        · refine F_know (i := 146) rfl (congrArg Value.bool (Bool.eq_false_iff.mpr c319)) ?_
                                          have H := of_neg Hb315 c319
                                          refine F_gskip rfl rfl rfl rfl rfl rfl rfl ?_
                                          refine F_gskip rfl rfl rfl rfl rfl rfl rfl ?_
                                          refine F_gskip rfl rfl rfl rfl rfl rfl rfl ?_
                                          refine F_gskip rfl rfl rfl rfl rfl rfl rfl ?_
                                          refine F_gskip rfl rfl rfl rfl rfl rfl rfl ?_
                                          refine F_val rfl rfl rfl (O_pickF rfl rfl rfl) ?_
                                          refine F_know (i := 152) rfl (congrArg Value.bool (Option.some.inj H)) ?_
                                          exact F_grpQE (Chg.refl NoB _) (fun a ha => Is.cons ha (Is.nil ha) rfl)
                                      · have HS318 := HS301.keep hw317
                                        refine F_val rfl rfl rfl (O_assign rfl rfl) ?_
                                        refine F_nil ?_
                                        refine L_ret (fun a ha => (post_ret1 ha rfl rfl ?_))
                                        obtain rfl := Option.some.inj H
                                        exact ⟨rfl, HS318.sel [] rfl⟩

end Go.Proofs.Ytbegkkmngkpjmaa
