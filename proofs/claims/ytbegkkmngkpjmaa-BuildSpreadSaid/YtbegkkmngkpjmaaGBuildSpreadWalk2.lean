import Derived.Test.YtbegkkmngkpjmaaGBuildSpreadWalk1
set_option linter.unusedVariables false
set_option linter.unusedSimpArgs false
set_option maxRecDepth 10000
set_option maxHeartbeats 1000000
namespace Go.Proofs.Ytbegkkmngkpjmaa
open Go Go.V Go.V.Pu
/-! function 82: slices.symMergeCmpFunc[int] -/
theorem slices_symMergeCmpFunc_int_cbuild_Limited_1.calls (kf : Nat) : ∀ {S0 : Nat → Prop} {w0 : World} {A_data_0 : Option Addr} {c_data_0 : Nat} {g_cmp_4_c0 : Nat} {A_cmp_4_c0_v : Option Addr} {c_cmp_4_c0_v : Nat} {l_data_0 : List Int} {a_1 : Int} {m_2 : Int} {b_3 : Int} {cmp_4_c0_v : List Int} {r : List Int} (HS0 : Hp S0 w0 w0 [.own A_data_0 c_data_0 (rowC (Eint .i64) l_data_0) 3 (Eint .i64).sz, .rd (some ⟨g_cmp_4_c0, 0, none⟩) [.slice A_cmp_4_c0_v cmp_4_c0_v.length c_cmp_4_c0_v], .rd A_cmp_4_c0_v (rowC (Eint .i64) cmp_4_c0_v)]) (hc_r_cmp_4_c0_v : cmp_4_c0_v.length ≤ c_cmp_4_c0_v) (h : slices_symMergeCmpFunc_int_cbuild_Limited_1.f kf l_data_0 a_1 m_2 b_3 cmp_4_c0_v = some r),
    Calls Try.prog 82 ([.slice A_data_0 l_data_0.length c_data_0, .int .i64 a_1, .int .i64 m_2, .int .i64 b_3, .func (.func 48) #[] #[.pointer (some ⟨g_cmp_4_c0, 0, none⟩)]] : List Value).toArray w0 (fun e w => e = .returned (.tuple #[]) ∧ Hp S0 w0 w [.own A_data_0 c_data_0 (rowC (Eint .i64) r) 3 (Eint .i64).sz] ∧ r.length = l_data_0.length) := by
  induction kf with
  | zero => intro S0 w0 A_data_0 c_data_0 g_cmp_4_c0 A_cmp_4_c0_v c_cmp_4_c0_v l_data_0 a_1 m_2 b_3 cmp_4_c0_v r HS0 hc_r_cmp_4_c0_v h; cases (show (none : Option _) = some _ from h)
  | succ kf IH =>
    intro S0 w0 A_data_0 c_data_0 g_cmp_4_c0 A_cmp_4_c0_v c_cmp_4_c0_v l_data_0 a_1 m_2 b_3 cmp_4_c0_v r HS0 hc_r_cmp_4_c0_v h
    have H := (slices_symMergeCmpFunc_int_cbuild_Limited_1.f.eq_2 ..).symm.trans h
    refine calls_start Try.func82 rfl rfl ?_
    refine L_seq ?_
    refine L_seq ?_
    refine L_region ?_
    refine F_val rfl rfl rfl (O_move rfl rfl) ?_
    refine F_val rfl rfl rfl (O_move rfl rfl) ?_
    refine F_val rfl rfl rfl (O_sub rfl rfl rfl) ?_
    refine F_val rfl rfl rfl (O_eq rfl rfl rfl) ?_
    refine F_nil ?_
    refine L_condP rfl (fun c1 => ?_) (fun c1 => ?_)
    · have H := of_pos H c1
      refine L_seq ?_
      refine L_region ?_
      refine F_val rfl rfl rfl (O_move rfl rfl) ?_
      refine F_val rfl rfl rfl (O_assign rfl rfl) ?_
      refine F_nil ?_
      refine L_seq ?_
      refine L_region ?_
      refine F_val rfl rfl rfl (O_move rfl rfl) ?_
      refine F_val rfl rfl rfl (O_assign rfl rfl) ?_
      refine F_nil ?_
      refine L_seq ?_
      obtain ⟨yj2, Hyj2, H⟩ := of_bind H
      refine L_join (fun a w => ∃ (i_86 : Int), yj2 = i_86 ∧ Is Try.f82.ntmps a [(0, .slice A_data_0 l_data_0.length c_data_0), (1, .int .i64 a_1), (10, .int .i64 i_86)] ∧ Hp S0 w0 w [.own A_data_0 c_data_0 (rowC (Eint .i64) l_data_0) 3 (Eint .i64).sz, .rd (some ⟨g_cmp_4_c0, 0, none⟩) [.slice A_cmp_4_c0_v cmp_4_c0_v.length c_cmp_4_c0_v], .rd A_cmp_4_c0_v (rowC (Eint .i64) cmp_4_c0_v)]) (fun Qj2 hNj2 hOj2 => ?_) (fun a w hR => ?_)
      · skip
        have H := Hyj2
        refine L_blk (fun Qb87 hNb87 hXb87 hOb87 => ?_)
        refine L_lp (fun k a w => ∃ (i_141 : Int), ∃ (j_142 : Int), Is Try.f82.ntmps a [(0, .slice A_data_0 l_data_0.length c_data_0), (1, .int .i64 a_1), (4, .func (.func 48) #[] #[.pointer (some ⟨g_cmp_4_c0, 0, none⟩)]), (10, .int .i64 i_141), (11, .int .i64 j_142)] ∧ Hp S0 w0 w [.own A_data_0 c_data_0 (rowC (Eint .i64) l_data_0) 3 (Eint .i64).sz, .rd (some ⟨g_cmp_4_c0, 0, none⟩) [.slice A_cmp_4_c0_v cmp_4_c0_v.length c_cmp_4_c0_v], .rd A_cmp_4_c0_v (rowC (Eint .i64) cmp_4_c0_v)] ∧ slices_symMergeCmpFunc_int_cbuild_Limited_1.l1 k i_141 j_142 l_data_0 a_1 cmp_4_c0_v = some yj2) FU (fun a ha => ⟨_, _, Is.cons ha (Is.cons ha (Is.cons ha (Is.cons ha (Is.cons ha (Is.nil ha) rfl) rfl) rfl) rfl) rfl, HS0.sel [0, 1, 2] rfl, H⟩) (fun kp140 a w143 hI Qp140 hNp140 hOp140 => ?_)
        obtain ⟨i_141, j_142, ha, HS144, HAp140⟩ := hI
        cases kp140 with
        | zero => cases (show (none : Option _) = some _ from HAp140)
        | succ kp140 =>
          have H := (slices_symMergeCmpFunc_int_cbuild_Limited_1.l1.eq_2 ..).symm.trans HAp140
          refine wpLF_app ?_ ha
          refine L_seq ?_
          refine L_seq ?_
          refine L_region ?_
          refine F_val rfl rfl rfl (O_move rfl rfl) ?_
          refine F_val rfl rfl rfl (O_move rfl rfl) ?_
          refine F_val rfl rfl rfl (O_lt rfl rfl rfl) ?_
          refine F_nil ?_
          refine L_condP rfl (fun c145 => ?_) (fun c145 => ?_)
          · have H := of_pos H c145
            refine L_skip ?_
            refine L_blk (fun Q146 hN146 hX146 hO146 => ?_)
            refine L_seq ?_
            refine L_region ?_
            refine F_val rfl rfl rfl (O_move rfl rfl) ?_
            refine F_val rfl rfl rfl (O_move rfl rfl) ?_
            refine F_val rfl rfl rfl (O_add rfl rfl rfl) ?_
            refine F_val rfl rfl rfl (O_conv rfl rfl ⟨_, Try.underlying3⟩ Try.underlying43) ?_
            refine F_val rfl rfl rfl (O_shr rfl rfl rfl (by decide)) ?_
            refine F_val rfl rfl rfl (O_conv rfl rfl ⟨_, Try.underlying43⟩ Try.underlying3) ?_
            obtain ⟨x147, h148, H⟩ := of_bnd H
            refine F_val rfl rfl rfl (O_assign' rfl rfl (congrArg (Value.int .i64) h148)) ?_
            refine F_nil ?_
            refine L_seq ?_
            refine L_quiet mix (by kernel_rfl) ?_
            refine Q_val rfl rfl rfl (fun wq hq => O_move rfl rfl) ?_
            refine Q_val rfl rfl rfl (fun wq hq => O_move rfl rfl) ?_
            refine Q_val rfl rfl rfl (fun wq hq => O_move rfl rfl) ?_
            obtain ⟨⟨g149, g150⟩, H⟩ := of_gd H
            refine Q_val rfl rfl rfl (fun wq hq => O_idx rfl rfl rfl Try.underlying22 size3 g149 g150 (Cells.isA ((HS144.keep hq).cells_own (i := 0) rfl) (rowC_ne (E := (Eint .i64)) g149 g150 (by decide)))) ?_
            refine Q_val rfl rfl rfl (fun wq hq => O_loadC rfl rfl flat3 ((HS144.keep hq).cells_own (i := 0) rfl) (int_cell g149 g150)) ?_
            refine Q_val rfl rfl rfl (fun wq hq => O_move rfl rfl) ?_
            refine Q_val rfl rfl rfl (fun wq hq => O_move rfl rfl) ?_
            obtain ⟨⟨g151, g152⟩, H⟩ := of_gd H
            refine Q_val rfl rfl rfl (fun wq hq => O_idx rfl rfl rfl Try.underlying22 size3 g151 g152 (Cells.isA ((HS144.keep hq).cells_own (i := 0) rfl) (rowC_ne (E := (Eint .i64)) g151 g152 (by decide)))) ?_
            refine Q_val rfl rfl rfl (fun wq hq => O_loadC rfl rfl flat3 ((HS144.keep hq).cells_own (i := 0) rfl) (int_cell g151 g152)) ?_
            obtain ⟨z155, h154, H⟩ := of_bind H
            refine Q_callV (v := .int .i64 z155) (xs := [.tmp 44, .tmp 48]) (cv := [.pointer (some ⟨g_cmp_4_c0, 0, none⟩)]) rfl rfl rfl rfl rfl Try.func48 nm48 rfl rfl rfl (fun wq hq => (build_Limited_1.calls ((HS144.keep hq).give [] rfl (Lent.rd (HS144.keep hq) (Lent.rd (HS144.keep hq) (Lent.nil) (i := 2) rfl (((HS144.keep hq).cells_rd (i := 2) rfl).self)) (i := 1) rfl ((HS144.keep hq).cells_rd (i := 1) rfl).self)) hc_r_cmp_4_c0_v h154).mono (fun e w hc => ?_)) ?_
            · obtain ⟨rfl, h⟩ := hc
              exact ⟨rfl, hq.trans h.chg0⟩
            refine Q_val rfl rfl rfl (fun wq hq => O_lt rfl rfl rfl) ?_
            refine Q_nil (fun w156 hw157 => ?_)
            have HS158 := HS144.keep hw157
            obtain ⟨yj159, Hyj159, H⟩ := of_bind H
            refine L_join (fun a w => ∃ (i_163 : Int), ∃ (j_164 : Int), yj159 = (i_163, j_164) ∧ Is Try.f82.ntmps a [(0, .slice A_data_0 l_data_0.length c_data_0), (1, .int .i64 a_1), (4, .func (.func 48) #[] #[.pointer (some ⟨g_cmp_4_c0, 0, none⟩)]), (10, .int .i64 i_163), (11, .int .i64 j_164)] ∧ Hp S0 w0 w [.own A_data_0 c_data_0 (rowC (Eint .i64) l_data_0) 3 (Eint .i64).sz, .rd (some ⟨g_cmp_4_c0, 0, none⟩) [.slice A_cmp_4_c0_v cmp_4_c0_v.length c_cmp_4_c0_v], .rd A_cmp_4_c0_v (rowC (Eint .i64) cmp_4_c0_v)]) (fun Qj159 hNj159 hOj159 => ?_) (fun a w hR => ?_)
            · skip
              have H := Hyj159
              refine L_condP rfl (fun c165 => ?_) (fun c165 => ?_)
              · have H := of_pos H c165
                refine L_region ?_
                refine F_val rfl rfl rfl (O_move rfl rfl) ?_
                refine F_val rfl rfl rfl (O_add rfl rfl rfl) ?_
                obtain ⟨x166, h167, H⟩ := of_bnd H
                refine F_val rfl rfl rfl (O_assign' rfl rfl (congrArg (Value.int .i64) h167)) ?_
                refine F_nil ?_
                refine L_nil (fun a ha => hNj159 a _ ⟨_, _, (Option.some.inj H).symm, Is.cons ha (Is.cons ha (Is.cons ha (Is.cons ha (Is.cons ha (Is.nil ha) rfl) rfl) rfl) rfl) rfl, HS158.sel [0, 1, 2] rfl⟩)
              · have H := of_neg H c165
                refine L_region ?_
                refine F_val rfl rfl rfl (O_move rfl rfl) ?_
                refine F_val rfl rfl rfl (O_assign rfl rfl) ?_
                refine F_nil ?_
                refine L_nil (fun a ha => hNj159 a _ ⟨_, _, (Option.some.inj H).symm, Is.cons ha (Is.cons ha (Is.cons ha (Is.cons ha (Is.cons ha (Is.nil ha) rfl) rfl) rfl) rfl) rfl, HS158.sel [0, 1, 2] rfl⟩)
            · obtain ⟨i_163, j_164, rfl, ha, HS169⟩ := hR
              refine wpLF_app ?_ ha
              refine L_endB hN146 ?_
              refine L_nil (fun a ha => hNp140 _ a _ (Nat.lt_succ_self _) ⟨_, _, Is.cons ha (Is.cons ha (Is.cons ha (Is.cons ha (Is.cons ha (Is.nil ha) rfl) rfl) rfl) rfl) rfl, HS169.sel [0, 1, 2] rfl, H⟩)
          · have H := of_neg H c145
            refine L_exitB (fun a w h => hOp140 (.exit 0) a w rfl (hXb87 a w h)) ?_
            refine L_nil (fun a ha => hNj2 a _ ⟨_, (Option.some.inj H).symm, Is.cons ha (Is.cons ha (Is.cons ha (Is.nil ha) rfl) rfl) rfl, HS144.sel [0, 1, 2] rfl⟩)
      · obtain ⟨i_86, ej, ha, HS171⟩ := hR
        obtain rfl := ej.symm
        refine wpLF_app ?_ ha
        refine L_seq ?_
        refine L_seq ?_
        refine L_region ?_
        refine F_val rfl rfl rfl (O_move rfl rfl) ?_
        refine F_val rfl rfl rfl (O_assign rfl rfl) ?_
        refine F_nil ?_
        obtain ⟨yj172, Hyj172, H⟩ := of_bind H
        refine L_join (fun a w => ∃ (l304 : List Int), yj172 = l304 ∧ Is Try.f82.ntmps a [] ∧ Hp S0 w0 w [.own A_data_0 c_data_0 (rowC (Eint .i64) l304) 3 (Eint .i64).sz, .rd (some ⟨g_cmp_4_c0, 0, none⟩) [.slice A_cmp_4_c0_v cmp_4_c0_v.length c_cmp_4_c0_v], .rd A_cmp_4_c0_v (rowC (Eint .i64) cmp_4_c0_v)]) (fun Qj172 hNj172 hOj172 => ?_) (fun a w hR => ?_)
        · skip
          have H := Hyj172
          refine L_blk (fun Qb305 hNb305 hXb305 hOb305 => ?_)
          refine L_lp (fun k a w => ∃ (l391 : List Int), ∃ (k_392 : Int), Is Try.f82.ntmps a [(0, .slice A_data_0 l391.length c_data_0), (10, .int .i64 i_86), (13, .int .i64 k_392)] ∧ Hp S0 w0 w [.own A_data_0 c_data_0 (rowC (Eint .i64) l391) 3 (Eint .i64).sz, .rd (some ⟨g_cmp_4_c0, 0, none⟩) [.slice A_cmp_4_c0_v cmp_4_c0_v.length c_cmp_4_c0_v], .rd A_cmp_4_c0_v (rowC (Eint .i64) cmp_4_c0_v)] ∧ slices_symMergeCmpFunc_int_cbuild_Limited_1.l3 k l391 k_392 i_86 = some yj172) FU (fun a ha => ⟨_, _, Is.cons ha (Is.cons ha (Is.cons ha (Is.nil ha) rfl) rfl) rfl, HS171.sel [0, 1, 2] rfl, H⟩) (fun kp390 a w393 hI Qp390 hNp390 hOp390 => ?_)
          obtain ⟨l391, k_392, ha, HS394, HAp390⟩ := hI
          cases kp390 with
          | zero => cases (show (none : Option _) = some _ from HAp390)
          | succ kp390 =>
            have H := (slices_symMergeCmpFunc_int_cbuild_Limited_1.l3.eq_2 ..).symm.trans HAp390
            refine wpLF_app ?_ ha
            refine L_seq ?_
            refine L_seq ?_
            refine L_region ?_
            refine F_val rfl rfl rfl (O_move rfl rfl) ?_
            refine F_val rfl rfl rfl (O_move rfl rfl) ?_
            refine F_val rfl rfl rfl (O_sub rfl rfl rfl) ?_
            refine F_val rfl rfl rfl (O_lt rfl rfl rfl) ?_
            refine F_nil ?_
            refine L_condP rfl (fun c395 => ?_) (fun c395 => ?_)
            · have H := of_pos H c395
              refine L_skip ?_
              refine L_seq ?_
              refine L_blk (fun Q396 hN396 hX396 hO396 => ?_)
              refine L_held2 17 1 [17] [15, 17] mix rfl (fun w413 hw414 => ?_)
              have HS415 := HS394.keep hw414
              have HR416 : Hp (HS415.ft [0]) w413 w413 [.own A_data_0 c_data_0 (rowC (Eint .i64) l391) 3 (Eint .i64).sz, .rd (some ⟨g_cmp_4_c0, 0, none⟩) [.slice A_cmp_4_c0_v cmp_4_c0_v.length c_cmp_4_c0_v], .rd A_cmp_4_c0_v (rowC (Eint .i64) cmp_4_c0_v)] := HS415.give [0] rfl (Lent.rd HS415 (Lent.rd HS415 (Lent.nil) (i := 2) rfl (HS415.cells_rd (i := 2) rfl).self) (i := 1) rfl (HS415.cells_rd (i := 1) rfl).self)
              refine ⟨fun w => Hp (HS415.ft [0]) w413 w [.own A_data_0 c_data_0 (rowC (Eint .i64) l391) 3 (Eint .i64).sz, .rd (some ⟨g_cmp_4_c0, 0, none⟩) [.slice A_cmp_4_c0_v cmp_4_c0_v.length c_cmp_4_c0_v], .rd A_cmp_4_c0_v (rowC (Eint .i64) cmp_4_c0_v)], HS415.turns [0], ?_⟩
              refine H2_fval (i := 0) rfl (by kernel_rfl) (by kernel_rfl) (by kernel_rfl) (by kernel_rfl) (by kernel_rfl) rfl rfl rfl (SS_0 (by kernel_rfl) (HR416.sel [0, 1, 2] rfl)) (fun wq => O_move rfl rfl) ?_
              refine H2_fval (i := 1) rfl (by kernel_rfl) (by kernel_rfl) (by kernel_rfl) (by kernel_rfl) (by kernel_rfl) rfl rfl rfl (SS_0 (by kernel_rfl) (HR416.sel [0, 1, 2] rfl)) (fun wq => O_move rfl rfl) ?_
              refine H2_fval (i := 2) rfl (by kernel_rfl) (by kernel_rfl) (by kernel_rfl) (by kernel_rfl) (by kernel_rfl) rfl rfl rfl (SS_0 (by kernel_rfl) (HR416.sel [0, 1, 2] rfl)) (fun wq => O_move rfl rfl) ?_
              refine H2_fval (i := 3) rfl (by kernel_rfl) (by kernel_rfl) (by kernel_rfl) (by kernel_rfl) (by kernel_rfl) rfl rfl rfl (SS_0 (by kernel_rfl) (HR416.sel [0, 1, 2] rfl)) (fun wq => O_move rfl rfl) ?_
              refine H2_fval (i := 4) rfl (by kernel_rfl) (by kernel_rfl) (by kernel_rfl) (by kernel_rfl) (by kernel_rfl) rfl rfl rfl (SS_0 (by kernel_rfl) (HR416.sel [0, 1, 2] rfl)) (fun wq => O_add rfl rfl rfl) ?_
              refine H2_fval (i := 5) rfl (by kernel_rfl) (by kernel_rfl) (by kernel_rfl) (by kernel_rfl) (by kernel_rfl) rfl rfl rfl (SS_0 (by kernel_rfl) (HR416.sel [0, 1, 2] rfl)) (fun wq => O_move rfl rfl) ?_
              refine H2_fval (i := 6) rfl (by kernel_rfl) (by kernel_rfl) (by kernel_rfl) (by kernel_rfl) (by kernel_rfl) rfl rfl rfl (SS_0 (by kernel_rfl) (HR416.sel [0, 1, 2] rfl)) (fun wq => O_move rfl rfl) ?_
              refine H2_fval (i := 7) rfl (by kernel_rfl) (by kernel_rfl) (by kernel_rfl) (by kernel_rfl) (by kernel_rfl) rfl rfl rfl (SS_0 (by kernel_rfl) (HR416.sel [0, 1, 2] rfl)) (fun wq => O_add rfl rfl rfl) ?_
              obtain ⟨⟨g417, g418⟩, H⟩ := of_gd H
              refine H2_fval (i := 8) rfl (by kernel_rfl) (by kernel_rfl) (by kernel_rfl) (by kernel_rfl) (by kernel_rfl) rfl rfl rfl (SS_0 (by kernel_rfl) (HR416.sel [0, 1, 2] rfl)) (fun wq => O_idx rfl rfl rfl Try.underlying22 size3 g417 g418 (Cells.isA (HR416.cells_own (i := 0) rfl) (rowC_ne (E := (Eint .i64)) g417 g418 (by decide)))) ?_
              refine H2_val (i := 9) [14, 15, 16, 17] rfl (by kernel_rfl) (by kernel_rfl) (by kernel_rfl) (by kernel_rfl) (by kernel_rfl) (by kernel_rfl) (by kernel_rfl) (by kernel_rfl) rfl rfl rfl (HR416.sel [0, 1, 2] rfl) (fun wq hq => O_loadC rfl rfl flat3 (hq.cells_own (i := 0) rfl) (int_cell g417 g418)) ?_
              refine H2_fval (i := 10) rfl (by kernel_rfl) (by kernel_rfl) (by kernel_rfl) (by kernel_rfl) (by kernel_rfl) rfl rfl rfl (SS_0 (by kernel_rfl) (HR416.sel [0, 1, 2] rfl)) (fun wq => O_move rfl rfl) ?_
              refine H2_fval (i := 11) rfl (by kernel_rfl) (by kernel_rfl) (by kernel_rfl) (by kernel_rfl) (by kernel_rfl) rfl rfl rfl (SS_0 (by kernel_rfl) (HR416.sel [0, 1, 2] rfl)) (fun wq => O_move rfl rfl) ?_
              obtain ⟨⟨g419, g420⟩, H⟩ := of_gd H
              refine H2_fval (i := 12) rfl (by kernel_rfl) (by kernel_rfl) (by kernel_rfl) (by kernel_rfl) (by kernel_rfl) rfl rfl rfl (SS_0 (by kernel_rfl) (HR416.sel [0, 1, 2] rfl)) (fun wq => O_idx rfl rfl rfl Try.underlying22 size3 g419 g420 (Cells.isA (HR416.cells_own (i := 0) rfl) (rowC_ne (E := (Eint .i64)) g419 g420 (by decide)))) ?_
              refine H2_val (i := 13) [14, 15, 16, 17] rfl (by kernel_rfl) (by kernel_rfl) (by kernel_rfl) (by kernel_rfl) (by kernel_rfl) (by kernel_rfl) (by kernel_rfl) (by kernel_rfl) rfl rfl rfl (HR416.sel [0, 1, 2] rfl) (fun wq hq => O_loadC rfl rfl flat3 (hq.cells_own (i := 0) rfl) (int_cell g419 g420)) ?_
              refine H2_fval (i := 14) rfl (by kernel_rfl) (by kernel_rfl) (by kernel_rfl) (by kernel_rfl) (by kernel_rfl) rfl rfl rfl (SS_0 (by kernel_rfl) (HR416.sel [0, 1, 2] rfl)) (fun wq => O_idx rfl rfl rfl Try.underlying22 size3 g419 g420 (Cells.isA (HR416.cells_own (i := 0) rfl) (rowC_ne (E := (Eint .i64)) g419 g420 (by decide)))) ?_
              refine H2_one (i := 15) rfl (by kernel_rfl) (by kernel_rfl) ?_
              obtain ⟨l423, h424, H⟩ := of_bnd H
              refine F_setE (E := (Eint .i64)) (i := 0) (a := rd l391 (IntKind.i64.wrap (k_392 + 1))) (q := k_392) rfl rfl rfl rfl rfl rfl size3 HR416 rfl (by decide) g419 g420 h424 (fun w421 HS422 => ?_)
              have e425 : l391.length = l423.length := by rw [← h424, List.length_set]
              refine F_know (i := 0) rfl (congrArg (fun n => Value.slice A_data_0 n c_data_0) e425) ?_
              refine F_know (i := 61) rfl (congrArg (fun n => Value.slice A_data_0 n c_data_0) e425) ?_
              refine F_know (i := 63) rfl (congrArg (fun n => Value.slice A_data_0 n c_data_0) e425) ?_
              refine F_know (i := 66) rfl (congrArg (fun n => Value.slice A_data_0 n c_data_0) e425) ?_
              refine F_know (i := 71) rfl (congrArg (fun n => Value.slice A_data_0 n c_data_0) e425) ?_
              have HS422 : Hp (HS415.ft [0]) w413 w421 [.own A_data_0 c_data_0 (rowC (Eint .i64) l423) 3 (Eint .i64).sz, .rd (some ⟨g_cmp_4_c0, 0, none⟩) [.slice A_cmp_4_c0_v cmp_4_c0_v.length c_cmp_4_c0_v], .rd A_cmp_4_c0_v (rowC (Eint .i64) cmp_4_c0_v)] := HS422
              refine H2_next (SS_1 (by kernel_rfl) HS422.chg) ?_
              obtain ⟨⟨g426, g427⟩, H⟩ := of_gd H
              refine H2_fval (i := 16) rfl (by kernel_rfl) (by kernel_rfl) (by kernel_rfl) (by kernel_rfl) (by kernel_rfl) rfl rfl rfl (SS_1 (by kernel_rfl) HS422.chg) (fun wq => O_idx rfl rfl rfl Try.underlying22 size3 g426 g427 (Cells.isA (HS422.cells_own (i := 0) rfl) (rowC_ne (E := (Eint .i64)) g426 g427 (by decide)))) ?_
              refine H2_end (by kernel_rfl) ?_
              have HS428 : Hp S0 w0 w421 [.own A_data_0 c_data_0 (rowC (Eint .i64) l423) 3 (Eint .i64).sz, .rd (some ⟨g_cmp_4_c0, 0, none⟩) [.slice A_cmp_4_c0_v cmp_4_c0_v.length c_cmp_4_c0_v], .rd A_cmp_4_c0_v (rowC (Eint .i64) cmp_4_c0_v)] := (HS415.back [0] (HS422.sel [0] rfl) rfl).sel [3, 1, 2] rfl
              refine T_one (i := 17) rfl (by kernel_rfl) ?_
              obtain ⟨l431, h432, H⟩ := of_bnd H
              refine F_setE (E := (Eint .i64)) (i := 0) (a := rd l391 k_392) (q := IntKind.i64.wrap (k_392 + 1)) rfl rfl rfl rfl rfl rfl size3 HS428 rfl (by decide) g426 g427 h432 (fun w429 HS430 => ?_)
              have e433 : l423.length = l431.length := by rw [← h432, List.length_set]
              refine F_know (i := 0) rfl (congrArg (fun n => Value.slice A_data_0 n c_data_0) e433) ?_
              refine F_know (i := 61) rfl (congrArg (fun n => Value.slice A_data_0 n c_data_0) e433) ?_
              refine F_know (i := 63) rfl (congrArg (fun n => Value.slice A_data_0 n c_data_0) e433) ?_
              refine F_know (i := 66) rfl (congrArg (fun n => Value.slice A_data_0 n c_data_0) e433) ?_
              refine F_know (i := 71) rfl (congrArg (fun n => Value.slice A_data_0 n c_data_0) e433) ?_
              have HS430 : Hp S0 w0 w429 [.own A_data_0 c_data_0 (rowC (Eint .i64) l431) 3 (Eint .i64).sz, .rd (some ⟨g_cmp_4_c0, 0, none⟩) [.slice A_cmp_4_c0_v cmp_4_c0_v.length c_cmp_4_c0_v], .rd A_cmp_4_c0_v (rowC (Eint .i64) cmp_4_c0_v)] := HS430
              refine T_next ?_
              refine T_done (by kernel_rfl) ?_
              refine L_endB hN396 ?_
              refine L_region ?_
              refine F_val rfl rfl rfl (O_move rfl rfl) ?_
              refine F_val rfl rfl rfl (O_add rfl rfl rfl) ?_
              obtain ⟨x434, h435, H⟩ := of_bnd H
              refine F_val rfl rfl rfl (O_assign' rfl rfl (congrArg (Value.int .i64) h435)) ?_
              refine F_nil ?_
              refine L_nil (fun a ha => hNp390 _ a _ (Nat.lt_succ_self _) ⟨_, _, Is.cons ha (Is.cons ha (Is.cons ha (Is.nil ha) rfl) rfl) rfl, HS430.sel [0, 1, 2] rfl, H⟩)
            · have H := of_neg H c395
              refine L_exitB (fun a w h => hOp390 (.exit 2) a w rfl (hXb305 a w h)) ?_
              refine L_nil (fun a ha => hNj172 a _ ⟨_, (Option.some.inj H).symm, Is.nil ha, HS394.sel [0, 1, 2] rfl⟩)
        · obtain ⟨l304, ej, ha, HS437⟩ := hR
          obtain rfl := ej.symm
          refine wpLF_app ?_ ha
          obtain ⟨g438, H⟩ := of_gd H
          refine L_ret (fun a ha => (post_ret0 ha rfl ?_))
          obtain rfl := Option.some.inj H
          exact ⟨rfl, HS437.sel [0] rfl, g438⟩
    · have H := of_neg H c1
      refine L_skip ?_
      refine L_seq ?_
      refine L_seq ?_
      refine L_region ?_
      refine F_val rfl rfl rfl (O_move rfl rfl) ?_
      refine F_val rfl rfl rfl (O_move rfl rfl) ?_
      refine F_val rfl rfl rfl (O_sub rfl rfl rfl) ?_
      refine F_val rfl rfl rfl (O_eq rfl rfl rfl) ?_
      refine F_nil ?_
      refine L_condP rfl (fun c439 => ?_) (fun c439 => ?_)
      · have H := of_pos H c439
        refine L_seq ?_
        refine L_region ?_
        refine F_val rfl rfl rfl (O_move rfl rfl) ?_
        refine F_val rfl rfl rfl (O_assign rfl rfl) ?_
        refine F_nil ?_
        refine L_seq ?_
        refine L_region ?_
        refine F_val rfl rfl rfl (O_move rfl rfl) ?_
        refine F_val rfl rfl rfl (O_assign rfl rfl) ?_
        refine F_nil ?_
        refine L_seq ?_
        obtain ⟨yj440, Hyj440, H⟩ := of_bind H
        refine L_join (fun a w => ∃ (i_524 : Int), yj440 = i_524 ∧ Is Try.f82.ntmps a [(0, .slice A_data_0 l_data_0.length c_data_0), (2, .int .i64 m_2), (14, .int .i64 i_524)] ∧ Hp S0 w0 w [.own A_data_0 c_data_0 (rowC (Eint .i64) l_data_0) 3 (Eint .i64).sz, .rd (some ⟨g_cmp_4_c0, 0, none⟩) [.slice A_cmp_4_c0_v cmp_4_c0_v.length c_cmp_4_c0_v], .rd A_cmp_4_c0_v (rowC (Eint .i64) cmp_4_c0_v)]) (fun Qj440 hNj440 hOj440 => ?_) (fun a w hR => ?_)
        · skip
          have H := Hyj440
          refine L_blk (fun Qb525 hNb525 hXb525 hOb525 => ?_)
          refine L_lp (fun k a w => ∃ (i_579 : Int), ∃ (j_580 : Int), Is Try.f82.ntmps a [(0, .slice A_data_0 l_data_0.length c_data_0), (2, .int .i64 m_2), (4, .func (.func 48) #[] #[.pointer (some ⟨g_cmp_4_c0, 0, none⟩)]), (14, .int .i64 i_579), (15, .int .i64 j_580)] ∧ Hp S0 w0 w [.own A_data_0 c_data_0 (rowC (Eint .i64) l_data_0) 3 (Eint .i64).sz, .rd (some ⟨g_cmp_4_c0, 0, none⟩) [.slice A_cmp_4_c0_v cmp_4_c0_v.length c_cmp_4_c0_v], .rd A_cmp_4_c0_v (rowC (Eint .i64) cmp_4_c0_v)] ∧ slices_symMergeCmpFunc_int_cbuild_Limited_1.l5 k i_579 j_580 l_data_0 m_2 cmp_4_c0_v = some yj440) FU (fun a ha => ⟨_, _, Is.cons ha (Is.cons ha (Is.cons ha (Is.cons ha (Is.cons ha (Is.nil ha) rfl) rfl) rfl) rfl) rfl, HS0.sel [0, 1, 2] rfl, H⟩) (fun kp578 a w581 hI Qp578 hNp578 hOp578 => ?_)
          obtain ⟨i_579, j_580, ha, HS582, HAp578⟩ := hI
          cases kp578 with
          | zero => cases (show (none : Option _) = some _ from HAp578)
          | succ kp578 =>
            have H := (slices_symMergeCmpFunc_int_cbuild_Limited_1.l5.eq_2 ..).symm.trans HAp578
            refine wpLF_app ?_ ha
            refine L_seq ?_
            refine L_seq ?_
            refine L_region ?_
            refine F_val rfl rfl rfl (O_move rfl rfl) ?_
            refine F_val rfl rfl rfl (O_move rfl rfl) ?_
            refine F_val rfl rfl rfl (O_lt rfl rfl rfl) ?_
            refine F_nil ?_
            refine L_condP rfl (fun c583 => ?_) (fun c583 => ?_)
            · have H := of_pos H c583
              refine L_skip ?_
              refine L_blk (fun Q584 hN584 hX584 hO584 => ?_)
              refine L_seq ?_
              refine L_region ?_
              refine F_val rfl rfl rfl (O_move rfl rfl) ?_
              refine F_val rfl rfl rfl (O_move rfl rfl) ?_
              refine F_val rfl rfl rfl (O_add rfl rfl rfl) ?_
              refine F_val rfl rfl rfl (O_conv rfl rfl ⟨_, Try.underlying3⟩ Try.underlying43) ?_
              refine F_val rfl rfl rfl (O_shr rfl rfl rfl (by decide)) ?_
              refine F_val rfl rfl rfl (O_conv rfl rfl ⟨_, Try.underlying43⟩ Try.underlying3) ?_
              obtain ⟨x585, h586, H⟩ := of_bnd H
              refine F_val rfl rfl rfl (O_assign' rfl rfl (congrArg (Value.int .i64) h586)) ?_
              refine F_nil ?_
              refine L_seq ?_
              refine L_quiet mix (by kernel_rfl) ?_
              refine Q_val rfl rfl rfl (fun wq hq => O_move rfl rfl) ?_
              refine Q_val rfl rfl rfl (fun wq hq => O_move rfl rfl) ?_
              refine Q_val rfl rfl rfl (fun wq hq => O_move rfl rfl) ?_
              obtain ⟨⟨g587, g588⟩, H⟩ := of_gd H
              refine Q_val rfl rfl rfl (fun wq hq => O_idx rfl rfl rfl Try.underlying22 size3 g587 g588 (Cells.isA ((HS582.keep hq).cells_own (i := 0) rfl) (rowC_ne (E := (Eint .i64)) g587 g588 (by decide)))) ?_
              refine Q_val rfl rfl rfl (fun wq hq => O_loadC rfl rfl flat3 ((HS582.keep hq).cells_own (i := 0) rfl) (int_cell g587 g588)) ?_
              refine Q_val rfl rfl rfl (fun wq hq => O_move rfl rfl) ?_
              refine Q_val rfl rfl rfl (fun wq hq => O_move rfl rfl) ?_
              obtain ⟨⟨g589, g590⟩, H⟩ := of_gd H
              refine Q_val rfl rfl rfl (fun wq hq => O_idx rfl rfl rfl Try.underlying22 size3 g589 g590 (Cells.isA ((HS582.keep hq).cells_own (i := 0) rfl) (rowC_ne (E := (Eint .i64)) g589 g590 (by decide)))) ?_
              refine Q_val rfl rfl rfl (fun wq hq => O_loadC rfl rfl flat3 ((HS582.keep hq).cells_own (i := 0) rfl) (int_cell g589 g590)) ?_
              obtain ⟨z593, h592, H⟩ := of_bind H
              refine Q_callV (v := .int .i64 z593) (xs := [.tmp 96, .tmp 100]) (cv := [.pointer (some ⟨g_cmp_4_c0, 0, none⟩)]) rfl rfl rfl rfl rfl Try.func48 nm48 rfl rfl rfl (fun wq hq => (build_Limited_1.calls ((HS582.keep hq).give [] rfl (Lent.rd (HS582.keep hq) (Lent.rd (HS582.keep hq) (Lent.nil) (i := 2) rfl (((HS582.keep hq).cells_rd (i := 2) rfl).self)) (i := 1) rfl ((HS582.keep hq).cells_rd (i := 1) rfl).self)) hc_r_cmp_4_c0_v h592).mono (fun e w hc => ?_)) ?_
              · obtain ⟨rfl, h⟩ := hc
                exact ⟨rfl, hq.trans h.chg0⟩
              refine Q_val rfl rfl rfl (fun wq hq => O_lt rfl rfl rfl) ?_
              refine Q_val rfl rfl rfl (fun wq hq => O_not rfl rfl) ?_
              refine Q_nil (fun w594 hw595 => ?_)
              have HS596 := HS582.keep hw595
              obtain ⟨yj597, Hyj597, H⟩ := of_bind H
              refine L_join (fun a w => ∃ (i_601 : Int), ∃ (j_602 : Int), yj597 = (i_601, j_602) ∧ Is Try.f82.ntmps a [(0, .slice A_data_0 l_data_0.length c_data_0), (2, .int .i64 m_2), (4, .func (.func 48) #[] #[.pointer (some ⟨g_cmp_4_c0, 0, none⟩)]), (14, .int .i64 i_601), (15, .int .i64 j_602)] ∧ Hp S0 w0 w [.own A_data_0 c_data_0 (rowC (Eint .i64) l_data_0) 3 (Eint .i64).sz, .rd (some ⟨g_cmp_4_c0, 0, none⟩) [.slice A_cmp_4_c0_v cmp_4_c0_v.length c_cmp_4_c0_v], .rd A_cmp_4_c0_v (rowC (Eint .i64) cmp_4_c0_v)]) (fun Qj597 hNj597 hOj597 => ?_) (fun a w hR => ?_)
              · skip
                have H := Hyj597
                refine L_condP rfl (fun c603 => ?_) (fun c603 => ?_)
                · have H := of_pos H c603
                  refine L_region ?_
                  refine F_val rfl rfl rfl (O_move rfl rfl) ?_
                  refine F_val rfl rfl rfl (O_add rfl rfl rfl) ?_
                  obtain ⟨x604, h605, H⟩ := of_bnd H
                  refine F_val rfl rfl rfl (O_assign' rfl rfl (congrArg (Value.int .i64) h605)) ?_
                  refine F_nil ?_
                  refine L_nil (fun a ha => hNj597 a _ ⟨_, _, (Option.some.inj H).symm, Is.cons ha (Is.cons ha (Is.cons ha (Is.cons ha (Is.cons ha (Is.nil ha) rfl) rfl) rfl) rfl) rfl, HS596.sel [0, 1, 2] rfl⟩)
                · have H := of_neg H c603
                  refine L_region ?_
                  refine F_val rfl rfl rfl (O_move rfl rfl) ?_
                  refine F_val rfl rfl rfl (O_assign rfl rfl) ?_
                  refine F_nil ?_
                  refine L_nil (fun a ha => hNj597 a _ ⟨_, _, (Option.some.inj H).symm, Is.cons ha (Is.cons ha (Is.cons ha (Is.cons ha (Is.cons ha (Is.nil ha) rfl) rfl) rfl) rfl) rfl, HS596.sel [0, 1, 2] rfl⟩)
              · obtain ⟨i_601, j_602, rfl, ha, HS607⟩ := hR
                refine wpLF_app ?_ ha
                refine L_endB hN584 ?_
                refine L_nil (fun a ha => hNp578 _ a _ (Nat.lt_succ_self _) ⟨_, _, Is.cons ha (Is.cons ha (Is.cons ha (Is.cons ha (Is.cons ha (Is.nil ha) rfl) rfl) rfl) rfl) rfl, HS607.sel [0, 1, 2] rfl, H⟩)
            · have H := of_neg H c583
              refine L_exitB (fun a w h => hOp578 (.exit 4) a w rfl (hXb525 a w h)) ?_
              refine L_nil (fun a ha => hNj440 a _ ⟨_, (Option.some.inj H).symm, Is.cons ha (Is.cons ha (Is.cons ha (Is.nil ha) rfl) rfl) rfl, HS582.sel [0, 1, 2] rfl⟩)
        · obtain ⟨i_524, ej, ha, HS609⟩ := hR
          obtain rfl := ej.symm
          refine wpLF_app ?_ ha
          refine L_seq ?_
          refine L_seq ?_
          refine L_region ?_
          refine F_val rfl rfl rfl (O_move rfl rfl) ?_
          refine F_val rfl rfl rfl (O_assign rfl rfl) ?_
          refine F_nil ?_
          obtain ⟨yj610, Hyj610, H⟩ := of_bind H
          refine L_join (fun a w => ∃ (l742 : List Int), yj610 = l742 ∧ Is Try.f82.ntmps a [] ∧ Hp S0 w0 w [.own A_data_0 c_data_0 (rowC (Eint .i64) l742) 3 (Eint .i64).sz, .rd (some ⟨g_cmp_4_c0, 0, none⟩) [.slice A_cmp_4_c0_v cmp_4_c0_v.length c_cmp_4_c0_v], .rd A_cmp_4_c0_v (rowC (Eint .i64) cmp_4_c0_v)]) (fun Qj610 hNj610 hOj610 => ?_) (fun a w hR => ?_)
          · skip
            have H := Hyj610
            refine L_blk (fun Qb743 hNb743 hXb743 hOb743 => ?_)
            refine L_lp (fun k a w => ∃ (l829 : List Int), ∃ (k_830 : Int), Is Try.f82.ntmps a [(0, .slice A_data_0 l829.length c_data_0), (14, .int .i64 i_524), (17, .int .i64 k_830)] ∧ Hp S0 w0 w [.own A_data_0 c_data_0 (rowC (Eint .i64) l829) 3 (Eint .i64).sz, .rd (some ⟨g_cmp_4_c0, 0, none⟩) [.slice A_cmp_4_c0_v cmp_4_c0_v.length c_cmp_4_c0_v], .rd A_cmp_4_c0_v (rowC (Eint .i64) cmp_4_c0_v)] ∧ slices_symMergeCmpFunc_int_cbuild_Limited_1.l7 k l829 k_830 i_524 = some yj610) FU (fun a ha => ⟨_, _, Is.cons ha (Is.cons ha (Is.cons ha (Is.nil ha) rfl) rfl) rfl, HS609.sel [0, 1, 2] rfl, H⟩) (fun kp828 a w831 hI Qp828 hNp828 hOp828 => ?_)
            obtain ⟨l829, k_830, ha, HS832, HAp828⟩ := hI
            cases kp828 with
            | zero => cases (show (none : Option _) = some _ from HAp828)
            | succ kp828 =>
              have H := (slices_symMergeCmpFunc_int_cbuild_Limited_1.l7.eq_2 ..).symm.trans HAp828
              refine wpLF_app ?_ ha
              refine L_seq ?_
              refine L_seq ?_
              refine L_region ?_
              refine F_val rfl rfl rfl (O_move rfl rfl) ?_
              refine F_val rfl rfl rfl (O_move rfl rfl) ?_
              refine F_val rfl rfl rfl (O_gt rfl rfl rfl) ?_
              refine F_nil ?_
              refine L_condP rfl (fun c833 => ?_) (fun c833 => ?_)
              · have H := of_pos H c833
                refine L_skip ?_
                refine L_seq ?_
                refine L_blk (fun Q834 hN834 hX834 hO834 => ?_)
                refine L_held2 17 1 [17] [15, 17] mix rfl (fun w851 hw852 => ?_)
                have HS853 := HS832.keep hw852
                have HR854 : Hp (HS853.ft [0]) w851 w851 [.own A_data_0 c_data_0 (rowC (Eint .i64) l829) 3 (Eint .i64).sz, .rd (some ⟨g_cmp_4_c0, 0, none⟩) [.slice A_cmp_4_c0_v cmp_4_c0_v.length c_cmp_4_c0_v], .rd A_cmp_4_c0_v (rowC (Eint .i64) cmp_4_c0_v)] := HS853.give [0] rfl (Lent.rd HS853 (Lent.rd HS853 (Lent.nil) (i := 2) rfl (HS853.cells_rd (i := 2) rfl).self) (i := 1) rfl (HS853.cells_rd (i := 1) rfl).self)
                refine ⟨fun w => Hp (HS853.ft [0]) w851 w [.own A_data_0 c_data_0 (rowC (Eint .i64) l829) 3 (Eint .i64).sz, .rd (some ⟨g_cmp_4_c0, 0, none⟩) [.slice A_cmp_4_c0_v cmp_4_c0_v.length c_cmp_4_c0_v], .rd A_cmp_4_c0_v (rowC (Eint .i64) cmp_4_c0_v)], HS853.turns [0], ?_⟩
                refine H2_fval (i := 0) rfl (by kernel_rfl) (by kernel_rfl) (by kernel_rfl) (by kernel_rfl) (by kernel_rfl) rfl rfl rfl (SS_0 (by kernel_rfl) (HR854.sel [0, 1, 2] rfl)) (fun wq => O_move rfl rfl) ?_
                refine H2_fval (i := 1) rfl (by kernel_rfl) (by kernel_rfl) (by kernel_rfl) (by kernel_rfl) (by kernel_rfl) rfl rfl rfl (SS_0 (by kernel_rfl) (HR854.sel [0, 1, 2] rfl)) (fun wq => O_move rfl rfl) ?_
                refine H2_fval (i := 2) rfl (by kernel_rfl) (by kernel_rfl) (by kernel_rfl) (by kernel_rfl) (by kernel_rfl) rfl rfl rfl (SS_0 (by kernel_rfl) (HR854.sel [0, 1, 2] rfl)) (fun wq => O_move rfl rfl) ?_
                refine H2_fval (i := 3) rfl (by kernel_rfl) (by kernel_rfl) (by kernel_rfl) (by kernel_rfl) (by kernel_rfl) rfl rfl rfl (SS_0 (by kernel_rfl) (HR854.sel [0, 1, 2] rfl)) (fun wq => O_move rfl rfl) ?_
                refine H2_fval (i := 4) rfl (by kernel_rfl) (by kernel_rfl) (by kernel_rfl) (by kernel_rfl) (by kernel_rfl) rfl rfl rfl (SS_0 (by kernel_rfl) (HR854.sel [0, 1, 2] rfl)) (fun wq => O_sub rfl rfl rfl) ?_
                refine H2_fval (i := 5) rfl (by kernel_rfl) (by kernel_rfl) (by kernel_rfl) (by kernel_rfl) (by kernel_rfl) rfl rfl rfl (SS_0 (by kernel_rfl) (HR854.sel [0, 1, 2] rfl)) (fun wq => O_move rfl rfl) ?_
                refine H2_fval (i := 6) rfl (by kernel_rfl) (by kernel_rfl) (by kernel_rfl) (by kernel_rfl) (by kernel_rfl) rfl rfl rfl (SS_0 (by kernel_rfl) (HR854.sel [0, 1, 2] rfl)) (fun wq => O_move rfl rfl) ?_
                refine H2_fval (i := 7) rfl (by kernel_rfl) (by kernel_rfl) (by kernel_rfl) (by kernel_rfl) (by kernel_rfl) rfl rfl rfl (SS_0 (by kernel_rfl) (HR854.sel [0, 1, 2] rfl)) (fun wq => O_sub rfl rfl rfl) ?_
                obtain ⟨⟨g855, g856⟩, H⟩ := of_gd H
                refine H2_fval (i := 8) rfl (by kernel_rfl) (by kernel_rfl) (by kernel_rfl) (by kernel_rfl) (by kernel_rfl) rfl rfl rfl (SS_0 (by kernel_rfl) (HR854.sel [0, 1, 2] rfl)) (fun wq => O_idx rfl rfl rfl Try.underlying22 size3 g855 g856 (Cells.isA (HR854.cells_own (i := 0) rfl) (rowC_ne (E := (Eint .i64)) g855 g856 (by decide)))) ?_
                refine H2_val (i := 9) [14, 15, 16, 17] rfl (by kernel_rfl) (by kernel_rfl) (by kernel_rfl) (by kernel_rfl) (by kernel_rfl) (by kernel_rfl) (by kernel_rfl) (by kernel_rfl) rfl rfl rfl (HR854.sel [0, 1, 2] rfl) (fun wq hq => O_loadC rfl rfl flat3 (hq.cells_own (i := 0) rfl) (int_cell g855 g856)) ?_
                refine H2_fval (i := 10) rfl (by kernel_rfl) (by kernel_rfl) (by kernel_rfl) (by kernel_rfl) (by kernel_rfl) rfl rfl rfl (SS_0 (by kernel_rfl) (HR854.sel [0, 1, 2] rfl)) (fun wq => O_move rfl rfl) ?_
                refine H2_fval (i := 11) rfl (by kernel_rfl) (by kernel_rfl) (by kernel_rfl) (by kernel_rfl) (by kernel_rfl) rfl rfl rfl (SS_0 (by kernel_rfl) (HR854.sel [0, 1, 2] rfl)) (fun wq => O_move rfl rfl) ?_
                obtain ⟨⟨g857, g858⟩, H⟩ := of_gd H
                refine H2_fval (i := 12) rfl (by kernel_rfl) (by kernel_rfl) (by kernel_rfl) (by kernel_rfl) (by kernel_rfl) rfl rfl rfl (SS_0 (by kernel_rfl) (HR854.sel [0, 1, 2] rfl)) (fun wq => O_idx rfl rfl rfl Try.underlying22 size3 g857 g858 (Cells.isA (HR854.cells_own (i := 0) rfl) (rowC_ne (E := (Eint .i64)) g857 g858 (by decide)))) ?_
                refine H2_val (i := 13) [14, 15, 16, 17] rfl (by kernel_rfl) (by kernel_rfl) (by kernel_rfl) (by kernel_rfl) (by kernel_rfl) (by kernel_rfl) (by kernel_rfl) (by kernel_rfl) rfl rfl rfl (HR854.sel [0, 1, 2] rfl) (fun wq hq => O_loadC rfl rfl flat3 (hq.cells_own (i := 0) rfl) (int_cell g857 g858)) ?_
                refine H2_fval (i := 14) rfl (by kernel_rfl) (by kernel_rfl) (by kernel_rfl) (by kernel_rfl) (by kernel_rfl) rfl rfl rfl (SS_0 (by kernel_rfl) (HR854.sel [0, 1, 2] rfl)) (fun wq => O_idx rfl rfl rfl Try.underlying22 size3 g857 g858 (Cells.isA (HR854.cells_own (i := 0) rfl) (rowC_ne (E := (Eint .i64)) g857 g858 (by decide)))) ?_
                refine H2_one (i := 15) rfl (by kernel_rfl) (by kernel_rfl) ?_
                obtain ⟨l861, h862, H⟩ := of_bnd H
                refine F_setE (E := (Eint .i64)) (i := 0) (a := rd l829 (IntKind.i64.wrap (k_830 - 1))) (q := k_830) rfl rfl rfl rfl rfl rfl size3 HR854 rfl (by decide) g857 g858 h862 (fun w859 HS860 => ?_)
                have e863 : l829.length = l861.length := by rw [← h862, List.length_set]
                refine F_know (i := 0) rfl (congrArg (fun n => Value.slice A_data_0 n c_data_0) e863) ?_
                refine F_know (i := 113) rfl (congrArg (fun n => Value.slice A_data_0 n c_data_0) e863) ?_
                refine F_know (i := 115) rfl (congrArg (fun n => Value.slice A_data_0 n c_data_0) e863) ?_
                refine F_know (i := 118) rfl (congrArg (fun n => Value.slice A_data_0 n c_data_0) e863) ?_
                refine F_know (i := 123) rfl (congrArg (fun n => Value.slice A_data_0 n c_data_0) e863) ?_
                have HS860 : Hp (HS853.ft [0]) w851 w859 [.own A_data_0 c_data_0 (rowC (Eint .i64) l861) 3 (Eint .i64).sz, .rd (some ⟨g_cmp_4_c0, 0, none⟩) [.slice A_cmp_4_c0_v cmp_4_c0_v.length c_cmp_4_c0_v], .rd A_cmp_4_c0_v (rowC (Eint .i64) cmp_4_c0_v)] := HS860
                refine H2_next (SS_1 (by kernel_rfl) HS860.chg) ?_
                obtain ⟨⟨g864, g865⟩, H⟩ := of_gd H
                refine H2_fval (i := 16) rfl (by kernel_rfl) (by kernel_rfl) (by kernel_rfl) (by kernel_rfl) (by kernel_rfl) rfl rfl rfl (SS_1 (by kernel_rfl) HS860.chg) (fun wq => O_idx rfl rfl rfl Try.underlying22 size3 g864 g865 (Cells.isA (HS860.cells_own (i := 0) rfl) (rowC_ne (E := (Eint .i64)) g864 g865 (by decide)))) ?_
                refine H2_end (by kernel_rfl) ?_
                have HS866 : Hp S0 w0 w859 [.own A_data_0 c_data_0 (rowC (Eint .i64) l861) 3 (Eint .i64).sz, .rd (some ⟨g_cmp_4_c0, 0, none⟩) [.slice A_cmp_4_c0_v cmp_4_c0_v.length c_cmp_4_c0_v], .rd A_cmp_4_c0_v (rowC (Eint .i64) cmp_4_c0_v)] := (HS853.back [0] (HS860.sel [0] rfl) rfl).sel [3, 1, 2] rfl
                refine T_one (i := 17) rfl (by kernel_rfl) ?_
                obtain ⟨l869, h870, H⟩ := of_bnd H
                refine F_setE (E := (Eint .i64)) (i := 0) (a := rd l829 k_830) (q := IntKind.i64.wrap (k_830 - 1)) rfl rfl rfl rfl rfl rfl size3 HS866 rfl (by decide) g864 g865 h870 (fun w867 HS868 => ?_)
                have e871 : l861.length = l869.length := by rw [← h870, List.length_set]
                refine F_know (i := 0) rfl (congrArg (fun n => Value.slice A_data_0 n c_data_0) e871) ?_
                refine F_know (i := 113) rfl (congrArg (fun n => Value.slice A_data_0 n c_data_0) e871) ?_
                refine F_know (i := 115) rfl (congrArg (fun n => Value.slice A_data_0 n c_data_0) e871) ?_
                refine F_know (i := 118) rfl (congrArg (fun n => Value.slice A_data_0 n c_data_0) e871) ?_
                refine F_know (i := 123) rfl (congrArg (fun n => Value.slice A_data_0 n c_data_0) e871) ?_
                have HS868 : Hp S0 w0 w867 [.own A_data_0 c_data_0 (rowC (Eint .i64) l869) 3 (Eint .i64).sz, .rd (some ⟨g_cmp_4_c0, 0, none⟩) [.slice A_cmp_4_c0_v cmp_4_c0_v.length c_cmp_4_c0_v], .rd A_cmp_4_c0_v (rowC (Eint .i64) cmp_4_c0_v)] := HS868
                refine T_next ?_
                refine T_done (by kernel_rfl) ?_
                refine L_endB hN834 ?_
                refine L_region ?_
                refine F_val rfl rfl rfl (O_move rfl rfl) ?_
                refine F_val rfl rfl rfl (O_sub rfl rfl rfl) ?_
                obtain ⟨x872, h873, H⟩ := of_bnd H
                refine F_val rfl rfl rfl (O_assign' rfl rfl (congrArg (Value.int .i64) h873)) ?_
                refine F_nil ?_
                refine L_nil (fun a ha => hNp828 _ a _ (Nat.lt_succ_self _) ⟨_, _, Is.cons ha (Is.cons ha (Is.cons ha (Is.nil ha) rfl) rfl) rfl, HS868.sel [0, 1, 2] rfl, H⟩)
              · have H := of_neg H c833
                refine L_exitB (fun a w h => hOp828 (.exit 6) a w rfl (hXb743 a w h)) ?_
                refine L_nil (fun a ha => hNj610 a _ ⟨_, (Option.some.inj H).symm, Is.nil ha, HS832.sel [0, 1, 2] rfl⟩)
          · obtain ⟨l742, ej, ha, HS875⟩ := hR
            obtain rfl := ej.symm
            refine wpLF_app ?_ ha
            obtain ⟨g876, H⟩ := of_gd H
            refine L_ret (fun a ha => (post_ret0 ha rfl ?_))
            obtain rfl := Option.some.inj H
            exact ⟨rfl, HS875.sel [0] rfl, g876⟩
      · have H := of_neg H c439
        refine L_skip ?_
        refine L_seq ?_
        refine L_region ?_
        refine F_val rfl rfl rfl (O_move rfl rfl) ?_
        refine F_val rfl rfl rfl (O_move rfl rfl) ?_
        refine F_val rfl rfl rfl (O_add rfl rfl rfl) ?_
        refine F_val rfl rfl rfl (O_conv rfl rfl ⟨_, Try.underlying3⟩ Try.underlying43) ?_
        refine F_val rfl rfl rfl (O_shr rfl rfl rfl (by decide)) ?_
        refine F_val rfl rfl rfl (O_conv rfl rfl ⟨_, Try.underlying43⟩ Try.underlying3) ?_
        obtain ⟨x877, h878, H⟩ := of_bnd H
        refine F_val rfl rfl rfl (O_assign' rfl rfl (congrArg (Value.int .i64) h878)) ?_
        refine F_nil ?_
        refine L_seq ?_
        refine L_region ?_
        refine F_val rfl rfl rfl (O_move rfl rfl) ?_
        refine F_val rfl rfl rfl (O_move rfl rfl) ?_
        refine F_val rfl rfl rfl (O_add rfl rfl rfl) ?_
        obtain ⟨x879, h880, H⟩ := of_bnd H
        refine F_val rfl rfl rfl (O_assign' rfl rfl (congrArg (Value.int .i64) h880)) ?_
        refine F_nil ?_
        refine L_seq ?_
        refine L_region ?_
        refine F_val rfl rfl rfl (O_assign rfl rfl) ?_
        refine F_val rfl rfl rfl (O_assign rfl rfl) ?_
        refine F_nil ?_
        refine L_seq ?_
        refine L_seq ?_
        refine L_region ?_
        refine F_val rfl rfl rfl (O_move rfl rfl) ?_
        refine F_val rfl rfl rfl (O_move rfl rfl) ?_
        refine F_val rfl rfl rfl (O_gt rfl rfl rfl) ?_
        refine F_nil ?_
        obtain ⟨yj881, Hyj881, H⟩ := of_bind H
        refine L_join (fun a w => ∃ (start_885 : Int), ∃ (r_886 : Int), yj881 = (start_885, r_886) ∧ Is Try.f82.ntmps a [(0, .slice A_data_0 l_data_0.length c_data_0), (1, .int .i64 a_1), (2, .int .i64 m_2), (3, .int .i64 b_3), (4, .func (.func 48) #[] #[.pointer (some ⟨g_cmp_4_c0, 0, none⟩)]), (18, .int .i64 x877), (19, .int .i64 x879), (20, .int .i64 start_885), (21, .int .i64 r_886)] ∧ Hp S0 w0 w [.own A_data_0 c_data_0 (rowC (Eint .i64) l_data_0) 3 (Eint .i64).sz, .rd (some ⟨g_cmp_4_c0, 0, none⟩) [.slice A_cmp_4_c0_v cmp_4_c0_v.length c_cmp_4_c0_v], .rd A_cmp_4_c0_v (rowC (Eint .i64) cmp_4_c0_v)]) (fun Qj881 hNj881 hOj881 => ?_) (fun a w hR => ?_)
        · skip
          have H := Hyj881
          refine L_condP rfl (fun c887 => ?_) (fun c887 => ?_)
          · have H := of_pos H c887
            refine L_seq ?_
            refine L_region ?_
            refine F_val rfl rfl rfl (O_move rfl rfl) ?_
            refine F_val rfl rfl rfl (O_move rfl rfl) ?_
            refine F_val rfl rfl rfl (O_sub rfl rfl rfl) ?_
            obtain ⟨x888, h889, H⟩ := of_bnd H
            refine F_val rfl rfl rfl (O_assign' rfl rfl (congrArg (Value.int .i64) h889)) ?_
            refine F_nil ?_
            refine L_region ?_
            refine F_val rfl rfl rfl (O_move rfl rfl) ?_
            refine F_val rfl rfl rfl (O_assign rfl rfl) ?_
            refine F_nil ?_
            refine L_nil (fun a ha => hNj881 a _ ⟨_, _, (Option.some.inj H).symm, Is.cons ha (Is.cons ha (Is.cons ha (Is.cons ha (Is.cons ha (Is.cons ha (Is.cons ha (Is.cons ha (Is.cons ha (Is.nil ha) rfl) rfl) rfl) rfl) rfl) rfl) rfl) rfl) rfl, HS0.sel [0, 1, 2] rfl⟩)
          · have H := of_neg H c887
            refine L_seq ?_
            refine L_region ?_
            refine F_val rfl rfl rfl (O_move rfl rfl) ?_
            refine F_val rfl rfl rfl (O_assign rfl rfl) ?_
            refine F_nil ?_
            refine L_region ?_
            refine F_val rfl rfl rfl (O_move rfl rfl) ?_
            refine F_val rfl rfl rfl (O_assign rfl rfl) ?_
            refine F_nil ?_
            refine L_nil (fun a ha => hNj881 a _ ⟨_, _, (Option.some.inj H).symm, Is.cons ha (Is.cons ha (Is.cons ha (Is.cons ha (Is.cons ha (Is.cons ha (Is.cons ha (Is.cons ha (Is.cons ha (Is.nil ha) rfl) rfl) rfl) rfl) rfl) rfl) rfl) rfl) rfl, HS0.sel [0, 1, 2] rfl⟩)
        · obtain ⟨start_885, r_886, rfl, ha, HS891⟩ := hR
          refine wpLF_app ?_ ha
          refine L_seq ?_
          refine L_region ?_
          refine F_val rfl rfl rfl (O_move rfl rfl) ?_
          refine F_val rfl rfl rfl (O_sub rfl rfl rfl) ?_
          obtain ⟨x892, h893, H⟩ := of_bnd H
          refine F_val rfl rfl rfl (O_assign' rfl rfl (congrArg (Value.int .i64) h893)) ?_
          refine F_nil ?_
          refine L_seq ?_
          obtain ⟨yj894, Hyj894, H⟩ := of_bind H
          refine L_join (fun a w => ∃ (start_978 : Int), yj894 = start_978 ∧ Is Try.f82.ntmps a [(0, .slice A_data_0 l_data_0.length c_data_0), (1, .int .i64 a_1), (2, .int .i64 m_2), (3, .int .i64 b_3), (4, .func (.func 48) #[] #[.pointer (some ⟨g_cmp_4_c0, 0, none⟩)]), (18, .int .i64 x877), (19, .int .i64 x879), (20, .int .i64 start_978)] ∧ Hp S0 w0 w [.own A_data_0 c_data_0 (rowC (Eint .i64) l_data_0) 3 (Eint .i64).sz, .rd (some ⟨g_cmp_4_c0, 0, none⟩) [.slice A_cmp_4_c0_v cmp_4_c0_v.length c_cmp_4_c0_v], .rd A_cmp_4_c0_v (rowC (Eint .i64) cmp_4_c0_v)]) (fun Qj894 hNj894 hOj894 => ?_) (fun a w hR => ?_)
          · skip
            have H := Hyj894
            refine L_blk (fun Qb979 hNb979 hXb979 hOb979 => ?_)
            refine L_lp (fun k a w => ∃ (start_1033 : Int), ∃ (r_1034 : Int), Is Try.f82.ntmps a [(0, .slice A_data_0 l_data_0.length c_data_0), (1, .int .i64 a_1), (2, .int .i64 m_2), (3, .int .i64 b_3), (4, .func (.func 48) #[] #[.pointer (some ⟨g_cmp_4_c0, 0, none⟩)]), (18, .int .i64 x877), (19, .int .i64 x879), (20, .int .i64 start_1033), (21, .int .i64 r_1034), (22, .int .i64 x892)] ∧ Hp S0 w0 w [.own A_data_0 c_data_0 (rowC (Eint .i64) l_data_0) 3 (Eint .i64).sz, .rd (some ⟨g_cmp_4_c0, 0, none⟩) [.slice A_cmp_4_c0_v cmp_4_c0_v.length c_cmp_4_c0_v], .rd A_cmp_4_c0_v (rowC (Eint .i64) cmp_4_c0_v)] ∧ slices_symMergeCmpFunc_int_cbuild_Limited_1.l9 k start_1033 r_1034 l_data_0 cmp_4_c0_v x892 = some yj894) FU (fun a ha => ⟨_, _, Is.cons ha (Is.cons ha (Is.cons ha (Is.cons ha (Is.cons ha (Is.cons ha (Is.cons ha (Is.cons ha (Is.cons ha (Is.cons ha (Is.nil ha) rfl) rfl) rfl) rfl) rfl) rfl) rfl) rfl) rfl) rfl, HS891.sel [0, 1, 2] rfl, H⟩) (fun kp1032 a w1035 hI Qp1032 hNp1032 hOp1032 => ?_)
            obtain ⟨start_1033, r_1034, ha, HS1036, HAp1032⟩ := hI
            cases kp1032 with
            | zero => cases (show (none : Option _) = some _ from HAp1032)
            | succ kp1032 =>
              have H := (slices_symMergeCmpFunc_int_cbuild_Limited_1.l9.eq_2 ..).symm.trans HAp1032
              refine wpLF_app ?_ ha
              refine L_seq ?_
              refine L_seq ?_
              refine L_region ?_
              refine F_val rfl rfl rfl (O_move rfl rfl) ?_
              refine F_val rfl rfl rfl (O_move rfl rfl) ?_
              refine F_val rfl rfl rfl (O_lt rfl rfl rfl) ?_
              refine F_nil ?_
              refine L_condP rfl (fun c1037 => ?_) (fun c1037 => ?_)
              · have H := of_pos H c1037
                refine L_skip ?_
                refine L_blk (fun Q1038 hN1038 hX1038 hO1038 => ?_)
                refine L_seq ?_
                refine L_region ?_
                refine F_val rfl rfl rfl (O_move rfl rfl) ?_
                refine F_val rfl rfl rfl (O_move rfl rfl) ?_
                refine F_val rfl rfl rfl (O_add rfl rfl rfl) ?_
                refine F_val rfl rfl rfl (O_conv rfl rfl ⟨_, Try.underlying3⟩ Try.underlying43) ?_
                refine F_val rfl rfl rfl (O_shr rfl rfl rfl (by decide)) ?_
                refine F_val rfl rfl rfl (O_conv rfl rfl ⟨_, Try.underlying43⟩ Try.underlying3) ?_
                obtain ⟨x1039, h1040, H⟩ := of_bnd H
                refine F_val rfl rfl rfl (O_assign' rfl rfl (congrArg (Value.int .i64) h1040)) ?_
                refine F_nil ?_
                refine L_seq ?_
                refine L_quiet mix (by kernel_rfl) ?_
                refine Q_val rfl rfl rfl (fun wq hq => O_move rfl rfl) ?_
                refine Q_val rfl rfl rfl (fun wq hq => O_move rfl rfl) ?_
                refine Q_val rfl rfl rfl (fun wq hq => O_move rfl rfl) ?_
                refine Q_val rfl rfl rfl (fun wq hq => O_move rfl rfl) ?_
                refine Q_val rfl rfl rfl (fun wq hq => O_sub rfl rfl rfl) ?_
                obtain ⟨⟨g1041, g1042⟩, H⟩ := of_gd H
                refine Q_val rfl rfl rfl (fun wq hq => O_idx rfl rfl rfl Try.underlying22 size3 g1041 g1042 (Cells.isA ((HS1036.keep hq).cells_own (i := 0) rfl) (rowC_ne (E := (Eint .i64)) g1041 g1042 (by decide)))) ?_
                refine Q_val rfl rfl rfl (fun wq hq => O_loadC rfl rfl flat3 ((HS1036.keep hq).cells_own (i := 0) rfl) (int_cell g1041 g1042)) ?_
                refine Q_val rfl rfl rfl (fun wq hq => O_move rfl rfl) ?_
                refine Q_val rfl rfl rfl (fun wq hq => O_move rfl rfl) ?_
                obtain ⟨⟨g1043, g1044⟩, H⟩ := of_gd H
                refine Q_val rfl rfl rfl (fun wq hq => O_idx rfl rfl rfl Try.underlying22 size3 g1043 g1044 (Cells.isA ((HS1036.keep hq).cells_own (i := 0) rfl) (rowC_ne (E := (Eint .i64)) g1043 g1044 (by decide)))) ?_
                refine Q_val rfl rfl rfl (fun wq hq => O_loadC rfl rfl flat3 ((HS1036.keep hq).cells_own (i := 0) rfl) (int_cell g1043 g1044)) ?_
                obtain ⟨z1047, h1046, H⟩ := of_bind H
                refine Q_callV (v := .int .i64 z1047) (xs := [.tmp 164, .tmp 168]) (cv := [.pointer (some ⟨g_cmp_4_c0, 0, none⟩)]) rfl rfl rfl rfl rfl Try.func48 nm48 rfl rfl rfl (fun wq hq => (build_Limited_1.calls ((HS1036.keep hq).give [] rfl (Lent.rd (HS1036.keep hq) (Lent.rd (HS1036.keep hq) (Lent.nil) (i := 2) rfl (((HS1036.keep hq).cells_rd (i := 2) rfl).self)) (i := 1) rfl ((HS1036.keep hq).cells_rd (i := 1) rfl).self)) hc_r_cmp_4_c0_v h1046).mono (fun e w hc => ?_)) ?_
                · obtain ⟨rfl, h⟩ := hc
                  exact ⟨rfl, hq.trans h.chg0⟩
                refine Q_val rfl rfl rfl (fun wq hq => O_lt rfl rfl rfl) ?_
                refine Q_val rfl rfl rfl (fun wq hq => O_not rfl rfl) ?_
                refine Q_nil (fun w1048 hw1049 => ?_)
                have HS1050 := HS1036.keep hw1049
                obtain ⟨yj1051, Hyj1051, H⟩ := of_bind H
                refine L_join (fun a w => ∃ (start_1055 : Int), ∃ (r_1056 : Int), yj1051 = (start_1055, r_1056) ∧ Is Try.f82.ntmps a [(0, .slice A_data_0 l_data_0.length c_data_0), (1, .int .i64 a_1), (2, .int .i64 m_2), (3, .int .i64 b_3), (4, .func (.func 48) #[] #[.pointer (some ⟨g_cmp_4_c0, 0, none⟩)]), (18, .int .i64 x877), (19, .int .i64 x879), (20, .int .i64 start_1055), (21, .int .i64 r_1056), (22, .int .i64 x892)] ∧ Hp S0 w0 w [.own A_data_0 c_data_0 (rowC (Eint .i64) l_data_0) 3 (Eint .i64).sz, .rd (some ⟨g_cmp_4_c0, 0, none⟩) [.slice A_cmp_4_c0_v cmp_4_c0_v.length c_cmp_4_c0_v], .rd A_cmp_4_c0_v (rowC (Eint .i64) cmp_4_c0_v)]) (fun Qj1051 hNj1051 hOj1051 => ?_) (fun a w hR => ?_)
                · skip
                  have H := Hyj1051
                  refine L_condP rfl (fun c1057 => ?_) (fun c1057 => ?_)
                  · have H := of_pos H c1057
                    refine L_region ?_
                    refine F_val rfl rfl rfl (O_move rfl rfl) ?_
                    refine F_val rfl rfl rfl (O_add rfl rfl rfl) ?_
                    obtain ⟨x1058, h1059, H⟩ := of_bnd H
                    refine F_val rfl rfl rfl (O_assign' rfl rfl (congrArg (Value.int .i64) h1059)) ?_
                    refine F_nil ?_
                    refine L_nil (fun a ha => hNj1051 a _ ⟨_, _, (Option.some.inj H).symm, Is.cons ha (Is.cons ha (Is.cons ha (Is.cons ha (Is.cons ha (Is.cons ha (Is.cons ha (Is.cons ha (Is.cons ha (Is.cons ha (Is.nil ha) rfl) rfl) rfl) rfl) rfl) rfl) rfl) rfl) rfl) rfl, HS1050.sel [0, 1, 2] rfl⟩)
                  · have H := of_neg H c1057
                    refine L_region ?_
                    refine F_val rfl rfl rfl (O_move rfl rfl) ?_
                    refine F_val rfl rfl rfl (O_assign rfl rfl) ?_
                    refine F_nil ?_
                    refine L_nil (fun a ha => hNj1051 a _ ⟨_, _, (Option.some.inj H).symm, Is.cons ha (Is.cons ha (Is.cons ha (Is.cons ha (Is.cons ha (Is.cons ha (Is.cons ha (Is.cons ha (Is.cons ha (Is.cons ha (Is.nil ha) rfl) rfl) rfl) rfl) rfl) rfl) rfl) rfl) rfl) rfl, HS1050.sel [0, 1, 2] rfl⟩)
                · obtain ⟨start_1055, r_1056, rfl, ha, HS1061⟩ := hR
                  refine wpLF_app ?_ ha
                  refine L_endB hN1038 ?_
                  refine L_nil (fun a ha => hNp1032 _ a _ (Nat.lt_succ_self _) ⟨_, _, Is.cons ha (Is.cons ha (Is.cons ha (Is.cons ha (Is.cons ha (Is.cons ha (Is.cons ha (Is.cons ha (Is.cons ha (Is.cons ha (Is.nil ha) rfl) rfl) rfl) rfl) rfl) rfl) rfl) rfl) rfl) rfl, HS1061.sel [0, 1, 2] rfl, H⟩)
              · have H := of_neg H c1037
                refine L_exitB (fun a w h => hOp1032 (.exit 8) a w rfl (hXb979 a w h)) ?_
                refine L_nil (fun a ha => hNj894 a _ ⟨_, (Option.some.inj H).symm, Is.cons ha (Is.cons ha (Is.cons ha (Is.cons ha (Is.cons ha (Is.cons ha (Is.cons ha (Is.cons ha (Is.nil ha) rfl) rfl) rfl) rfl) rfl) rfl) rfl) rfl, HS1036.sel [0, 1, 2] rfl⟩)
          · obtain ⟨start_978, ej, ha, HS1063⟩ := hR
            obtain rfl := ej.symm
            refine wpLF_app ?_ ha
            refine L_seq ?_
            refine L_region ?_
            refine F_val rfl rfl rfl (O_move rfl rfl) ?_
            refine F_val rfl rfl rfl (O_move rfl rfl) ?_
            refine F_val rfl rfl rfl (O_sub rfl rfl rfl) ?_
            obtain ⟨x1064, h1065, H⟩ := of_bnd H
            refine F_val rfl rfl rfl (O_assign' rfl rfl (congrArg (Value.int .i64) h1065)) ?_
            refine F_nil ?_
            refine L_seq ?_
            refine L_seq ?_
            refine L_region ?_
            refine F_val rfl rfl rfl (O_move rfl rfl) ?_
            refine F_val rfl rfl rfl (O_move rfl rfl) ?_
            refine F_val rfl rfl rfl (O_lt rfl rfl rfl) ?_
            refine F_val rfl rfl rfl (O_move rfl rfl) ?_
            refine F_grp 4 [(185, .bool (decide ((start_978 < m_2) ∧ (m_2 < x1064)))), (0, .slice A_data_0 l_data_0.length c_data_0), (1, .int .i64 a_1), (2, .int .i64 m_2), (3, .int .i64 b_3), (4, .func (.func 48) #[] #[.pointer (some ⟨g_cmp_4_c0, 0, none⟩)]), (18, .int .i64 x877), (20, .int .i64 start_978), (24, .int .i64 x1064)] ?_ ?_
            · rcases Decidable.em (start_978 < m_2) with c1069 | c1069
              · refine F_know (i := 181) rfl (dec_t c1069) ?_
                refine F_gval rfl rfl rfl rfl rfl rfl (O_move rfl rfl) ?_
                refine F_gval rfl rfl rfl rfl rfl rfl (O_move rfl rfl) ?_
                refine F_gval rfl rfl rfl rfl rfl rfl (O_lt rfl rfl rfl) ?_
                refine F_val rfl rfl rfl (O_pickT rfl rfl rfl) ?_
                refine F_know (i := 185) rfl (dec_and_t (q := m_2 < x1064) c1069) ?_
                exact F_grpE (fun a ha => Is.cons ha (Is.cons ha (Is.cons ha (Is.cons ha (Is.cons ha (Is.cons ha (Is.cons ha (Is.cons ha (Is.cons ha (Is.nil ha) rfl) rfl) rfl) rfl) rfl) rfl) rfl) rfl) rfl)
              · refine F_know (i := 181) rfl (dec_f c1069) ?_
                refine F_gskip rfl rfl rfl rfl rfl rfl rfl ?_
                refine F_gskip rfl rfl rfl rfl rfl rfl rfl ?_
                refine F_gskip rfl rfl rfl rfl rfl rfl rfl ?_
                refine F_val rfl rfl rfl (O_pickF rfl rfl rfl) ?_
                refine F_know (i := 185) rfl (dec_and_f (q := m_2 < x1064) c1069) ?_
                exact F_grpE (fun a ha => Is.cons ha (Is.cons ha (Is.cons ha (Is.cons ha (Is.cons ha (Is.cons ha (Is.cons ha (Is.cons ha (Is.cons ha (Is.nil ha) rfl) rfl) rfl) rfl) rfl) rfl) rfl) rfl) rfl)
            · skip
              refine F_nil ?_
              obtain ⟨yj1070, Hyj1070, H⟩ := of_bind H
              refine L_join (fun a w => ∃ (l1081 : List Int), yj1070 = l1081 ∧ Is Try.f82.ntmps a [(0, .slice A_data_0 l1081.length c_data_0), (1, .int .i64 a_1), (3, .int .i64 b_3), (4, .func (.func 48) #[] #[.pointer (some ⟨g_cmp_4_c0, 0, none⟩)]), (18, .int .i64 x877), (20, .int .i64 start_978), (24, .int .i64 x1064)] ∧ Hp S0 w0 w [.own A_data_0 c_data_0 (rowC (Eint .i64) l1081) 3 (Eint .i64).sz, .rd (some ⟨g_cmp_4_c0, 0, none⟩) [.slice A_cmp_4_c0_v cmp_4_c0_v.length c_cmp_4_c0_v], .rd A_cmp_4_c0_v (rowC (Eint .i64) cmp_4_c0_v)]) (fun Qj1070 hNj1070 hOj1070 => ?_) (fun a w hR => ?_)
              · skip
                have H := Hyj1070
                refine L_condP rfl (fun c1082 => ?_) (fun c1082 => ?_)
                · have H := of_pos H c1082
                  refine L_region ?_
                  refine F_val rfl rfl rfl (O_move rfl rfl) ?_
                  refine F_val rfl rfl rfl (O_move rfl rfl) ?_
                  refine F_val rfl rfl rfl (O_move rfl rfl) ?_
                  refine F_val rfl rfl rfl (O_move rfl rfl) ?_
                  refine F_val rfl rfl rfl (O_move rfl rfl) ?_
                  obtain ⟨z1087, h1086, H⟩ := of_bind H
                  refine F_call (xs := [.tmp 186, .tmp 187, .tmp 188, .tmp 189, .tmp 190]) rfl rfl rfl rfl Try.func88 nm88 rfl rfl ((slices_rotateCmpFunc_int_cbuild_Limited_1.calls (HS1063.give [0] rfl (Lent.rd HS1063 (Lent.rd HS1063 (Lent.nil) (i := 2) rfl ((HS1063.cells_rd (i := 2) rfl).self)) (i := 1) rfl (HS1063.cells_rd (i := 1) rfl).self)) hc_r_cmp_4_c0_v h1086).mono (fun e w hc => ?_))
                  obtain ⟨rfl, HSo, hl1090⟩ := hc
                  refine ⟨.tuple #[], rfl, ?_⟩
                  have HS1089 : Hp S0 w0 w [.own A_data_0 c_data_0 (rowC (Eint .i64) z1087) 3 (Eint .i64).sz, .rd (some ⟨g_cmp_4_c0, 0, none⟩) [.slice A_cmp_4_c0_v cmp_4_c0_v.length c_cmp_4_c0_v], .rd A_cmp_4_c0_v (rowC (Eint .i64) cmp_4_c0_v)] := (HS1063.back [0] HSo rfl).sel [3, 1, 2] rfl
                  have e1091 : l_data_0.length = z1087.length := hl1090.symm
                  refine F_know (i := 0) rfl (congrArg (fun n => Value.slice A_data_0 n c_data_0) e1091) ?_
                  refine F_nil ?_
                  refine L_nil (fun a ha => hNj1070 a _ ⟨_, (Option.some.inj H).symm, Is.cons ha (Is.cons ha (Is.cons ha (Is.cons ha (Is.cons ha (Is.cons ha (Is.cons ha (Is.nil ha) rfl) rfl) rfl) rfl) rfl) rfl) rfl, HS1089.sel [0, 1, 2] rfl⟩)
                · have H := of_neg H c1082
                  refine L_skip ?_
                  refine L_nil (fun a ha => hNj1070 a _ ⟨_, (Option.some.inj H).symm, Is.cons ha (Is.cons ha (Is.cons ha (Is.cons ha (Is.cons ha (Is.cons ha (Is.cons ha (Is.nil ha) rfl) rfl) rfl) rfl) rfl) rfl) rfl, HS1063.sel [0, 1, 2] rfl⟩)
              · obtain ⟨l1081, ej, ha, HS1093⟩ := hR
                obtain rfl := ej.symm
                refine wpLF_app ?_ ha
                refine L_seq ?_
                refine L_seq ?_
                refine L_region ?_
                refine F_val rfl rfl rfl (O_move rfl rfl) ?_
                refine F_val rfl rfl rfl (O_move rfl rfl) ?_
                refine F_val rfl rfl rfl (O_lt rfl rfl rfl) ?_
                refine F_val rfl rfl rfl (O_move rfl rfl) ?_
                refine F_grp 4 [(199, .bool (decide ((a_1 < start_978) ∧ (start_978 < x877)))), (0, .slice A_data_0 l1081.length c_data_0), (1, .int .i64 a_1), (3, .int .i64 b_3), (4, .func (.func 48) #[] #[.pointer (some ⟨g_cmp_4_c0, 0, none⟩)]), (18, .int .i64 x877), (20, .int .i64 start_978), (24, .int .i64 x1064)] ?_ ?_
                · rcases Decidable.em (a_1 < start_978) with c1097 | c1097
                  · refine F_know (i := 195) rfl (dec_t c1097) ?_
                    refine F_gval rfl rfl rfl rfl rfl rfl (O_move rfl rfl) ?_
                    refine F_gval rfl rfl rfl rfl rfl rfl (O_move rfl rfl) ?_
                    refine F_gval rfl rfl rfl rfl rfl rfl (O_lt rfl rfl rfl) ?_
                    refine F_val rfl rfl rfl (O_pickT rfl rfl rfl) ?_
                    refine F_know (i := 199) rfl (dec_and_t (q := start_978 < x877) c1097) ?_
                    exact F_grpE (fun a ha => Is.cons ha (Is.cons ha (Is.cons ha (Is.cons ha (Is.cons ha (Is.cons ha (Is.cons ha (Is.cons ha (Is.nil ha) rfl) rfl) rfl) rfl) rfl) rfl) rfl) rfl)
                  · refine F_know (i := 195) rfl (dec_f c1097) ?_
                    refine F_gskip rfl rfl rfl rfl rfl rfl rfl ?_
                    refine F_gskip rfl rfl rfl rfl rfl rfl rfl ?_
                    refine F_gskip rfl rfl rfl rfl rfl rfl rfl ?_
                    refine F_val rfl rfl rfl (O_pickF rfl rfl rfl) ?_
                    refine F_know (i := 199) rfl (dec_and_f (q := start_978 < x877) c1097) ?_
                    exact F_grpE (fun a ha => Is.cons ha (Is.cons ha (Is.cons ha (Is.cons ha (Is.cons ha (Is.cons ha (Is.cons ha (Is.cons ha (Is.nil ha) rfl) rfl) rfl) rfl) rfl) rfl) rfl) rfl)
                · skip
                  refine F_nil ?_
                  obtain ⟨yj1098, Hyj1098, H⟩ := of_bind H
                  refine L_join (fun a w => ∃ (l1109 : List Int), yj1098 = l1109 ∧ Is Try.f82.ntmps a [(0, .slice A_data_0 l1109.length c_data_0), (3, .int .i64 b_3), (4, .func (.func 48) #[] #[.pointer (some ⟨g_cmp_4_c0, 0, none⟩)]), (18, .int .i64 x877), (24, .int .i64 x1064)] ∧ Hp S0 w0 w [.own A_data_0 c_data_0 (rowC (Eint .i64) l1109) 3 (Eint .i64).sz, .rd (some ⟨g_cmp_4_c0, 0, none⟩) [.slice A_cmp_4_c0_v cmp_4_c0_v.length c_cmp_4_c0_v], .rd A_cmp_4_c0_v (rowC (Eint .i64) cmp_4_c0_v)]) (fun Qj1098 hNj1098 hOj1098 => ?_) (fun a w hR => ?_)
                  · skip
                    have H := Hyj1098
                    refine L_condP rfl (fun c1110 => ?_) (fun c1110 => ?_)
                    · have H := of_pos H c1110
                      refine L_region ?_
                      refine F_val rfl rfl rfl (O_move rfl rfl) ?_
                      refine F_val rfl rfl rfl (O_move rfl rfl) ?_
                      refine F_val rfl rfl rfl (O_move rfl rfl) ?_
                      refine F_val rfl rfl rfl (O_move rfl rfl) ?_
                      refine F_val rfl rfl rfl (O_move rfl rfl) ?_
                      obtain ⟨z1115, h1114, H⟩ := of_bind H
                      refine F_call (xs := [.tmp 200, .tmp 201, .tmp 202, .tmp 203, .tmp 204]) rfl rfl rfl rfl Try.func82 nm82 rfl rfl ((IH (HS1093.give [0] rfl (Lent.rd HS1093 (Lent.rd HS1093 (Lent.nil) (i := 2) rfl ((HS1093.cells_rd (i := 2) rfl).self)) (i := 1) rfl (HS1093.cells_rd (i := 1) rfl).self)) hc_r_cmp_4_c0_v h1114).mono (fun e w hc => ?_))
                      obtain ⟨rfl, HSo, hl1118⟩ := hc
                      refine ⟨.tuple #[], rfl, ?_⟩
                      have HS1117 : Hp S0 w0 w [.own A_data_0 c_data_0 (rowC (Eint .i64) z1115) 3 (Eint .i64).sz, .rd (some ⟨g_cmp_4_c0, 0, none⟩) [.slice A_cmp_4_c0_v cmp_4_c0_v.length c_cmp_4_c0_v], .rd A_cmp_4_c0_v (rowC (Eint .i64) cmp_4_c0_v)] := (HS1093.back [0] HSo rfl).sel [3, 1, 2] rfl
                      have e1119 : l1081.length = z1115.length := hl1118.symm
                      refine F_know (i := 0) rfl (congrArg (fun n => Value.slice A_data_0 n c_data_0) e1119) ?_
                      refine F_nil ?_
                      refine L_nil (fun a ha => hNj1098 a _ ⟨_, (Option.some.inj H).symm, Is.cons ha (Is.cons ha (Is.cons ha (Is.cons ha (Is.cons ha (Is.nil ha) rfl) rfl) rfl) rfl) rfl, HS1117.sel [0, 1, 2] rfl⟩)
                    · have H := of_neg H c1110
                      refine L_skip ?_
                      refine L_nil (fun a ha => hNj1098 a _ ⟨_, (Option.some.inj H).symm, Is.cons ha (Is.cons ha (Is.cons ha (Is.cons ha (Is.cons ha (Is.nil ha) rfl) rfl) rfl) rfl) rfl, HS1093.sel [0, 1, 2] rfl⟩)
                  · obtain ⟨l1109, ej, ha, HS1121⟩ := hR
                    obtain rfl := ej.symm
                    refine wpLF_app ?_ ha
                    refine L_seq ?_
                    refine L_region ?_
                    refine F_val rfl rfl rfl (O_move rfl rfl) ?_
                    refine F_val rfl rfl rfl (O_move rfl rfl) ?_
                    refine F_val rfl rfl rfl (O_lt rfl rfl rfl) ?_
                    refine F_val rfl rfl rfl (O_move rfl rfl) ?_
                    refine F_grp 4 [(213, .bool (decide ((x877 < x1064) ∧ (x1064 < b_3)))), (0, .slice A_data_0 l1109.length c_data_0), (3, .int .i64 b_3), (4, .func (.func 48) #[] #[.pointer (some ⟨g_cmp_4_c0, 0, none⟩)]), (18, .int .i64 x877), (24, .int .i64 x1064)] ?_ ?_
                    · rcases Decidable.em (x877 < x1064) with c1125 | c1125
                      · refine F_know (i := 209) rfl (dec_t c1125) ?_
                        refine F_gval rfl rfl rfl rfl rfl rfl (O_move rfl rfl) ?_
                        refine F_gval rfl rfl rfl rfl rfl rfl (O_move rfl rfl) ?_
                        refine F_gval rfl rfl rfl rfl rfl rfl (O_lt rfl rfl rfl) ?_
                        refine F_val rfl rfl rfl (O_pickT rfl rfl rfl) ?_
                        refine F_know (i := 213) rfl (dec_and_t (q := x1064 < b_3) c1125) ?_
                        exact F_grpE (fun a ha => Is.cons ha (Is.cons ha (Is.cons ha (Is.cons ha (Is.cons ha (Is.cons ha (Is.nil ha) rfl) rfl) rfl) rfl) rfl) rfl)
                      · refine F_know (i := 209) rfl (dec_f c1125) ?_
                        refine F_gskip rfl rfl rfl rfl rfl rfl rfl ?_
                        refine F_gskip rfl rfl rfl rfl rfl rfl rfl ?_
                        refine F_gskip rfl rfl rfl rfl rfl rfl rfl ?_
                        refine F_val rfl rfl rfl (O_pickF rfl rfl rfl) ?_
                        refine F_know (i := 213) rfl (dec_and_f (q := x1064 < b_3) c1125) ?_
                        exact F_grpE (fun a ha => Is.cons ha (Is.cons ha (Is.cons ha (Is.cons ha (Is.cons ha (Is.cons ha (Is.nil ha) rfl) rfl) rfl) rfl) rfl) rfl)
                    · skip
                      refine F_nil ?_
                      obtain ⟨yj1126, Hyj1126, H⟩ := of_bind H
                      refine L_join (fun a w => ∃ (l1137 : List Int), yj1126 = l1137 ∧ Is Try.f82.ntmps a [] ∧ Hp S0 w0 w [.own A_data_0 c_data_0 (rowC (Eint .i64) l1137) 3 (Eint .i64).sz, .rd (some ⟨g_cmp_4_c0, 0, none⟩) [.slice A_cmp_4_c0_v cmp_4_c0_v.length c_cmp_4_c0_v], .rd A_cmp_4_c0_v (rowC (Eint .i64) cmp_4_c0_v)]) (fun Qj1126 hNj1126 hOj1126 => ?_) (fun a w hR => ?_)
                      · skip
                        have H := Hyj1126
                        refine L_condP rfl (fun c1138 => ?_) (fun c1138 => ?_)
                        · have H := of_pos H c1138
                          refine L_region ?_
                          refine F_val rfl rfl rfl (O_move rfl rfl) ?_
                          refine F_val rfl rfl rfl (O_move rfl rfl) ?_
                          refine F_val rfl rfl rfl (O_move rfl rfl) ?_
                          refine F_val rfl rfl rfl (O_move rfl rfl) ?_
                          refine F_val rfl rfl rfl (O_move rfl rfl) ?_
                          obtain ⟨z1143, h1142, H⟩ := of_bind H
                          refine F_call (xs := [.tmp 214, .tmp 215, .tmp 216, .tmp 217, .tmp 218]) rfl rfl rfl rfl Try.func82 nm82 rfl rfl ((IH (HS1121.give [0] rfl (Lent.rd HS1121 (Lent.rd HS1121 (Lent.nil) (i := 2) rfl ((HS1121.cells_rd (i := 2) rfl).self)) (i := 1) rfl (HS1121.cells_rd (i := 1) rfl).self)) hc_r_cmp_4_c0_v h1142).mono (fun e w hc => ?_))
                          obtain ⟨rfl, HSo, hl1146⟩ := hc
                          refine ⟨.tuple #[], rfl, ?_⟩
                          have HS1145 : Hp S0 w0 w [.own A_data_0 c_data_0 (rowC (Eint .i64) z1143) 3 (Eint .i64).sz, .rd (some ⟨g_cmp_4_c0, 0, none⟩) [.slice A_cmp_4_c0_v cmp_4_c0_v.length c_cmp_4_c0_v], .rd A_cmp_4_c0_v (rowC (Eint .i64) cmp_4_c0_v)] := (HS1121.back [0] HSo rfl).sel [3, 1, 2] rfl
                          have e1147 : l1109.length = z1143.length := hl1146.symm
                          refine F_know (i := 0) rfl (congrArg (fun n => Value.slice A_data_0 n c_data_0) e1147) ?_
                          refine F_nil ?_
                          refine L_nil (fun a ha => hNj1126 a _ ⟨_, (Option.some.inj H).symm, Is.nil ha, HS1145.sel [0, 1, 2] rfl⟩)
                        · have H := of_neg H c1138
                          refine L_skip ?_
                          refine L_nil (fun a ha => hNj1126 a _ ⟨_, (Option.some.inj H).symm, Is.nil ha, HS1121.sel [0, 1, 2] rfl⟩)
                      · obtain ⟨l1137, ej, ha, HS1149⟩ := hR
                        obtain rfl := ej.symm
                        refine wpLF_app ?_ ha
                        obtain ⟨g1150, H⟩ := of_gd H
                        refine L_nil (fun a ha => (post_end0 ha rfl ?_))
                        obtain rfl := Option.some.inj H
                        exact ⟨rfl, HS1149.sel [0] rfl, g1150⟩

/-! function 69: slices.stableCmpFunc[int] -/
theorem slices_stableCmpFunc_int_cbuild_Limited_1.calls {S0 : Nat → Prop} {w0 : World} {A_data_0 : Option Addr} {c_data_0 : Nat} {g_cmp_2_c0 : Nat} {A_cmp_2_c0_v : Option Addr} {c_cmp_2_c0_v : Nat} {l_data_0 : List Int} {n_1 : Int} {cmp_2_c0_v : List Int} {r : List Int} (HS0 : Hp S0 w0 w0 [.own A_data_0 c_data_0 (rowC (Eint .i64) l_data_0) 3 (Eint .i64).sz, .rd (some ⟨g_cmp_2_c0, 0, none⟩) [.slice A_cmp_2_c0_v cmp_2_c0_v.length c_cmp_2_c0_v], .rd A_cmp_2_c0_v (rowC (Eint .i64) cmp_2_c0_v)]) (hc_r_cmp_2_c0_v : cmp_2_c0_v.length ≤ c_cmp_2_c0_v) (h : slices_stableCmpFunc_int_cbuild_Limited_1.f l_data_0 n_1 cmp_2_c0_v = some r) :
    Calls Try.prog 69 ([.slice A_data_0 l_data_0.length c_data_0, .int .i64 n_1, .func (.func 48) #[] #[.pointer (some ⟨g_cmp_2_c0, 0, none⟩)]] : List Value).toArray w0 (fun e w => e = .returned (.tuple #[]) ∧ Hp S0 w0 w [.own A_data_0 c_data_0 (rowC (Eint .i64) r) 3 (Eint .i64).sz] ∧ r.length = l_data_0.length) := by
  have H : (((slices_stableCmpFunc_int_cbuild_Limited_1.l1 FU l_data_0 0 20 n_1 cmp_2_c0_v).bind fun (l51, a_52) => (slices_insertionSortCmpFunc_int_cbuild_Limited_1.f l51 a_52 n_1 cmp_2_c0_v).bind fun z108 => (slices_stableCmpFunc_int_cbuild_Limited_1.l13 FU z108 20 n_1 cmp_2_c0_v).bind fun l527 => gd (l527.length = l_data_0.length) (some l527)) : Option (List Int)) = some r := h
  refine calls_start Try.func69 rfl rfl ?_
  refine L_seq ?_
  refine L_region ?_
  refine F_val rfl rfl rfl (O_assign rfl rfl) ?_
  refine F_nil ?_
  refine L_seq ?_
  refine L_region ?_
  refine F_val rfl rfl rfl (O_move rfl rfl) ?_
  refine F_val rfl rfl rfl (O_assign rfl rfl) ?_
  refine F_val rfl rfl rfl (O_assign rfl rfl) ?_
  refine F_nil ?_
  refine L_seq ?_
  obtain ⟨yj1, Hyj1, H⟩ := of_bind H
  refine L_join (fun a w => ∃ (l51 : List Int), ∃ (a_52 : Int), yj1 = (l51, a_52) ∧ Is Try.f69.ntmps a [(0, .slice A_data_0 l51.length c_data_0), (1, .int .i64 n_1), (2, .func (.func 48) #[] #[.pointer (some ⟨g_cmp_2_c0, 0, none⟩)]), (6, .int .i64 20), (7, .int .i64 a_52)] ∧ Hp S0 w0 w [.own A_data_0 c_data_0 (rowC (Eint .i64) l51) 3 (Eint .i64).sz, .rd (some ⟨g_cmp_2_c0, 0, none⟩) [.slice A_cmp_2_c0_v cmp_2_c0_v.length c_cmp_2_c0_v], .rd A_cmp_2_c0_v (rowC (Eint .i64) cmp_2_c0_v)]) (fun Qj1 hNj1 hOj1 => ?_) (fun a w hR => ?_)
  · skip
    have H := Hyj1
    refine L_blk (fun Qb53 hNb53 hXb53 hOb53 => ?_)
    refine L_lp (fun k a w => ∃ (l84 : List Int), ∃ (a_85 : Int), ∃ (b_86 : Int), Is Try.f69.ntmps a [(0, .slice A_data_0 l84.length c_data_0), (1, .int .i64 n_1), (2, .func (.func 48) #[] #[.pointer (some ⟨g_cmp_2_c0, 0, none⟩)]), (6, .int .i64 20), (7, .int .i64 a_85), (8, .int .i64 b_86)] ∧ Hp S0 w0 w [.own A_data_0 c_data_0 (rowC (Eint .i64) l84) 3 (Eint .i64).sz, .rd (some ⟨g_cmp_2_c0, 0, none⟩) [.slice A_cmp_2_c0_v cmp_2_c0_v.length c_cmp_2_c0_v], .rd A_cmp_2_c0_v (rowC (Eint .i64) cmp_2_c0_v)] ∧ slices_stableCmpFunc_int_cbuild_Limited_1.l1 k l84 a_85 b_86 n_1 cmp_2_c0_v = some yj1) FU (fun a ha => ⟨_, _, _, Is.cons ha (Is.cons ha (Is.cons ha (Is.cons ha (Is.cons ha (Is.cons ha (Is.nil ha) rfl) rfl) rfl) rfl) rfl) rfl, HS0.sel [0, 1, 2] rfl, H⟩) (fun kp83 a w87 hI Qp83 hNp83 hOp83 => ?_)
    obtain ⟨l84, a_85, b_86, ha, HS88, HAp83⟩ := hI
    cases kp83 with
    | zero => cases (show (none : Option _) = some _ from HAp83)
    | succ kp83 =>
      have H := (slices_stableCmpFunc_int_cbuild_Limited_1.l1.eq_2 ..).symm.trans HAp83
      refine wpLF_app ?_ ha
      refine L_seq ?_
      refine L_seq ?_
      refine L_region ?_
      refine F_val rfl rfl rfl (O_move rfl rfl) ?_
      refine F_val rfl rfl rfl (O_move rfl rfl) ?_
      refine F_val rfl rfl rfl (O_le rfl rfl rfl) ?_
      refine F_nil ?_
      refine L_condP rfl (fun c89 => ?_) (fun c89 => ?_)
      · have H := of_pos H c89
        refine L_skip ?_
        refine L_blk (fun Q90 hN90 hX90 hO90 => ?_)
        refine L_seq ?_
        refine L_region ?_
        refine F_val rfl rfl rfl (O_move rfl rfl) ?_
        refine F_val rfl rfl rfl (O_move rfl rfl) ?_
        refine F_val rfl rfl rfl (O_move rfl rfl) ?_
        refine F_val rfl rfl rfl (O_move rfl rfl) ?_
        obtain ⟨z95, h94, H⟩ := of_bind H
        refine F_call (xs := [.tmp 14, .tmp 15, .tmp 16, .tmp 17]) rfl rfl rfl rfl Try.func81 nm81 rfl rfl ((slices_insertionSortCmpFunc_int_cbuild_Limited_1.calls (HS88.give [0] rfl (Lent.rd HS88 (Lent.rd HS88 (Lent.nil) (i := 2) rfl ((HS88.cells_rd (i := 2) rfl).self)) (i := 1) rfl (HS88.cells_rd (i := 1) rfl).self)) hc_r_cmp_2_c0_v h94).mono (fun e w hc => ?_))
        obtain ⟨rfl, HSo, hl98⟩ := hc
        refine ⟨.tuple #[], rfl, ?_⟩
        have HS97 : Hp S0 w0 w [.own A_data_0 c_data_0 (rowC (Eint .i64) z95) 3 (Eint .i64).sz, .rd (some ⟨g_cmp_2_c0, 0, none⟩) [.slice A_cmp_2_c0_v cmp_2_c0_v.length c_cmp_2_c0_v], .rd A_cmp_2_c0_v (rowC (Eint .i64) cmp_2_c0_v)] := (HS88.back [0] HSo rfl).sel [3, 1, 2] rfl
        have e99 : l84.length = z95.length := hl98.symm
        refine F_know (i := 0) rfl (congrArg (fun n => Value.slice A_data_0 n c_data_0) e99) ?_
        refine F_nil ?_
        refine L_seq ?_
        refine L_region ?_
        refine F_val rfl rfl rfl (O_move rfl rfl) ?_
        refine F_val rfl rfl rfl (O_assign rfl rfl) ?_
        refine F_nil ?_
        refine L_region ?_
        refine F_val rfl rfl rfl (O_move rfl rfl) ?_
        refine F_val rfl rfl rfl (O_move rfl rfl) ?_
        refine F_val rfl rfl rfl (O_add rfl rfl rfl) ?_
        obtain ⟨x100, h101, H⟩ := of_bnd H
        refine F_val rfl rfl rfl (O_assign' rfl rfl (congrArg (Value.int .i64) h101)) ?_
        refine F_nil ?_
        refine L_endB hN90 ?_
        refine L_nil (fun a ha => hNp83 _ a _ (Nat.lt_succ_self _) ⟨_, _, _, Is.cons ha (Is.cons ha (Is.cons ha (Is.cons ha (Is.cons ha (Is.cons ha (Is.nil ha) rfl) rfl) rfl) rfl) rfl) rfl, HS97.sel [0, 1, 2] rfl, H⟩)
      · have H := of_neg H c89
        refine L_exitB (fun a w h => hOp83 (.exit 0) a w rfl (hXb53 a w h)) ?_
        refine L_nil (fun a ha => hNj1 a _ ⟨_, _, (Option.some.inj H).symm, Is.cons ha (Is.cons ha (Is.cons ha (Is.cons ha (Is.cons ha (Is.nil ha) rfl) rfl) rfl) rfl) rfl, HS88.sel [0, 1, 2] rfl⟩)
  · obtain ⟨l51, a_52, rfl, ha, HS103⟩ := hR
    refine wpLF_app ?_ ha
    refine L_seq ?_
    refine L_region ?_
    refine F_val rfl rfl rfl (O_move rfl rfl) ?_
    refine F_val rfl rfl rfl (O_move rfl rfl) ?_
    refine F_val rfl rfl rfl (O_move rfl rfl) ?_
    refine F_val rfl rfl rfl (O_move rfl rfl) ?_
    obtain ⟨z108, h107, H⟩ := of_bind H
    refine F_call (xs := [.tmp 23, .tmp 24, .tmp 25, .tmp 26]) rfl rfl rfl rfl Try.func81 nm81 rfl rfl ((slices_insertionSortCmpFunc_int_cbuild_Limited_1.calls (HS103.give [0] rfl (Lent.rd HS103 (Lent.rd HS103 (Lent.nil) (i := 2) rfl ((HS103.cells_rd (i := 2) rfl).self)) (i := 1) rfl (HS103.cells_rd (i := 1) rfl).self)) hc_r_cmp_2_c0_v h107).mono (fun e w hc => ?_))
    obtain ⟨rfl, HSo, hl111⟩ := hc
    refine ⟨.tuple #[], rfl, ?_⟩
    have HS110 : Hp S0 w0 w [.own A_data_0 c_data_0 (rowC (Eint .i64) z108) 3 (Eint .i64).sz, .rd (some ⟨g_cmp_2_c0, 0, none⟩) [.slice A_cmp_2_c0_v cmp_2_c0_v.length c_cmp_2_c0_v], .rd A_cmp_2_c0_v (rowC (Eint .i64) cmp_2_c0_v)] := (HS103.back [0] HSo rfl).sel [3, 1, 2] rfl
    have e112 : l51.length = z108.length := hl111.symm
    refine F_know (i := 0) rfl (congrArg (fun n => Value.slice A_data_0 n c_data_0) e112) ?_
    refine F_nil ?_
    obtain ⟨yj113, Hyj113, H⟩ := of_bind H
    refine L_join (fun a w => ∃ (l527 : List Int), yj113 = l527 ∧ Is Try.f69.ntmps a [] ∧ Hp S0 w0 w [.own A_data_0 c_data_0 (rowC (Eint .i64) l527) 3 (Eint .i64).sz, .rd (some ⟨g_cmp_2_c0, 0, none⟩) [.slice A_cmp_2_c0_v cmp_2_c0_v.length c_cmp_2_c0_v], .rd A_cmp_2_c0_v (rowC (Eint .i64) cmp_2_c0_v)]) (fun Qj113 hNj113 hOj113 => ?_) (fun a w hR => ?_)
    · skip
      have H := Hyj113
      refine L_blk (fun Qb528 hNb528 hXb528 hOb528 => ?_)
      refine L_lp (fun k a w => ∃ (l802 : List Int), ∃ (blockSize_803 : Int), Is Try.f69.ntmps a [(0, .slice A_data_0 l802.length c_data_0), (1, .int .i64 n_1), (2, .func (.func 48) #[] #[.pointer (some ⟨g_cmp_2_c0, 0, none⟩)]), (6, .int .i64 blockSize_803)] ∧ Hp S0 w0 w [.own A_data_0 c_data_0 (rowC (Eint .i64) l802) 3 (Eint .i64).sz, .rd (some ⟨g_cmp_2_c0, 0, none⟩) [.slice A_cmp_2_c0_v cmp_2_c0_v.length c_cmp_2_c0_v], .rd A_cmp_2_c0_v (rowC (Eint .i64) cmp_2_c0_v)] ∧ slices_stableCmpFunc_int_cbuild_Limited_1.l13 k l802 blockSize_803 n_1 cmp_2_c0_v = some yj113) FU (fun a ha => ⟨_, _, Is.cons ha (Is.cons ha (Is.cons ha (Is.cons ha (Is.nil ha) rfl) rfl) rfl) rfl, HS110.sel [0, 1, 2] rfl, H⟩) (fun kp801 a w804 hI Qp801 hNp801 hOp801 => ?_)
      obtain ⟨l802, blockSize_803, ha, HS805, HAp801⟩ := hI
      cases kp801 with
      | zero => cases (show (none : Option _) = some _ from HAp801)
      | succ kp801 =>
        have H := (slices_stableCmpFunc_int_cbuild_Limited_1.l13.eq_2 ..).symm.trans HAp801
        refine wpLF_app ?_ ha
        refine L_seq ?_
        refine L_seq ?_
        refine L_region ?_
        refine F_val rfl rfl rfl (O_move rfl rfl) ?_
        refine F_val rfl rfl rfl (O_move rfl rfl) ?_
        refine F_val rfl rfl rfl (O_lt rfl rfl rfl) ?_
        refine F_nil ?_
        refine L_condP rfl (fun c806 => ?_) (fun c806 => ?_)
        · have H := of_pos H c806
          refine L_skip ?_
          refine L_blk (fun Q807 hN807 hX807 hO807 => ?_)
          refine L_seq ?_
          refine L_region ?_
          refine F_val rfl rfl rfl (O_move rfl rfl) ?_
          refine F_val rfl rfl rfl (O_mul rfl rfl rfl) ?_
          refine F_val rfl rfl rfl (O_assign rfl rfl) ?_
          obtain ⟨x808, h809, H⟩ := of_bnd H
          refine F_val rfl rfl rfl (O_assign' rfl rfl (congrArg (Value.int .i64) h809)) ?_
          refine F_nil ?_
          refine L_seq ?_
          obtain ⟨yj810, Hyj810, H⟩ := of_bind H
          refine L_join (fun a w => ∃ (l860 : List Int), ∃ (a_861 : Int), yj810 = (l860, a_861) ∧ Is Try.f69.ntmps a [(0, .slice A_data_0 l860.length c_data_0), (1, .int .i64 n_1), (2, .func (.func 48) #[] #[.pointer (some ⟨g_cmp_2_c0, 0, none⟩)]), (6, .int .i64 blockSize_803), (7, .int .i64 a_861)] ∧ Hp S0 w0 w [.own A_data_0 c_data_0 (rowC (Eint .i64) l860) 3 (Eint .i64).sz, .rd (some ⟨g_cmp_2_c0, 0, none⟩) [.slice A_cmp_2_c0_v cmp_2_c0_v.length c_cmp_2_c0_v], .rd A_cmp_2_c0_v (rowC (Eint .i64) cmp_2_c0_v)]) (fun Qj810 hNj810 hOj810 => ?_) (fun a w hR => ?_)
          · skip
            have H := Hyj810
            refine L_blk (fun Qb862 hNb862 hXb862 hOb862 => ?_)
            refine L_lp (fun k a w => ∃ (l893 : List Int), ∃ (a_894 : Int), ∃ (b_895 : Int), Is Try.f69.ntmps a [(0, .slice A_data_0 l893.length c_data_0), (1, .int .i64 n_1), (2, .func (.func 48) #[] #[.pointer (some ⟨g_cmp_2_c0, 0, none⟩)]), (6, .int .i64 blockSize_803), (7, .int .i64 a_894), (8, .int .i64 b_895)] ∧ Hp S0 w0 w [.own A_data_0 c_data_0 (rowC (Eint .i64) l893) 3 (Eint .i64).sz, .rd (some ⟨g_cmp_2_c0, 0, none⟩) [.slice A_cmp_2_c0_v cmp_2_c0_v.length c_cmp_2_c0_v], .rd A_cmp_2_c0_v (rowC (Eint .i64) cmp_2_c0_v)] ∧ slices_stableCmpFunc_int_cbuild_Limited_1.l15 k l893 a_894 b_895 n_1 cmp_2_c0_v blockSize_803 = some yj810) FU (fun a ha => ⟨_, _, _, Is.cons ha (Is.cons ha (Is.cons ha (Is.cons ha (Is.cons ha (Is.cons ha (Is.nil ha) rfl) rfl) rfl) rfl) rfl) rfl, HS805.sel [0, 1, 2] rfl, H⟩) (fun kp892 a w896 hI Qp892 hNp892 hOp892 => ?_)
            obtain ⟨l893, a_894, b_895, ha, HS897, HAp892⟩ := hI
            cases kp892 with
            | zero => cases (show (none : Option _) = some _ from HAp892)
            | succ kp892 =>
              have H := (slices_stableCmpFunc_int_cbuild_Limited_1.l15.eq_2 ..).symm.trans HAp892
              refine wpLF_app ?_ ha
              refine L_seq ?_
              refine L_seq ?_
              refine L_region ?_
              refine F_val rfl rfl rfl (O_move rfl rfl) ?_
              refine F_val rfl rfl rfl (O_move rfl rfl) ?_
              refine F_val rfl rfl rfl (O_le rfl rfl rfl) ?_
              refine F_nil ?_
              refine L_condP rfl (fun c898 => ?_) (fun c898 => ?_)
              · have H := of_pos H c898
                refine L_skip ?_
                refine L_blk (fun Q899 hN899 hX899 hO899 => ?_)
                refine L_seq ?_
                refine L_region ?_
                refine F_val rfl rfl rfl (O_move rfl rfl) ?_
                refine F_val rfl rfl rfl (O_move rfl rfl) ?_
                refine F_val rfl rfl rfl (O_move rfl rfl) ?_
                refine F_val rfl rfl rfl (O_move rfl rfl) ?_
                refine F_val rfl rfl rfl (O_add rfl rfl rfl) ?_
                refine F_val rfl rfl rfl (O_move rfl rfl) ?_
                refine F_val rfl rfl rfl (O_move rfl rfl) ?_
                obtain ⟨z904, h903, H⟩ := of_bind H
                refine F_call (xs := [.tmp 36, .tmp 37, .tmp 40, .tmp 41, .tmp 42]) rfl rfl rfl rfl Try.func82 nm82 rfl rfl ((slices_symMergeCmpFunc_int_cbuild_Limited_1.calls FU (HS897.give [0] rfl (Lent.rd HS897 (Lent.rd HS897 (Lent.nil) (i := 2) rfl ((HS897.cells_rd (i := 2) rfl).self)) (i := 1) rfl (HS897.cells_rd (i := 1) rfl).self)) hc_r_cmp_2_c0_v h903).mono (fun e w hc => ?_))
                obtain ⟨rfl, HSo, hl907⟩ := hc
                refine ⟨.tuple #[], rfl, ?_⟩
                have HS906 : Hp S0 w0 w [.own A_data_0 c_data_0 (rowC (Eint .i64) z904) 3 (Eint .i64).sz, .rd (some ⟨g_cmp_2_c0, 0, none⟩) [.slice A_cmp_2_c0_v cmp_2_c0_v.length c_cmp_2_c0_v], .rd A_cmp_2_c0_v (rowC (Eint .i64) cmp_2_c0_v)] := (HS897.back [0] HSo rfl).sel [3, 1, 2] rfl
                have e908 : l893.length = z904.length := hl907.symm
                refine F_know (i := 0) rfl (congrArg (fun n => Value.slice A_data_0 n c_data_0) e908) ?_
                refine F_nil ?_
                refine L_seq ?_
                refine L_region ?_
                refine F_val rfl rfl rfl (O_move rfl rfl) ?_
                refine F_val rfl rfl rfl (O_assign rfl rfl) ?_
                refine F_nil ?_
                refine L_region ?_
                refine F_val rfl rfl rfl (O_move rfl rfl) ?_
                refine F_val rfl rfl rfl (O_move rfl rfl) ?_
                refine F_val rfl rfl rfl (O_mul rfl rfl rfl) ?_
                refine F_val rfl rfl rfl (O_add rfl rfl rfl) ?_
                obtain ⟨x909, h910, H⟩ := of_bnd H
                refine F_val rfl rfl rfl (O_assign' rfl rfl (congrArg (Value.int .i64) h910)) ?_
                refine F_nil ?_
                refine L_endB hN899 ?_
                refine L_nil (fun a ha => hNp892 _ a _ (Nat.lt_succ_self _) ⟨_, _, _, Is.cons ha (Is.cons ha (Is.cons ha (Is.cons ha (Is.cons ha (Is.cons ha (Is.nil ha) rfl) rfl) rfl) rfl) rfl) rfl, HS906.sel [0, 1, 2] rfl, H⟩)
              · have H := of_neg H c898
                refine L_exitB (fun a w h => hOp892 (.exit 4) a w rfl (hXb862 a w h)) ?_
                refine L_nil (fun a ha => hNj810 a _ ⟨_, _, (Option.some.inj H).symm, Is.cons ha (Is.cons ha (Is.cons ha (Is.cons ha (Is.cons ha (Is.nil ha) rfl) rfl) rfl) rfl) rfl, HS897.sel [0, 1, 2] rfl⟩)
          · obtain ⟨l860, a_861, rfl, ha, HS912⟩ := hR
            refine wpLF_app ?_ ha
            refine L_seq ?_
            refine L_seq ?_
            refine L_region ?_
            refine F_val rfl rfl rfl (O_move rfl rfl) ?_
            refine F_val rfl rfl rfl (O_move rfl rfl) ?_
            refine F_val rfl rfl rfl (O_add rfl rfl rfl) ?_
            obtain ⟨x913, h914, H⟩ := of_bnd H
            refine F_val rfl rfl rfl (O_assign' rfl rfl (congrArg (Value.int .i64) h914)) ?_
            refine F_nil ?_
            refine L_seq ?_
            refine L_region ?_
            refine F_val rfl rfl rfl (O_move rfl rfl) ?_
            refine F_val rfl rfl rfl (O_move rfl rfl) ?_
            refine F_val rfl rfl rfl (O_lt rfl rfl rfl) ?_
            refine F_nil ?_
            obtain ⟨yj915, Hyj915, H⟩ := of_bind H
            refine L_join (fun a w => ∃ (l926 : List Int), yj915 = l926 ∧ Is Try.f69.ntmps a [(0, .slice A_data_0 l926.length c_data_0), (1, .int .i64 n_1), (2, .func (.func 48) #[] #[.pointer (some ⟨g_cmp_2_c0, 0, none⟩)]), (6, .int .i64 blockSize_803)] ∧ Hp S0 w0 w [.own A_data_0 c_data_0 (rowC (Eint .i64) l926) 3 (Eint .i64).sz, .rd (some ⟨g_cmp_2_c0, 0, none⟩) [.slice A_cmp_2_c0_v cmp_2_c0_v.length c_cmp_2_c0_v], .rd A_cmp_2_c0_v (rowC (Eint .i64) cmp_2_c0_v)]) (fun Qj915 hNj915 hOj915 => ?_) (fun a w hR => ?_)
            · skip
              have H := Hyj915
              refine L_condP rfl (fun c927 => ?_) (fun c927 => ?_)
              · have H := of_pos H c927
                refine L_region ?_
                refine F_val rfl rfl rfl (O_move rfl rfl) ?_
                refine F_val rfl rfl rfl (O_move rfl rfl) ?_
                refine F_val rfl rfl rfl (O_move rfl rfl) ?_
                refine F_val rfl rfl rfl (O_move rfl rfl) ?_
                refine F_val rfl rfl rfl (O_move rfl rfl) ?_
                obtain ⟨z932, h931, H⟩ := of_bind H
                refine F_call (xs := [.tmp 55, .tmp 56, .tmp 57, .tmp 58, .tmp 59]) rfl rfl rfl rfl Try.func82 nm82 rfl rfl ((slices_symMergeCmpFunc_int_cbuild_Limited_1.calls FU (HS912.give [0] rfl (Lent.rd HS912 (Lent.rd HS912 (Lent.nil) (i := 2) rfl ((HS912.cells_rd (i := 2) rfl).self)) (i := 1) rfl (HS912.cells_rd (i := 1) rfl).self)) hc_r_cmp_2_c0_v h931).mono (fun e w hc => ?_))
                obtain ⟨rfl, HSo, hl935⟩ := hc
                refine ⟨.tuple #[], rfl, ?_⟩
                have HS934 : Hp S0 w0 w [.own A_data_0 c_data_0 (rowC (Eint .i64) z932) 3 (Eint .i64).sz, .rd (some ⟨g_cmp_2_c0, 0, none⟩) [.slice A_cmp_2_c0_v cmp_2_c0_v.length c_cmp_2_c0_v], .rd A_cmp_2_c0_v (rowC (Eint .i64) cmp_2_c0_v)] := (HS912.back [0] HSo rfl).sel [3, 1, 2] rfl
                have e936 : l860.length = z932.length := hl935.symm
                refine F_know (i := 0) rfl (congrArg (fun n => Value.slice A_data_0 n c_data_0) e936) ?_
                refine F_nil ?_
                refine L_nil (fun a ha => hNj915 a _ ⟨_, (Option.some.inj H).symm, Is.cons ha (Is.cons ha (Is.cons ha (Is.cons ha (Is.nil ha) rfl) rfl) rfl) rfl, HS934.sel [0, 1, 2] rfl⟩)
              · have H := of_neg H c927
                refine L_skip ?_
                refine L_nil (fun a ha => hNj915 a _ ⟨_, (Option.some.inj H).symm, Is.cons ha (Is.cons ha (Is.cons ha (Is.cons ha (Is.nil ha) rfl) rfl) rfl) rfl, HS912.sel [0, 1, 2] rfl⟩)
            · obtain ⟨l926, ej, ha, HS938⟩ := hR
              obtain rfl := ej.symm
              refine wpLF_app ?_ ha
              refine L_region ?_
              refine F_val rfl rfl rfl (O_move rfl rfl) ?_
              refine F_val rfl rfl rfl (O_mul rfl rfl rfl) ?_
              obtain ⟨x939, h940, H⟩ := of_bnd H
              refine F_val rfl rfl rfl (O_assign' rfl rfl (congrArg (Value.int .i64) h940)) ?_
              refine F_nil ?_
              refine L_endB hN807 ?_
              refine L_nil (fun a ha => hNp801 _ a _ (Nat.lt_succ_self _) ⟨_, _, Is.cons ha (Is.cons ha (Is.cons ha (Is.cons ha (Is.nil ha) rfl) rfl) rfl) rfl, HS938.sel [0, 1, 2] rfl, H⟩)
        · have H := of_neg H c806
          refine L_exitB (fun a w h => hOp801 (.exit 2) a w rfl (hXb528 a w h)) ?_
          refine L_nil (fun a ha => hNj113 a _ ⟨_, (Option.some.inj H).symm, Is.nil ha, HS805.sel [0, 1, 2] rfl⟩)
    · obtain ⟨l527, ej, ha, HS942⟩ := hR
      obtain rfl := ej.symm
      refine wpLF_app ?_ ha
      obtain ⟨g943, H⟩ := of_gd H
      refine L_nil (fun a ha => (post_end0 ha rfl ?_))
      obtain rfl := Option.some.inj H
      exact ⟨rfl, HS942.sel [0] rfl, g943⟩

/-! function 47: slices.SortStableFunc[[]int,int] -/
theorem slices_SortStableFunc_int_int_cbuild_Limited_1.calls {S0 : Nat → Prop} {w0 : World} {A_x_0 : Option Addr} {c_x_0 : Nat} {g_cmp_1_c0 : Nat} {A_cmp_1_c0_v : Option Addr} {c_cmp_1_c0_v : Nat} {l_x_0 : List Int} {cmp_1_c0_v : List Int} {r : List Int} (HS0 : Hp S0 w0 w0 [.own A_x_0 c_x_0 (rowC (Eint .i64) l_x_0) 3 (Eint .i64).sz, .rd (some ⟨g_cmp_1_c0, 0, none⟩) [.slice A_cmp_1_c0_v cmp_1_c0_v.length c_cmp_1_c0_v], .rd A_cmp_1_c0_v (rowC (Eint .i64) cmp_1_c0_v)]) (hc_r_cmp_1_c0_v : cmp_1_c0_v.length ≤ c_cmp_1_c0_v) (h : slices_SortStableFunc_int_int_cbuild_Limited_1.f l_x_0 cmp_1_c0_v = some r) :
    Calls Try.prog 47 ([.slice A_x_0 l_x_0.length c_x_0, .func (.func 48) #[] #[.pointer (some ⟨g_cmp_1_c0, 0, none⟩)]] : List Value).toArray w0 (fun e w => e = .returned (.tuple #[]) ∧ Hp S0 w0 w [.own A_x_0 c_x_0 (rowC (Eint .i64) r) 3 (Eint .i64).sz] ∧ r.length = l_x_0.length) := by
  have H : (((slices_stableCmpFunc_int_cbuild_Limited_1.f l_x_0 (l_x_0.length : Int) cmp_1_c0_v).bind fun z5 => gd (z5.length = l_x_0.length) (some z5)) : Option (List Int)) = some r := h
  refine calls_start Try.func47 rfl rfl ?_
  refine L_region ?_
  refine F_val rfl rfl rfl (O_move rfl rfl) ?_
  refine F_val rfl rfl rfl (O_move rfl rfl) ?_
  refine F_val rfl rfl rfl (O_len rfl rfl Try.underlying22) ?_
  refine F_val rfl rfl rfl (O_move rfl rfl) ?_
  obtain ⟨z5, h4, H⟩ := of_bind H
  refine F_call (xs := [.tmp 4, .tmp 6, .tmp 7]) rfl rfl rfl rfl Try.func69 nm69 rfl rfl ((slices_stableCmpFunc_int_cbuild_Limited_1.calls (HS0.give [0] rfl (Lent.rd HS0 (Lent.rd HS0 (Lent.nil) (i := 2) rfl ((HS0.cells_rd (i := 2) rfl).self)) (i := 1) rfl (HS0.cells_rd (i := 1) rfl).self)) hc_r_cmp_1_c0_v h4).mono (fun e w hc => ?_))
  obtain ⟨rfl, HSo, hl8⟩ := hc
  refine ⟨.tuple #[], rfl, ?_⟩
  have HS7 : Hp S0 w0 w [.own A_x_0 c_x_0 (rowC (Eint .i64) z5) 3 (Eint .i64).sz, .rd (some ⟨g_cmp_1_c0, 0, none⟩) [.slice A_cmp_1_c0_v cmp_1_c0_v.length c_cmp_1_c0_v], .rd A_cmp_1_c0_v (rowC (Eint .i64) cmp_1_c0_v)] := (HS0.back [0] HSo rfl).sel [3, 1, 2] rfl
  have e9 : l_x_0.length = z5.length := hl8.symm
  refine F_know (i := 0) rfl (congrArg (fun n => Value.slice A_x_0 n c_x_0) e9) ?_
  refine F_nil ?_
  obtain ⟨g10, H⟩ := of_gd H
  refine L_nil (fun a ha => (post_end0 ha rfl ?_))
  obtain rfl := Option.some.inj H
  exact ⟨rfl, HS7.sel [0] rfl, g10⟩

/-! function 51: valise/build.packages -/
theorem build_packages.calls {S0 : Nat → Prop} {w0 : World} {A_row_0 : Option Addr} {c_row_0 : Nat} {ds_row_0 : List DC} {B_row_0 : Nat → Prop} {l_row_0 : List Co} {r : List Co} (HS0 : Hp S0 w0 w0 [.rd A_row_0 (rowC E_coin ds_row_0), Dz D_coin anyB 0 B_row_0 ds_row_0 l_row_0]) (hc_row_0 : l_row_0.length ≤ c_row_0) (h : build_packages.f l_row_0 = some r) :
    Calls Try.prog 51 ([.slice A_row_0 l_row_0.length c_row_0] : List Value).toArray w0 (fun e w => ∃ (A1 : Option Addr), ∃ (c1 : Nat), ∃ (ds1 : List DC), ∃ (B1 : Nat → Prop), e = .returned (.slice A1 r.length c1) ∧ Hp S0 w0 w [.own A1 c1 (rowC E_coin ds1) 69 E_coin.sz, Dz D_coin (orB S0 B_row_0) w0.heap.size B1 ds1 r]) := by
  have H : (((build_packages.l1 FU ([] : List Co) 0 l_row_0).bind fun l254 => some l254) : Option (List Co)) = some r := h
  refine calls_start Try.func51 rfl rfl ?_
  have hSF : ∀ b, S0 b → (orB S0 B_row_0) b ∨ w0.heap.size ≤ b := (fun b hb => .inl (.inl hb))
  have HS1 : Hp S0 w0 w0 [.rd A_row_0 (rowC E_coin ds_row_0), Dz D_coin (orB S0 B_row_0) w0.heap.size B_row_0 ds_row_0 l_row_0] := HS0.dzProv (i := 1) rfl (fun b _ hb => .inl (.inr hb))
  refine L_seq ?_
  refine L_region ?_
  refine F_val rfl rfl rfl (O_assign rfl rfl) ?_
  refine F_nil ?_
  refine L_seq ?_
  refine L_region ?_
  refine F_val rfl rfl rfl (O_assign rfl rfl) ?_
  have HS2 := (HS1.addNil 69 E_coin.sz).dzNil D_coin (orB S0 B_row_0) w0.heap.size
  have HS2 : Hp S0 w0 w0 [.rd A_row_0 (rowC E_coin ds_row_0), Dz D_coin (orB S0 B_row_0) w0.heap.size B_row_0 ds_row_0 l_row_0, .own none 0 (rowC E_coin ([] : List DC)) 69 E_coin.sz, Dz D_coin (orB S0 B_row_0) w0.heap.size NoB ([] : List DC) ([] : List Co)] := HS2
  refine F_nil ?_
  refine L_seq ?_
  refine L_seq ?_
  refine L_region ?_
  refine F_val rfl rfl rfl (O_assign rfl rfl) ?_
  refine F_nil ?_
  obtain ⟨yj5, Hyj5, H⟩ := of_bind H
  refine L_join (fun a w => ∃ (l254 : List Co), ∃ (A250 : Option Addr), ∃ (c251 : Nat), ∃ (ds252 : List DC), ∃ (B253 : Nat → Prop), yj5 = l254 ∧ Is Try.f51.ntmps a [(3, .slice A250 l254.length c251)] ∧ Hp S0 w0 w [.rd A_row_0 (rowC E_coin ds_row_0), Dz D_coin (orB S0 B_row_0) w0.heap.size B_row_0 ds_row_0 l_row_0, .own A250 c251 (rowC E_coin ds252) 69 E_coin.sz, Dz D_coin (orB S0 B_row_0) w0.heap.size B253 ds252 l254]) (fun Qj5 hNj5 hOj5 => ?_) (fun a w hR => ?_)
  · skip
    have H := Hyj5
    refine L_blk (fun Qb255 hNb255 hXb255 hOb255 => ?_)
    refine L_lp (fun k a w => ∃ (l419 : List Co), ∃ (i_420 : Int), ∃ (A415 : Option Addr), ∃ (c416 : Nat), ∃ (ds417 : List DC), ∃ (B418 : Nat → Prop), Is Try.f51.ntmps a [(0, .slice A_row_0 l_row_0.length c_row_0), (3, .slice A415 l419.length c416), (4, .int .i64 i_420)] ∧ Hp S0 w0 w [.rd A_row_0 (rowC E_coin ds_row_0), Dz D_coin (orB S0 B_row_0) w0.heap.size B_row_0 ds_row_0 l_row_0, .own A415 c416 (rowC E_coin ds417) 69 E_coin.sz, Dz D_coin (orB S0 B_row_0) w0.heap.size B418 ds417 l419] ∧ build_packages.l1 k l419 i_420 l_row_0 = some yj5) FU (fun a ha => ⟨_, _, _, _, _, _, Is.cons ha (Is.cons ha (Is.cons ha (Is.nil ha) rfl) rfl) rfl, HS2.sel [0, 1, 2, 3] rfl, H⟩) (fun kp414 a w421 hI Qp414 hNp414 hOp414 => ?_)
    obtain ⟨l419, i_420, A415, c416, ds417, B418, ha, HS422, HAp414⟩ := hI
    cases kp414 with
    | zero => cases (show (none : Option _) = some _ from HAp414)
    | succ kp414 =>
      have H := (build_packages.l1.eq_2 ..).symm.trans HAp414
      refine wpLF_app ?_ ha
      refine L_seq ?_
      refine L_seq ?_
      refine L_region ?_
      refine F_val rfl rfl rfl (O_move rfl rfl) ?_
      refine F_val rfl rfl rfl (O_add rfl rfl rfl) ?_
      refine F_val rfl rfl rfl (O_move rfl rfl) ?_
      refine F_val rfl rfl rfl (O_len rfl rfl Try.underlying66) ?_
      refine F_val rfl rfl rfl (O_lt rfl rfl rfl) ?_
      refine F_nil ?_
      refine L_condP rfl (fun c423 => ?_) (fun c423 => ?_)
      · have H := of_pos H c423
        refine L_skip ?_
        refine L_seq ?_
        refine L_blk (fun Q424 hN424 hX424 hO424 => ?_)
        obtain ⟨⟨g425, g426⟩, H⟩ := of_gd H
        have HS428 : Hp S0 w0 w421 [.rd A_row_0 (rowC E_coin ds_row_0), Dz D_coin (orB S0 B_row_0) w0.heap.size B_row_0 ds_row_0 l_row_0, .own A415 c416 (rowC E_coin ds417) 69 E_coin.sz, Dz D_coin (orB S0 B_row_0) w0.heap.size B418 ds417 l419, Dz D_coin (orB S0 B_row_0) w0.heap.size B_row_0 [(rdx E_coin ds_row_0 i_420)] [(rdp (Co.leaf 0 0) l_row_0 i_420)]] := HS422.dzOne (i := 1) rfl dz_self (HS422.dze (i := 1) rfl) g425 g426
        obtain ⟨⟨g429, g430⟩, H⟩ := of_gd H
        have HS432 : Hp S0 w0 w421 [.rd A_row_0 (rowC E_coin ds_row_0), Dz D_coin (orB S0 B_row_0) w0.heap.size B_row_0 ds_row_0 l_row_0, .own A415 c416 (rowC E_coin ds417) 69 E_coin.sz, Dz D_coin (orB S0 B_row_0) w0.heap.size B418 ds417 l419, Dz D_coin (orB S0 B_row_0) w0.heap.size B_row_0 [(rdx E_coin ds_row_0 i_420)] [(rdp (Co.leaf 0 0) l_row_0 i_420)], Dz D_coin (orB S0 B_row_0) w0.heap.size B_row_0 [(rdx E_coin ds_row_0 (IntKind.i64.wrap (i_420 + 1)))] [(rdp (Co.leaf 0 0) l_row_0 (IntKind.i64.wrap (i_420 + 1)))]] := HS428.dzOne (i := 1) rfl dz_self (HS428.dze (i := 1) rfl) g429 g430
        refine L_heldS 28 0 [] mix rfl (fun w460 hw461 => ?_)
        have HS462 := HS432.keep hw461
        refine ⟨HS462.turns [2], ?_⟩
        have HR463 : Hp (HS462.ft [2]) w460 w460 [.own A415 c416 (rowC E_coin ds417) 69 E_coin.sz, .rd A_row_0 (rowC E_coin ds_row_0), Dz D_coin anyB 0 B_row_0 ds_row_0 l_row_0, Dz D_coin anyB 0 B418 ds417 l419, Dz D_coin anyB 0 B_row_0 [(rdx E_coin ds_row_0 i_420)] [(rdp (Co.leaf 0 0) l_row_0 i_420)], Dz D_coin anyB 0 B_row_0 [(rdx E_coin ds_row_0 (IntKind.i64.wrap (i_420 + 1)))] [(rdp (Co.leaf 0 0) l_row_0 (IntKind.i64.wrap (i_420 + 1)))]] := HS462.give [2] rfl (Lent.rd HS462 (Lent.dz HS462 (Lent.dz HS462 (Lent.dz HS462 (Lent.dz HS462 (Lent.nil) (i := 5) rfl dz_self (HS462.dze (i := 5) rfl)) (i := 4) rfl dz_self (HS462.dze (i := 4) rfl)) (i := 3) rfl dz_self (HS462.dze (i := 3) rfl)) (i := 1) rfl dz_self (HS462.dze (i := 1) rfl)) (i := 0) rfl (HS462.cells_rd (i := 0) rfl).self)
        have hSF464 : ∀ b, HS462.ft [2] b → (orB (orB (orB (orB (HS462.ft [2]) B_row_0) B418) B_row_0) B_row_0) b ∨ w460.heap.size ≤ b := fun b hb => .inl (.inl (.inl (.inl (.inl hb))))
        have HS465 : Hp (HS462.ft [2]) w460 w460 [.own A415 c416 (rowC E_coin ds417) 69 E_coin.sz, .rd A_row_0 (rowC E_coin ds_row_0), Dz D_coin (orB (orB (orB (orB (HS462.ft [2]) B_row_0) B418) B_row_0) B_row_0) w460.heap.size B_row_0 ds_row_0 l_row_0, Dz D_coin anyB 0 B418 ds417 l419, Dz D_coin anyB 0 B_row_0 [(rdx E_coin ds_row_0 i_420)] [(rdp (Co.leaf 0 0) l_row_0 i_420)], Dz D_coin anyB 0 B_row_0 [(rdx E_coin ds_row_0 (IntKind.i64.wrap (i_420 + 1)))] [(rdp (Co.leaf 0 0) l_row_0 (IntKind.i64.wrap (i_420 + 1)))]] := HR463.dzProv (i := 2) rfl (fun b _ hb => .inl (.inl (.inl (.inl (.inr hb)))))
        have HS466 : Hp (HS462.ft [2]) w460 w460 [.own A415 c416 (rowC E_coin ds417) 69 E_coin.sz, .rd A_row_0 (rowC E_coin ds_row_0), Dz D_coin (orB (orB (orB (orB (HS462.ft [2]) B_row_0) B418) B_row_0) B_row_0) w460.heap.size B_row_0 ds_row_0 l_row_0, Dz D_coin (orB (orB (orB (orB (HS462.ft [2]) B_row_0) B418) B_row_0) B_row_0) w460.heap.size B418 ds417 l419, Dz D_coin anyB 0 B_row_0 [(rdx E_coin ds_row_0 i_420)] [(rdp (Co.leaf 0 0) l_row_0 i_420)], Dz D_coin anyB 0 B_row_0 [(rdx E_coin ds_row_0 (IntKind.i64.wrap (i_420 + 1)))] [(rdp (Co.leaf 0 0) l_row_0 (IntKind.i64.wrap (i_420 + 1)))]] := HS465.dzProv (i := 3) rfl (fun b _ hb => .inl (.inl (.inl (.inr hb))))
        have HS467 : Hp (HS462.ft [2]) w460 w460 [.own A415 c416 (rowC E_coin ds417) 69 E_coin.sz, .rd A_row_0 (rowC E_coin ds_row_0), Dz D_coin (orB (orB (orB (orB (HS462.ft [2]) B_row_0) B418) B_row_0) B_row_0) w460.heap.size B_row_0 ds_row_0 l_row_0, Dz D_coin (orB (orB (orB (orB (HS462.ft [2]) B_row_0) B418) B_row_0) B_row_0) w460.heap.size B418 ds417 l419, Dz D_coin (orB (orB (orB (orB (HS462.ft [2]) B_row_0) B418) B_row_0) B_row_0) w460.heap.size B_row_0 [(rdx E_coin ds_row_0 i_420)] [(rdp (Co.leaf 0 0) l_row_0 i_420)], Dz D_coin anyB 0 B_row_0 [(rdx E_coin ds_row_0 (IntKind.i64.wrap (i_420 + 1)))] [(rdp (Co.leaf 0 0) l_row_0 (IntKind.i64.wrap (i_420 + 1)))]] := HS466.dzProv (i := 4) rfl (fun b _ hb => .inl (.inl (.inr hb)))
        have HS468 : Hp (HS462.ft [2]) w460 w460 [.own A415 c416 (rowC E_coin ds417) 69 E_coin.sz, .rd A_row_0 (rowC E_coin ds_row_0), Dz D_coin (orB (orB (orB (orB (HS462.ft [2]) B_row_0) B418) B_row_0) B_row_0) w460.heap.size B_row_0 ds_row_0 l_row_0, Dz D_coin (orB (orB (orB (orB (HS462.ft [2]) B_row_0) B418) B_row_0) B_row_0) w460.heap.size B418 ds417 l419, Dz D_coin (orB (orB (orB (orB (HS462.ft [2]) B_row_0) B418) B_row_0) B_row_0) w460.heap.size B_row_0 [(rdx E_coin ds_row_0 i_420)] [(rdp (Co.leaf 0 0) l_row_0 i_420)], Dz D_coin (orB (orB (orB (orB (HS462.ft [2]) B_row_0) B418) B_row_0) B_row_0) w460.heap.size B_row_0 [(rdx E_coin ds_row_0 (IntKind.i64.wrap (i_420 + 1)))] [(rdp (Co.leaf 0 0) l_row_0 (IntKind.i64.wrap (i_420 + 1)))]] := HS467.dzProv (i := 5) rfl (fun b _ hb => .inl (.inr hb))
        refine H_val (i := 0) rfl (by kernel_rfl) (by kernel_rfl) (by kernel_rfl) (by kernel_rfl) rfl rfl rfl HS468.chg (fun wq hq => O_move rfl rfl) ?_
        refine H_val (i := 1) rfl (by kernel_rfl) (by kernel_rfl) (by kernel_rfl) (by kernel_rfl) rfl rfl rfl HS468.chg (fun wq hq => O_move rfl rfl) ?_
        refine H_val (i := 2) rfl (by kernel_rfl) (by kernel_rfl) (by kernel_rfl) (by kernel_rfl) rfl rfl rfl HS468.chg (fun wq hq => O_move rfl rfl) ?_
        refine H_val (i := 3) rfl (by kernel_rfl) (by kernel_rfl) (by kernel_rfl) (by kernel_rfl) rfl rfl rfl HS468.chg (fun wq hq => O_idx rfl rfl rfl Try.underlying66 size69 g425 g426 (Cells.isA ((HS462.keepT [2] hq).cells_rd (i := 0) rfl) (dz_ne (D := D_coin) ((HS462.keepT [2] hq).dze (i := 1) rfl) g425 g426 (by decide)))) ?_
        refine H_val (i := 4) rfl (by kernel_rfl) (by kernel_rfl) (by kernel_rfl) (by kernel_rfl) rfl rfl rfl HS468.chg (fun wq hq => O_fieldC rfl rfl (Cells.isA ((HS462.keepT [2] hq).cells_rd (i := 0) rfl) (dz_ne (D := D_coin) ((HS462.keepT [2] hq).dze (i := 1) rfl) g425 g426 (by decide))) field69_0) ?_
        refine H_val (i := 5) rfl (by kernel_rfl) (by kernel_rfl) (by kernel_rfl) (by kernel_rfl) rfl rfl rfl HS468.chg (fun wq hq => O_loadC rfl rfl flat3 ((HS462.keepT [2] hq).cells_rd (i := 0) rfl) (dz_cell (D := D_coin) (f := fun x => .int .i64 x.w) 0 co_w ((HS462.keepT [2] hq).dze (i := 1) rfl) g425 g426)) ?_
        refine H_val (i := 6) rfl (by kernel_rfl) (by kernel_rfl) (by kernel_rfl) (by kernel_rfl) rfl rfl rfl HS468.chg (fun wq hq => O_move rfl rfl) ?_
        refine H_val (i := 7) rfl (by kernel_rfl) (by kernel_rfl) (by kernel_rfl) (by kernel_rfl) rfl rfl rfl HS468.chg (fun wq hq => O_move rfl rfl) ?_
        refine H_val (i := 8) rfl (by kernel_rfl) (by kernel_rfl) (by kernel_rfl) (by kernel_rfl) rfl rfl rfl HS468.chg (fun wq hq => O_add rfl rfl rfl) ?_
        refine H_val (i := 9) rfl (by kernel_rfl) (by kernel_rfl) (by kernel_rfl) (by kernel_rfl) rfl rfl rfl HS468.chg (fun wq hq => O_idx rfl rfl rfl Try.underlying66 size69 g429 g430 (Cells.isA ((HS462.keepT [2] hq).cells_rd (i := 0) rfl) (dz_ne (D := D_coin) ((HS462.keepT [2] hq).dze (i := 1) rfl) g429 g430 (by decide)))) ?_
        refine H_val (i := 10) rfl (by kernel_rfl) (by kernel_rfl) (by kernel_rfl) (by kernel_rfl) rfl rfl rfl HS468.chg (fun wq hq => O_fieldC rfl rfl (Cells.isA ((HS462.keepT [2] hq).cells_rd (i := 0) rfl) (dz_ne (D := D_coin) ((HS462.keepT [2] hq).dze (i := 1) rfl) g429 g430 (by decide))) field69_0) ?_
        refine H_val (i := 11) rfl (by kernel_rfl) (by kernel_rfl) (by kernel_rfl) (by kernel_rfl) rfl rfl rfl HS468.chg (fun wq hq => O_loadC rfl rfl flat3 ((HS462.keepT [2] hq).cells_rd (i := 0) rfl) (dz_cell (D := D_coin) (f := fun x => .int .i64 x.w) 0 co_w ((HS462.keepT [2] hq).dze (i := 1) rfl) g429 g430)) ?_
        refine H_val (i := 12) rfl (by kernel_rfl) (by kernel_rfl) (by kernel_rfl) (by kernel_rfl) rfl rfl rfl HS468.chg (fun wq hq => O_add rfl rfl rfl) ?_
        refine H_val (i := 13) rfl (by kernel_rfl) (by kernel_rfl) (by kernel_rfl) (by kernel_rfl) rfl rfl rfl HS468.chg (fun wq hq => O_move rfl rfl) ?_
        refine H_val (i := 14) rfl (by kernel_rfl) (by kernel_rfl) (by kernel_rfl) (by kernel_rfl) rfl rfl rfl HS468.chg (fun wq hq => O_move rfl rfl) ?_
        refine H_val (i := 15) rfl (by kernel_rfl) (by kernel_rfl) (by kernel_rfl) (by kernel_rfl) rfl rfl rfl HS468.chg (fun wq hq => O_idx rfl rfl rfl Try.underlying66 size69 g425 g426 (Cells.isA ((HS462.keepT [2] hq).cells_rd (i := 0) rfl) (dz_ne (D := D_coin) ((HS462.keepT [2] hq).dze (i := 1) rfl) g425 g426 (by decide)))) ?_
        refine H_val (i := 16) rfl (by kernel_rfl) (by kernel_rfl) (by kernel_rfl) (by kernel_rfl) rfl rfl rfl HS468.chg (fun wq hq => O_loadElD (D := D_coin) rfl rfl wide69 ((HS462.keepT [2] hq).cells_rd (i := 0) rfl) ((HS462.keepT [2] hq).dze (i := 1) rfl) g425 g426 (by decide)) ?_
        refine H_val (i := 17) rfl (by kernel_rfl) (by kernel_rfl) (by kernel_rfl) (by kernel_rfl) rfl rfl rfl HS468.chg (fun wq hq => O_move rfl rfl) ?_
        refine H_val (i := 18) rfl (by kernel_rfl) (by kernel_rfl) (by kernel_rfl) (by kernel_rfl) rfl rfl rfl HS468.chg (fun wq hq => O_move rfl rfl) ?_
        refine H_val (i := 19) rfl (by kernel_rfl) (by kernel_rfl) (by kernel_rfl) (by kernel_rfl) rfl rfl rfl HS468.chg (fun wq hq => O_add rfl rfl rfl) ?_
        refine H_val (i := 20) rfl (by kernel_rfl) (by kernel_rfl) (by kernel_rfl) (by kernel_rfl) rfl rfl rfl HS468.chg (fun wq hq => O_idx rfl rfl rfl Try.underlying66 size69 g429 g430 (Cells.isA ((HS462.keepT [2] hq).cells_rd (i := 0) rfl) (dz_ne (D := D_coin) ((HS462.keepT [2] hq).dze (i := 1) rfl) g429 g430 (by decide)))) ?_
        refine H_val (i := 21) rfl (by kernel_rfl) (by kernel_rfl) (by kernel_rfl) (by kernel_rfl) rfl rfl rfl HS468.chg (fun wq hq => O_loadElD (D := D_coin) rfl rfl wide69 ((HS462.keepT [2] hq).cells_rd (i := 0) rfl) ((HS462.keepT [2] hq).dze (i := 1) rfl) g429 g430 (by decide)) ?_
        refine H_val (i := 22) rfl (by kernel_rfl) (by kernel_rfl) (by kernel_rfl) (by kernel_rfl) rfl rfl rfl HS468.chg (fun wq hq => O_build (vs := [(0, .agg (E_coin.enc (rdx E_coin ds_row_0 i_420)).toArray), (1, .agg (E_coin.enc (rdx E_coin ds_row_0 (IntKind.i64.wrap (i_420 + 1)))).toArray)]) (v := .agg (E_coin.enc (rdx E_coin ds_row_0 i_420) ++ E_coin.enc (rdx E_coin ds_row_0 (IntKind.i64.wrap (i_420 + 1)))).toArray) rfl rfl rfl (fun w => by kernel_rfl)) ?_
        refine H_one (i := 23) rfl (by kernel_rfl) (by kernel_rfl) ?_
        refine F_box (C := E_coin.enc (rdx E_coin ds_row_0 i_420) ++ E_coin.enc (rdx E_coin ds_row_0 (IntKind.i64.wrap (i_420 + 1)))) rfl rfl rfl rfl rfl rfl HS468 (fun w473 g475 HS474 => ?_)
        have HS474 : Hp (HS462.ft [2]) w460 w473 [.own A415 c416 (rowC E_coin ds417) 69 E_coin.sz, .rd A_row_0 (rowC E_coin ds_row_0), Dz D_coin (orB (orB (orB (orB (HS462.ft [2]) B_row_0) B418) B_row_0) B_row_0) w460.heap.size B_row_0 ds_row_0 l_row_0, Dz D_coin (orB (orB (orB (orB (HS462.ft [2]) B_row_0) B418) B_row_0) B_row_0) w460.heap.size B418 ds417 l419, Dz D_coin (orB (orB (orB (orB (HS462.ft [2]) B_row_0) B418) B_row_0) B_row_0) w460.heap.size B_row_0 [(rdx E_coin ds_row_0 i_420)] [(rdp (Co.leaf 0 0) l_row_0 i_420)], Dz D_coin (orB (orB (orB (orB (HS462.ft [2]) B_row_0) B418) B_row_0) B_row_0) w460.heap.size B_row_0 [(rdx E_coin ds_row_0 (IntKind.i64.wrap (i_420 + 1)))] [(rdp (Co.leaf 0 0) l_row_0 (IntKind.i64.wrap (i_420 + 1)))], .box g475 (E_coin.enc (rdx E_coin ds_row_0 i_420) ++ E_coin.enc (rdx E_coin ds_row_0 (IntKind.i64.wrap (i_420 + 1)))) 99] := HS474
        refine H_next HS474.chg ?_
        refine H_val (i := 24) rfl (by kernel_rfl) (by kernel_rfl) (by kernel_rfl) (by kernel_rfl) rfl rfl rfl HS474.chg (fun wq hq => O_build (vs := [(0, .int .i64 (IntKind.i64.wrap (((rdp (Co.leaf 0 0) l_row_0 i_420).w) + ((rdp (Co.leaf 0 0) l_row_0 (IntKind.i64.wrap (i_420 + 1))).w)))), (2, .pointer (some ⟨g475, 0, none⟩))]) (v := .agg #[.int .i64 (IntKind.i64.wrap (((rdp (Co.leaf 0 0) l_row_0 i_420).w) + ((rdp (Co.leaf 0 0) l_row_0 (IntKind.i64.wrap (i_420 + 1))).w))), .int .i64 0, .pointer (some ⟨g475, 0, none⟩)]) rfl rfl rfl (fun w => by kernel_rfl)) ?_
        refine H_one (i := 25) rfl (by kernel_rfl) (by kernel_rfl) ?_
        have HS480 : Hp (HS462.ft [2]) w460 w473 [.own A415 c416 (rowC E_coin ds417) 69 E_coin.sz, .rd A_row_0 (rowC E_coin ds_row_0), Dz D_coin (orB (orB (orB (orB (HS462.ft [2]) B_row_0) B418) B_row_0) B_row_0) w460.heap.size B_row_0 ds_row_0 l_row_0, Dz D_coin (orB (orB (orB (orB (HS462.ft [2]) B_row_0) B418) B_row_0) B_row_0) w460.heap.size B418 ds417 l419, Dz D_coin (orB (orB (orB (orB (HS462.ft [2]) B_row_0) B418) B_row_0) B_row_0) w460.heap.size B_row_0 [(rdx E_coin ds_row_0 i_420)] [(rdp (Co.leaf 0 0) l_row_0 i_420)], Dz D_coin (orB (orB (orB (orB (HS462.ft [2]) B_row_0) B418) B_row_0) B_row_0) w460.heap.size B_row_0 [(rdx E_coin ds_row_0 (IntKind.i64.wrap (i_420 + 1)))] [(rdp (Co.leaf 0 0) l_row_0 (IntKind.i64.wrap (i_420 + 1)))], Dz D_coin (orB (orB (orB (orB (HS462.ft [2]) B_row_0) B418) B_row_0) B_row_0) w460.heap.size (orB (fun b => b = g475) (orB B_row_0 B_row_0)) [(DC.pack (IntKind.i64.wrap (((rdp (Co.leaf 0 0) l_row_0 i_420).w) + ((rdp (Co.leaf 0 0) l_row_0 (IntKind.i64.wrap (i_420 + 1))).w))) 0 g475 (rdx E_coin ds_row_0 i_420) (rdx E_coin ds_row_0 (IntKind.i64.wrap (i_420 + 1))))] [(Co.pack (IntKind.i64.wrap (((rdp (Co.leaf 0 0) l_row_0 i_420).w) + ((rdp (Co.leaf 0 0) l_row_0 (IntKind.i64.wrap (i_420 + 1))).w))) 0 (rdp (Co.leaf 0 0) l_row_0 i_420) (rdp (Co.leaf 0 0) l_row_0 (IntKind.i64.wrap (i_420 + 1))))]] := HS474.coPack (i := 6) (j := 4) (k := 5) (IntKind.i64.wrap (((rdp (Co.leaf 0 0) l_row_0 i_420).w) + ((rdp (Co.leaf 0 0) l_row_0 (IntKind.i64.wrap (i_420 + 1))).w))) 0 rfl rfl rfl hSF464 (Nat.le_refl _)
        refine F_litE (E := E_coin) (e := 69) [(0, .agg #[.int .i64 (IntKind.i64.wrap (((rdp (Co.leaf 0 0) l_row_0 i_420).w) + ((rdp (Co.leaf 0 0) l_row_0 (IntKind.i64.wrap (i_420 + 1))).w))), .int .i64 0, .pointer (some ⟨g475, 0, none⟩)])] [(DC.pack (IntKind.i64.wrap (((rdp (Co.leaf 0 0) l_row_0 i_420).w) + ((rdp (Co.leaf 0 0) l_row_0 (IntKind.i64.wrap (i_420 + 1))).w))) 0 g475 (rdx E_coin ds_row_0 i_420) (rdx E_coin ds_row_0 (IntKind.i64.wrap (i_420 + 1))))] rfl rfl rfl rfl rfl rfl rfl (by decide) (fun w => by kernel_rfl) HS480 (fun w477 A481 c482 HS478 => ?_)
        have HS478 : Hp (HS462.ft [2]) w460 w477 [.own A415 c416 (rowC E_coin ds417) 69 E_coin.sz, .rd A_row_0 (rowC E_coin ds_row_0), Dz D_coin (orB (orB (orB (orB (HS462.ft [2]) B_row_0) B418) B_row_0) B_row_0) w460.heap.size B_row_0 ds_row_0 l_row_0, Dz D_coin (orB (orB (orB (orB (HS462.ft [2]) B_row_0) B418) B_row_0) B_row_0) w460.heap.size B418 ds417 l419, Dz D_coin (orB (orB (orB (orB (HS462.ft [2]) B_row_0) B418) B_row_0) B_row_0) w460.heap.size B_row_0 [(rdx E_coin ds_row_0 i_420)] [(rdp (Co.leaf 0 0) l_row_0 i_420)], Dz D_coin (orB (orB (orB (orB (HS462.ft [2]) B_row_0) B418) B_row_0) B_row_0) w460.heap.size B_row_0 [(rdx E_coin ds_row_0 (IntKind.i64.wrap (i_420 + 1)))] [(rdp (Co.leaf 0 0) l_row_0 (IntKind.i64.wrap (i_420 + 1)))], Dz D_coin (orB (orB (orB (orB (HS462.ft [2]) B_row_0) B418) B_row_0) B_row_0) w460.heap.size (orB (fun b => b = g475) (orB B_row_0 B_row_0)) [(DC.pack (IntKind.i64.wrap (((rdp (Co.leaf 0 0) l_row_0 i_420).w) + ((rdp (Co.leaf 0 0) l_row_0 (IntKind.i64.wrap (i_420 + 1))).w))) 0 g475 (rdx E_coin ds_row_0 i_420) (rdx E_coin ds_row_0 (IntKind.i64.wrap (i_420 + 1))))] [(Co.pack (IntKind.i64.wrap (((rdp (Co.leaf 0 0) l_row_0 i_420).w) + ((rdp (Co.leaf 0 0) l_row_0 (IntKind.i64.wrap (i_420 + 1))).w))) 0 (rdp (Co.leaf 0 0) l_row_0 i_420) (rdp (Co.leaf 0 0) l_row_0 (IntKind.i64.wrap (i_420 + 1))))], .own A481 c482 (rowC E_coin [(DC.pack (IntKind.i64.wrap (((rdp (Co.leaf 0 0) l_row_0 i_420).w) + ((rdp (Co.leaf 0 0) l_row_0 (IntKind.i64.wrap (i_420 + 1))).w))) 0 g475 (rdx E_coin ds_row_0 i_420) (rdx E_coin ds_row_0 (IntKind.i64.wrap (i_420 + 1))))]) 69 E_coin.sz] := HS478
        have HS485 : Hp (HS462.ft [2]) w460 w477 [.own A415 c416 (rowC E_coin ds417) 69 E_coin.sz, .rd A_row_0 (rowC E_coin ds_row_0), Dz D_coin (orB (orB (orB (orB (HS462.ft [2]) B_row_0) B418) B_row_0) B_row_0) w460.heap.size B_row_0 ds_row_0 l_row_0, Dz D_coin (orB (orB (orB (orB (HS462.ft [2]) B_row_0) B418) B_row_0) B_row_0) w460.heap.size B418 ds417 l419, Dz D_coin (orB (orB (orB (orB (HS462.ft [2]) B_row_0) B418) B_row_0) B_row_0) w460.heap.size B_row_0 [(rdx E_coin ds_row_0 i_420)] [(rdp (Co.leaf 0 0) l_row_0 i_420)], Dz D_coin (orB (orB (orB (orB (HS462.ft [2]) B_row_0) B418) B_row_0) B_row_0) w460.heap.size B_row_0 [(rdx E_coin ds_row_0 (IntKind.i64.wrap (i_420 + 1)))] [(rdp (Co.leaf 0 0) l_row_0 (IntKind.i64.wrap (i_420 + 1)))], Dz D_coin (orB (orB (orB (orB (HS462.ft [2]) B_row_0) B418) B_row_0) B_row_0) w460.heap.size (orB (fun b => b = g475) (orB B_row_0 B_row_0)) [(DC.pack (IntKind.i64.wrap (((rdp (Co.leaf 0 0) l_row_0 i_420).w) + ((rdp (Co.leaf 0 0) l_row_0 (IntKind.i64.wrap (i_420 + 1))).w))) 0 g475 (rdx E_coin ds_row_0 i_420) (rdx E_coin ds_row_0 (IntKind.i64.wrap (i_420 + 1))))] [(Co.pack (IntKind.i64.wrap (((rdp (Co.leaf 0 0) l_row_0 i_420).w) + ((rdp (Co.leaf 0 0) l_row_0 (IntKind.i64.wrap (i_420 + 1))).w))) 0 (rdp (Co.leaf 0 0) l_row_0 i_420) (rdp (Co.leaf 0 0) l_row_0 (IntKind.i64.wrap (i_420 + 1))))], .own A481 c482 (rowC E_coin [(DC.pack (IntKind.i64.wrap (((rdp (Co.leaf 0 0) l_row_0 i_420).w) + ((rdp (Co.leaf 0 0) l_row_0 (IntKind.i64.wrap (i_420 + 1))).w))) 0 g475 (rdx E_coin ds_row_0 i_420) (rdx E_coin ds_row_0 (IntKind.i64.wrap (i_420 + 1))))]) 69 E_coin.sz, Dz D_coin (orB (orB (orB (orB (HS462.ft [2]) B_row_0) B418) B_row_0) B_row_0) w460.heap.size (orB (fun b => b = g475) (orB B_row_0 B_row_0)) [(DC.pack (IntKind.i64.wrap (((rdp (Co.leaf 0 0) l_row_0 i_420).w) + ((rdp (Co.leaf 0 0) l_row_0 (IntKind.i64.wrap (i_420 + 1))).w))) 0 g475 (rdx E_coin ds_row_0 i_420) (rdx E_coin ds_row_0 (IntKind.i64.wrap (i_420 + 1))))] [(Co.pack (IntKind.i64.wrap (((rdp (Co.leaf 0 0) l_row_0 i_420).w) + ((rdp (Co.leaf 0 0) l_row_0 (IntKind.i64.wrap (i_420 + 1))).w))) 0 (rdp (Co.leaf 0 0) l_row_0 i_420) (rdp (Co.leaf 0 0) l_row_0 (IntKind.i64.wrap (i_420 + 1))))]] := HS478.dzSub (i := 6) rfl dz_self (HS478.dze (i := 6) rfl)
        refine H_next HS485.chg ?_
        refine H_one (i := 26) rfl (by kernel_rfl) (by kernel_rfl) ?_
        obtain ⟨l488, h489, H⟩ := of_bnd H
        obtain ⟨g490, H⟩ := of_gd H
        refine F_appD (D := D_coin) (ds := ds417) (ds' := [(DC.pack (IntKind.i64.wrap (((rdp (Co.leaf 0 0) l_row_0 i_420).w) + ((rdp (Co.leaf 0 0) l_row_0 (IntKind.i64.wrap (i_420 + 1))).w))) 0 g475 (rdx E_coin ds_row_0 i_420) (rdx E_coin ds_row_0 (IntKind.i64.wrap (i_420 + 1))))]) (xs := l419) (ys := [(Co.pack (IntKind.i64.wrap (((rdp (Co.leaf 0 0) l_row_0 i_420).w) + ((rdp (Co.leaf 0 0) l_row_0 (IntKind.i64.wrap (i_420 + 1))).w))) 0 (rdp (Co.leaf 0 0) l_row_0 i_420) (rdp (Co.leaf 0 0) l_row_0 (IntKind.i64.wrap (i_420 + 1))))]) (i := 0) rfl rfl rfl rfl Try.underlying66 info69 rfl (by decide) (by decide) rfl rfl HS485 rfl (HS485.dze (i := 3) rfl) (HS485.dze (i := 8) rfl) (HS485.cells_own (i := 7) rfl) h489 g490 (fun w486 A491 c492 HS487 => ?_)
        have HS487 : Hp (HS462.ft [2]) w460 w486 [.own A491 c492 (rowC E_coin (ds417 ++ [(DC.pack (IntKind.i64.wrap (((rdp (Co.leaf 0 0) l_row_0 i_420).w) + ((rdp (Co.leaf 0 0) l_row_0 (IntKind.i64.wrap (i_420 + 1))).w))) 0 g475 (rdx E_coin ds_row_0 i_420) (rdx E_coin ds_row_0 (IntKind.i64.wrap (i_420 + 1))))])) 69 E_coin.sz, .rd A_row_0 (rowC E_coin ds_row_0), Dz D_coin (orB (orB (orB (orB (HS462.ft [2]) B_row_0) B418) B_row_0) B_row_0) w460.heap.size B_row_0 ds_row_0 l_row_0, Dz D_coin (orB (orB (orB (orB (HS462.ft [2]) B_row_0) B418) B_row_0) B_row_0) w460.heap.size B418 ds417 l419, Dz D_coin (orB (orB (orB (orB (HS462.ft [2]) B_row_0) B418) B_row_0) B_row_0) w460.heap.size B_row_0 [(rdx E_coin ds_row_0 i_420)] [(rdp (Co.leaf 0 0) l_row_0 i_420)], Dz D_coin (orB (orB (orB (orB (HS462.ft [2]) B_row_0) B418) B_row_0) B_row_0) w460.heap.size B_row_0 [(rdx E_coin ds_row_0 (IntKind.i64.wrap (i_420 + 1)))] [(rdp (Co.leaf 0 0) l_row_0 (IntKind.i64.wrap (i_420 + 1)))], Dz D_coin (orB (orB (orB (orB (HS462.ft [2]) B_row_0) B418) B_row_0) B_row_0) w460.heap.size (orB (fun b => b = g475) (orB B_row_0 B_row_0)) [(DC.pack (IntKind.i64.wrap (((rdp (Co.leaf 0 0) l_row_0 i_420).w) + ((rdp (Co.leaf 0 0) l_row_0 (IntKind.i64.wrap (i_420 + 1))).w))) 0 g475 (rdx E_coin ds_row_0 i_420) (rdx E_coin ds_row_0 (IntKind.i64.wrap (i_420 + 1))))] [(Co.pack (IntKind.i64.wrap (((rdp (Co.leaf 0 0) l_row_0 i_420).w) + ((rdp (Co.leaf 0 0) l_row_0 (IntKind.i64.wrap (i_420 + 1))).w))) 0 (rdp (Co.leaf 0 0) l_row_0 i_420) (rdp (Co.leaf 0 0) l_row_0 (IntKind.i64.wrap (i_420 + 1))))], .own A481 c482 (rowC E_coin [(DC.pack (IntKind.i64.wrap (((rdp (Co.leaf 0 0) l_row_0 i_420).w) + ((rdp (Co.leaf 0 0) l_row_0 (IntKind.i64.wrap (i_420 + 1))).w))) 0 g475 (rdx E_coin ds_row_0 i_420) (rdx E_coin ds_row_0 (IntKind.i64.wrap (i_420 + 1))))]) 69 E_coin.sz, Dz D_coin (orB (orB (orB (orB (HS462.ft [2]) B_row_0) B418) B_row_0) B_row_0) w460.heap.size (orB (fun b => b = g475) (orB B_row_0 B_row_0)) [(DC.pack (IntKind.i64.wrap (((rdp (Co.leaf 0 0) l_row_0 i_420).w) + ((rdp (Co.leaf 0 0) l_row_0 (IntKind.i64.wrap (i_420 + 1))).w))) 0 g475 (rdx E_coin ds_row_0 i_420) (rdx E_coin ds_row_0 (IntKind.i64.wrap (i_420 + 1))))] [(Co.pack (IntKind.i64.wrap (((rdp (Co.leaf 0 0) l_row_0 i_420).w) + ((rdp (Co.leaf 0 0) l_row_0 (IntKind.i64.wrap (i_420 + 1))).w))) 0 (rdp (Co.leaf 0 0) l_row_0 i_420) (rdp (Co.leaf 0 0) l_row_0 (IntKind.i64.wrap (i_420 + 1))))]] := HS487
        have HS493 : Hp (HS462.ft [2]) w460 w486 [.own A491 c492 (rowC E_coin (ds417 ++ [(DC.pack (IntKind.i64.wrap (((rdp (Co.leaf 0 0) l_row_0 i_420).w) + ((rdp (Co.leaf 0 0) l_row_0 (IntKind.i64.wrap (i_420 + 1))).w))) 0 g475 (rdx E_coin ds_row_0 i_420) (rdx E_coin ds_row_0 (IntKind.i64.wrap (i_420 + 1))))])) 69 E_coin.sz, .rd A_row_0 (rowC E_coin ds_row_0), Dz D_coin (orB (orB (orB (orB (HS462.ft [2]) B_row_0) B418) B_row_0) B_row_0) w460.heap.size B_row_0 ds_row_0 l_row_0, Dz D_coin (orB (orB (orB (orB (HS462.ft [2]) B_row_0) B418) B_row_0) B_row_0) w460.heap.size (orB B418 (orB (fun b => b = g475) (orB B_row_0 B_row_0))) (ds417 ++ [(DC.pack (IntKind.i64.wrap (((rdp (Co.leaf 0 0) l_row_0 i_420).w) + ((rdp (Co.leaf 0 0) l_row_0 (IntKind.i64.wrap (i_420 + 1))).w))) 0 g475 (rdx E_coin ds_row_0 i_420) (rdx E_coin ds_row_0 (IntKind.i64.wrap (i_420 + 1))))]) l488, Dz D_coin (orB (orB (orB (orB (HS462.ft [2]) B_row_0) B418) B_row_0) B_row_0) w460.heap.size B_row_0 [(rdx E_coin ds_row_0 i_420)] [(rdp (Co.leaf 0 0) l_row_0 i_420)], Dz D_coin (orB (orB (orB (orB (HS462.ft [2]) B_row_0) B418) B_row_0) B_row_0) w460.heap.size B_row_0 [(rdx E_coin ds_row_0 (IntKind.i64.wrap (i_420 + 1)))] [(rdp (Co.leaf 0 0) l_row_0 (IntKind.i64.wrap (i_420 + 1)))], Dz D_coin (orB (orB (orB (orB (HS462.ft [2]) B_row_0) B418) B_row_0) B_row_0) w460.heap.size (orB (fun b => b = g475) (orB B_row_0 B_row_0)) [(DC.pack (IntKind.i64.wrap (((rdp (Co.leaf 0 0) l_row_0 i_420).w) + ((rdp (Co.leaf 0 0) l_row_0 (IntKind.i64.wrap (i_420 + 1))).w))) 0 g475 (rdx E_coin ds_row_0 i_420) (rdx E_coin ds_row_0 (IntKind.i64.wrap (i_420 + 1))))] [(Co.pack (IntKind.i64.wrap (((rdp (Co.leaf 0 0) l_row_0 i_420).w) + ((rdp (Co.leaf 0 0) l_row_0 (IntKind.i64.wrap (i_420 + 1))).w))) 0 (rdp (Co.leaf 0 0) l_row_0 i_420) (rdp (Co.leaf 0 0) l_row_0 (IntKind.i64.wrap (i_420 + 1))))], .own A481 c482 (rowC E_coin [(DC.pack (IntKind.i64.wrap (((rdp (Co.leaf 0 0) l_row_0 i_420).w) + ((rdp (Co.leaf 0 0) l_row_0 (IntKind.i64.wrap (i_420 + 1))).w))) 0 g475 (rdx E_coin ds_row_0 i_420) (rdx E_coin ds_row_0 (IntKind.i64.wrap (i_420 + 1))))]) 69 E_coin.sz, Dz D_coin (orB (orB (orB (orB (HS462.ft [2]) B_row_0) B418) B_row_0) B_row_0) w460.heap.size (orB (fun b => b = g475) (orB B_row_0 B_row_0)) [(DC.pack (IntKind.i64.wrap (((rdp (Co.leaf 0 0) l_row_0 i_420).w) + ((rdp (Co.leaf 0 0) l_row_0 (IntKind.i64.wrap (i_420 + 1))).w))) 0 g475 (rdx E_coin ds_row_0 i_420) (rdx E_coin ds_row_0 (IntKind.i64.wrap (i_420 + 1))))] [(Co.pack (IntKind.i64.wrap (((rdp (Co.leaf 0 0) l_row_0 i_420).w) + ((rdp (Co.leaf 0 0) l_row_0 (IntKind.i64.wrap (i_420 + 1))).w))) 0 (rdp (Co.leaf 0 0) l_row_0 i_420) (rdp (Co.leaf 0 0) l_row_0 (IntKind.i64.wrap (i_420 + 1))))]] := HS487.dzApp (i := 3) (j := 8) rfl rfl h489
        refine H_next HS493.chg ?_
        refine H_val (i := 27) rfl (by kernel_rfl) (by kernel_rfl) (by kernel_rfl) (by kernel_rfl) rfl rfl rfl HS493.chg (fun wq hq => O_assign rfl rfl) ?_
        refine H_end (by kernel_rfl) ?_
        have HS495 := HS493.sel [0, 7, 3, 6, 8] rfl
        have HS494 : Hp S0 w0 w486 [.rd A_row_0 (rowC E_coin ds_row_0), Dz D_coin (orB S0 B_row_0) w0.heap.size B_row_0 ds_row_0 l_row_0, .own A491 c492 (rowC E_coin (ds417 ++ [(DC.pack (IntKind.i64.wrap (((rdp (Co.leaf 0 0) l_row_0 i_420).w) + ((rdp (Co.leaf 0 0) l_row_0 (IntKind.i64.wrap (i_420 + 1))).w))) 0 g475 (rdx E_coin ds_row_0 i_420) (rdx E_coin ds_row_0 (IntKind.i64.wrap (i_420 + 1))))])) 69 E_coin.sz, Dz D_coin (orB S0 B_row_0) w0.heap.size (orB B418 (orB (fun b => b = g475) (orB B_row_0 B_row_0))) (ds417 ++ [(DC.pack (IntKind.i64.wrap (((rdp (Co.leaf 0 0) l_row_0 i_420).w) + ((rdp (Co.leaf 0 0) l_row_0 (IntKind.i64.wrap (i_420 + 1))).w))) 0 g475 (rdx E_coin ds_row_0 i_420) (rdx E_coin ds_row_0 (IntKind.i64.wrap (i_420 + 1))))]) l488, Dz D_coin (orB S0 B_row_0) w0.heap.size B_row_0 [(rdx E_coin ds_row_0 i_420)] [(rdp (Co.leaf 0 0) l_row_0 i_420)], Dz D_coin (orB S0 B_row_0) w0.heap.size B_row_0 [(rdx E_coin ds_row_0 (IntKind.i64.wrap (i_420 + 1)))] [(rdp (Co.leaf 0 0) l_row_0 (IntKind.i64.wrap (i_420 + 1)))], .own A481 c482 (rowC E_coin [(DC.pack (IntKind.i64.wrap (((rdp (Co.leaf 0 0) l_row_0 i_420).w) + ((rdp (Co.leaf 0 0) l_row_0 (IntKind.i64.wrap (i_420 + 1))).w))) 0 g475 (rdx E_coin ds_row_0 i_420) (rdx E_coin ds_row_0 (IntKind.i64.wrap (i_420 + 1))))]) 69 E_coin.sz, Dz D_coin (orB S0 B_row_0) w0.heap.size (orB (fun b => b = g475) (orB B_row_0 B_row_0)) [(DC.pack (IntKind.i64.wrap (((rdp (Co.leaf 0 0) l_row_0 i_420).w) + ((rdp (Co.leaf 0 0) l_row_0 (IntKind.i64.wrap (i_420 + 1))).w))) 0 g475 (rdx E_coin ds_row_0 i_420) (rdx E_coin ds_row_0 (IntKind.i64.wrap (i_420 + 1))))] [(Co.pack (IntKind.i64.wrap (((rdp (Co.leaf 0 0) l_row_0 i_420).w) + ((rdp (Co.leaf 0 0) l_row_0 (IntKind.i64.wrap (i_420 + 1))).w))) 0 (rdp (Co.leaf 0 0) l_row_0 i_420) (rdp (Co.leaf 0 0) l_row_0 (IntKind.i64.wrap (i_420 + 1))))], Dz D_coin (orB S0 B_row_0) w0.heap.size (orB (fun b => b = g475) (orB B_row_0 B_row_0)) [(DC.pack (IntKind.i64.wrap (((rdp (Co.leaf 0 0) l_row_0 i_420).w) + ((rdp (Co.leaf 0 0) l_row_0 (IntKind.i64.wrap (i_420 + 1))).w))) 0 g475 (rdx E_coin ds_row_0 i_420) (rdx E_coin ds_row_0 (IntKind.i64.wrap (i_420 + 1))))] [(Co.pack (IntKind.i64.wrap (((rdp (Co.leaf 0 0) l_row_0 i_420).w) + ((rdp (Co.leaf 0 0) l_row_0 (IntKind.i64.wrap (i_420 + 1))).w))) 0 (rdp (Co.leaf 0 0) l_row_0 i_420) (rdp (Co.leaf 0 0) l_row_0 (IntKind.i64.wrap (i_420 + 1))))]] := ((((HS462.backD [2] HS495 (Pv.backG (Pv.own (Pv.own (Pv.per (HS495.dz (i := 2) rfl).1 (Pv.per (HS495.dz (i := 3) rfl).1 (Pv.per (HS495.dz (i := 4) rfl).1 Pv.nil))))) (fun b => (fun hb => Or.elim hb (fun hb => Or.elim hb (fun hb => Or.elim hb (fun hb => Or.elim hb (fun hb => .inl hb) (fun hb => .inr ⟨_, _, nth_mem (i := 1) rfl, hb⟩)) (fun hb => .inr ⟨_, _, nth_mem (i := 3) rfl, hb⟩)) (fun hb => .inr ⟨_, _, nth_mem (i := 4) rfl, hb⟩)) (fun hb => .inr ⟨_, _, nth_mem (i := 5) rfl, hb⟩))))).sel [0, 1, 6, 8, 4, 5, 7, 9, 10] rfl).dzProv (i := 3) rfl (fun b hb _ => Or.elim hb (fun hb => Or.elim hb (fun hb => Or.elim hb (fun hb => Or.elim hb (fun hb => Or.elim hb (fun hb => (HS462.mine _ (feet_pick_le hb)).elim (hSF _) .inr) (fun hb => (HS462.dz (i := 1) rfl).1 _ hb)) (fun hb => (HS462.dz (i := 3) rfl).1 _ hb)) (fun hb => (HS462.dz (i := 4) rfl).1 _ hb)) (fun hb => (HS462.dz (i := 5) rfl).1 _ hb)) (fun h => .inr (Nat.le_trans HS462.chg.size h)))).dzProv (i := 7) rfl (fun b hb _ => Or.elim hb (fun hb => Or.elim hb (fun hb => Or.elim hb (fun hb => Or.elim hb (fun hb => Or.elim hb (fun hb => (HS462.mine _ (feet_pick_le hb)).elim (hSF _) .inr) (fun hb => (HS462.dz (i := 1) rfl).1 _ hb)) (fun hb => (HS462.dz (i := 3) rfl).1 _ hb)) (fun hb => (HS462.dz (i := 4) rfl).1 _ hb)) (fun hb => (HS462.dz (i := 5) rfl).1 _ hb)) (fun h => .inr (Nat.le_trans HS462.chg.size h)))).dzProv (i := 8) rfl (fun b hb _ => Or.elim hb (fun hb => Or.elim hb (fun hb => Or.elim hb (fun hb => Or.elim hb (fun hb => Or.elim hb (fun hb => (HS462.mine _ (feet_pick_le hb)).elim (hSF _) .inr) (fun hb => (HS462.dz (i := 1) rfl).1 _ hb)) (fun hb => (HS462.dz (i := 3) rfl).1 _ hb)) (fun hb => (HS462.dz (i := 4) rfl).1 _ hb)) (fun hb => (HS462.dz (i := 5) rfl).1 _ hb)) (fun h => .inr (Nat.le_trans HS462.chg.size h)))
        refine T_done (by kernel_rfl) ?_
        refine L_endB hN424 ?_
        have HS496 : Hp S0 w0 w486 [.rd A_row_0 (rowC E_coin ds_row_0), Dz D_coin (orB S0 B_row_0) w0.heap.size B_row_0 ds_row_0 l_row_0, .own A491 c492 (rowC E_coin (ds417 ++ [(DC.pack (IntKind.i64.wrap (((rdp (Co.leaf 0 0) l_row_0 i_420).w) + ((rdp (Co.leaf 0 0) l_row_0 (IntKind.i64.wrap (i_420 + 1))).w))) 0 g475 (rdx E_coin ds_row_0 i_420) (rdx E_coin ds_row_0 (IntKind.i64.wrap (i_420 + 1))))])) 69 E_coin.sz, Dz D_coin (orB S0 B_row_0) w0.heap.size (orB B418 (orB (fun b => b = g475) (orB B_row_0 B_row_0))) (ds417 ++ [(DC.pack (IntKind.i64.wrap (((rdp (Co.leaf 0 0) l_row_0 i_420).w) + ((rdp (Co.leaf 0 0) l_row_0 (IntKind.i64.wrap (i_420 + 1))).w))) 0 g475 (rdx E_coin ds_row_0 i_420) (rdx E_coin ds_row_0 (IntKind.i64.wrap (i_420 + 1))))]) l488] := HS494.sel [0, 1, 2, 3] rfl
        refine L_region ?_
        refine F_val rfl rfl rfl (O_move rfl rfl) ?_
        refine F_val rfl rfl rfl (O_add rfl rfl rfl) ?_
        obtain ⟨x497, h498, H⟩ := of_bnd H
        refine F_val rfl rfl rfl (O_assign' rfl rfl (congrArg (Value.int .i64) h498)) ?_
        refine F_nil ?_
        refine L_nil (fun a ha => hNp414 _ a _ (Nat.lt_succ_self _) ⟨_, _, _, _, _, _, Is.cons ha (Is.cons ha (Is.cons ha (Is.nil ha) rfl) rfl) rfl, HS496.sel [0, 1, 2, 3] rfl, H⟩)
      · have H := of_neg H c423
        refine L_exitB (fun a w h => hOp414 (.exit 0) a w rfl (hXb255 a w h)) ?_
        refine L_nil (fun a ha => hNj5 a _ ⟨_, _, _, _, _, (Option.some.inj H).symm, Is.cons ha (Is.nil ha) rfl, HS422.sel [0, 1, 2, 3] rfl⟩)
  · obtain ⟨l254, A250, c251, ds252, B253, ej, ha, HS500⟩ := hR
    obtain rfl := ej.symm
    refine wpLF_app ?_ ha
    refine L_seq ?_
    refine L_region ?_
    refine F_val rfl rfl rfl (O_move rfl rfl) ?_
    refine F_val rfl rfl rfl (O_assign rfl rfl) ?_
    refine F_nil ?_
    refine L_ret (fun a ha => (post_ret1 ha rfl rfl ?_))
    obtain rfl := Option.some.inj H
    exact ⟨_, _, _, _, rfl, HS500.sel [2, 3] rfl⟩

/-! function 50: valise/build.merged -/
theorem build_merged.calls {S0 : Nat → Prop} {w0 : World} {A_leaves_0 : Option Addr} {c_leaves_0 : Nat} {ds_leaves_0 : List DC} {B_leaves_0 : Nat → Prop} {A_made_1 : Option Addr} {c_made_1 : Nat} {ds_made_1 : List DC} {B_made_1 : Nat → Prop} {l_leaves_0 : List Co} {l_made_1 : List Co} {r : List Co} (HS0 : Hp S0 w0 w0 [.rd A_leaves_0 (rowC E_coin ds_leaves_0), Dz D_coin anyB 0 B_leaves_0 ds_leaves_0 l_leaves_0, .rd A_made_1 (rowC E_coin ds_made_1), Dz D_coin anyB 0 B_made_1 ds_made_1 l_made_1]) (hc_leaves_0 : l_leaves_0.length ≤ c_leaves_0) (hc_made_1 : l_made_1.length ≤ c_made_1) (h : build_merged.f l_leaves_0 l_made_1 = some r) :
    Calls Try.prog 50 ([.slice A_leaves_0 l_leaves_0.length c_leaves_0, .slice A_made_1 l_made_1.length c_made_1] : List Value).toArray w0 (fun e w => ∃ (A1 : Option Addr), ∃ (c1 : Nat), ∃ (ds1 : List DC), ∃ (B1 : Nat → Prop), e = .returned (.slice A1 r.length c1) ∧ Hp S0 w0 w [.own A1 c1 (rowC E_coin ds1) 69 E_coin.sz, Dz D_coin (orB (orB S0 B_leaves_0) B_made_1) w0.heap.size B1 ds1 r]) := by
  have H : (((build_merged.l1 FU l_leaves_0 l_made_1 ([] : List Co) ).bind fun l1301 => some l1301) : Option (List Co)) = some r := h
  refine calls_start Try.func50 rfl rfl ?_
  have hSF : ∀ b, S0 b → (orB (orB S0 B_leaves_0) B_made_1) b ∨ w0.heap.size ≤ b := (fun b hb => .inl (.inl (.inl hb)))
  have HS1 : Hp S0 w0 w0 [.rd A_leaves_0 (rowC E_coin ds_leaves_0), Dz D_coin (orB (orB S0 B_leaves_0) B_made_1) w0.heap.size B_leaves_0 ds_leaves_0 l_leaves_0, .rd A_made_1 (rowC E_coin ds_made_1), Dz D_coin anyB 0 B_made_1 ds_made_1 l_made_1] := HS0.dzProv (i := 1) rfl (fun b _ hb => .inl (.inl (.inr hb)))
  have HS2 : Hp S0 w0 w0 [.rd A_leaves_0 (rowC E_coin ds_leaves_0), Dz D_coin (orB (orB S0 B_leaves_0) B_made_1) w0.heap.size B_leaves_0 ds_leaves_0 l_leaves_0, .rd A_made_1 (rowC E_coin ds_made_1), Dz D_coin (orB (orB S0 B_leaves_0) B_made_1) w0.heap.size B_made_1 ds_made_1 l_made_1] := HS1.dzProv (i := 3) rfl (fun b _ hb => .inl (.inr hb))
  refine L_seq ?_
  refine L_region ?_
  refine F_val rfl rfl rfl (O_assign rfl rfl) ?_
  refine F_nil ?_
  refine L_seq ?_
  refine L_region ?_
  refine F_val rfl rfl rfl (O_assign rfl rfl) ?_
  have HS3 := (HS2.addNil 69 E_coin.sz).dzNil D_coin (orB (orB S0 B_leaves_0) B_made_1) w0.heap.size
  have HS3 : Hp S0 w0 w0 [.rd A_leaves_0 (rowC E_coin ds_leaves_0), Dz D_coin (orB (orB S0 B_leaves_0) B_made_1) w0.heap.size B_leaves_0 ds_leaves_0 l_leaves_0, .rd A_made_1 (rowC E_coin ds_made_1), Dz D_coin (orB (orB S0 B_leaves_0) B_made_1) w0.heap.size B_made_1 ds_made_1 l_made_1, .own none 0 (rowC E_coin ([] : List DC)) 69 E_coin.sz, Dz D_coin (orB (orB S0 B_leaves_0) B_made_1) w0.heap.size NoB ([] : List DC) ([] : List Co)] := HS3
  refine F_nil ?_
  refine L_seq ?_
  obtain ⟨yj6, Hyj6, H⟩ := of_bind H
  refine L_join (fun a w => ∃ (l1301 : List Co), ∃ (A1297 : Option Addr), ∃ (c1298 : Nat), ∃ (ds1299 : List DC), ∃ (B1300 : Nat → Prop), yj6 = l1301 ∧ Is Try.f50.ntmps a [(5, .slice A1297 l1301.length c1298)] ∧ Hp S0 w0 w [.rd A_leaves_0 (rowC E_coin ds_leaves_0), Dz D_coin (orB (orB S0 B_leaves_0) B_made_1) w0.heap.size B_leaves_0 ds_leaves_0 l_leaves_0, .rd A_made_1 (rowC E_coin ds_made_1), Dz D_coin (orB (orB S0 B_leaves_0) B_made_1) w0.heap.size B_made_1 ds_made_1 l_made_1, .own A1297 c1298 (rowC E_coin ds1299) 69 E_coin.sz, Dz D_coin (orB (orB S0 B_leaves_0) B_made_1) w0.heap.size B1300 ds1299 l1301]) (fun Qj6 hNj6 hOj6 => ?_) (fun a w hR => ?_)
  · skip
    have H := Hyj6
    refine L_blk (fun Qb1302 hNb1302 hXb1302 hOb1302 => ?_)
    have HS1616 : Hp S0 w0 w0 [.rd A_leaves_0 (rowC E_coin ds_leaves_0), Dz D_coin (orB (orB S0 B_leaves_0) B_made_1) w0.heap.size B_leaves_0 ds_leaves_0 l_leaves_0, .rd A_made_1 (rowC E_coin ds_made_1), Dz D_coin (orB (orB S0 B_leaves_0) B_made_1) w0.heap.size B_made_1 ds_made_1 l_made_1, .own none 0 (rowC E_coin ([] : List DC)) 69 E_coin.sz, Dz D_coin (orB (orB S0 B_leaves_0) B_made_1) w0.heap.size NoB ([] : List DC) ([] : List Co), Rdc l_leaves_0.length c_leaves_0 A_leaves_0 (rowC E_coin ds_leaves_0)] := HS3.addRdc (i := 0) rfl ((HS3.cells_rd (i := 0) rfl).self) hc_leaves_0
    have HS1618 : Hp S0 w0 w0 [.rd A_leaves_0 (rowC E_coin ds_leaves_0), Dz D_coin (orB (orB S0 B_leaves_0) B_made_1) w0.heap.size B_leaves_0 ds_leaves_0 l_leaves_0, .rd A_made_1 (rowC E_coin ds_made_1), Dz D_coin (orB (orB S0 B_leaves_0) B_made_1) w0.heap.size B_made_1 ds_made_1 l_made_1, .own none 0 (rowC E_coin ([] : List DC)) 69 E_coin.sz, Dz D_coin (orB (orB S0 B_leaves_0) B_made_1) w0.heap.size NoB ([] : List DC) ([] : List Co), Rdc l_leaves_0.length c_leaves_0 A_leaves_0 (rowC E_coin ds_leaves_0), Dz D_coin (orB (orB S0 B_leaves_0) B_made_1) w0.heap.size B_leaves_0 ds_leaves_0 l_leaves_0] := HS1616.dzSub (i := 1) rfl dz_self (HS3.dze (i := 1) rfl)
    have HS1620 : Hp S0 w0 w0 [.rd A_leaves_0 (rowC E_coin ds_leaves_0), Dz D_coin (orB (orB S0 B_leaves_0) B_made_1) w0.heap.size B_leaves_0 ds_leaves_0 l_leaves_0, .rd A_made_1 (rowC E_coin ds_made_1), Dz D_coin (orB (orB S0 B_leaves_0) B_made_1) w0.heap.size B_made_1 ds_made_1 l_made_1, .own none 0 (rowC E_coin ([] : List DC)) 69 E_coin.sz, Dz D_coin (orB (orB S0 B_leaves_0) B_made_1) w0.heap.size NoB ([] : List DC) ([] : List Co), Rdc l_leaves_0.length c_leaves_0 A_leaves_0 (rowC E_coin ds_leaves_0), Dz D_coin (orB (orB S0 B_leaves_0) B_made_1) w0.heap.size B_leaves_0 ds_leaves_0 l_leaves_0, Rdc l_made_1.length c_made_1 A_made_1 (rowC E_coin ds_made_1)] := HS1618.addRdc (i := 2) rfl ((HS1618.cells_rd (i := 2) rfl).self) hc_made_1
    have HS1622 : Hp S0 w0 w0 [.rd A_leaves_0 (rowC E_coin ds_leaves_0), Dz D_coin (orB (orB S0 B_leaves_0) B_made_1) w0.heap.size B_leaves_0 ds_leaves_0 l_leaves_0, .rd A_made_1 (rowC E_coin ds_made_1), Dz D_coin (orB (orB S0 B_leaves_0) B_made_1) w0.heap.size B_made_1 ds_made_1 l_made_1, .own none 0 (rowC E_coin ([] : List DC)) 69 E_coin.sz, Dz D_coin (orB (orB S0 B_leaves_0) B_made_1) w0.heap.size NoB ([] : List DC) ([] : List Co), Rdc l_leaves_0.length c_leaves_0 A_leaves_0 (rowC E_coin ds_leaves_0), Dz D_coin (orB (orB S0 B_leaves_0) B_made_1) w0.heap.size B_leaves_0 ds_leaves_0 l_leaves_0, Rdc l_made_1.length c_made_1 A_made_1 (rowC E_coin ds_made_1), Dz D_coin (orB (orB S0 B_leaves_0) B_made_1) w0.heap.size B_made_1 ds_made_1 l_made_1] := HS1620.dzSub (i := 3) rfl dz_self (HS1618.dze (i := 3) rfl)
    refine L_lp (fun k a w => ∃ (l2267 : List Co), ∃ (l2272 : List Co), ∃ (l2277 : List Co), ∃ (A2263 : Option Addr), ∃ (c2264 : Nat), ∃ (ds2265 : List DC), ∃ (B2266 : Nat → Prop), ∃ (A2268 : Option Addr), ∃ (c2269 : Nat), ∃ (ds2270 : List DC), ∃ (B2271 : Nat → Prop), ∃ (A2273 : Option Addr), ∃ (c2274 : Nat), ∃ (ds2275 : List DC), ∃ (B2276 : Nat → Prop), Is Try.f50.ntmps a [(0, .slice A2263 l2267.length c2264), (1, .slice A2268 l2272.length c2269), (5, .slice A2273 l2277.length c2274)] ∧ Hp S0 w0 w [.rd A_leaves_0 (rowC E_coin ds_leaves_0), Dz D_coin (orB (orB S0 B_leaves_0) B_made_1) w0.heap.size B_leaves_0 ds_leaves_0 l_leaves_0, .rd A_made_1 (rowC E_coin ds_made_1), Dz D_coin (orB (orB S0 B_leaves_0) B_made_1) w0.heap.size B_made_1 ds_made_1 l_made_1, Rdc l2267.length c2264 A2263 (rowC E_coin ds2265), Dz D_coin (orB (orB S0 B_leaves_0) B_made_1) w0.heap.size B2266 ds2265 l2267, Rdc l2272.length c2269 A2268 (rowC E_coin ds2270), Dz D_coin (orB (orB S0 B_leaves_0) B_made_1) w0.heap.size B2271 ds2270 l2272, .own A2273 c2274 (rowC E_coin ds2275) 69 E_coin.sz, Dz D_coin (orB (orB S0 B_leaves_0) B_made_1) w0.heap.size B2276 ds2275 l2277] ∧ build_merged.l1 k l2267 l2272 l2277  = some yj6) FU (fun a ha => ⟨_, _, _, _, _, _, _, _, _, _, _, _, _, _, _, Is.cons ha (Is.cons ha (Is.cons ha (Is.nil ha) rfl) rfl) rfl, HS1622.sel [0, 1, 2, 3, 6, 7, 8, 9, 4, 5] rfl, H⟩) (fun kp2262 a w2278 hI Qp2262 hNp2262 hOp2262 => ?_)
    obtain ⟨l2267, l2272, l2277, A2263, c2264, ds2265, B2266, A2268, c2269, ds2270, B2271, A2273, c2274, ds2275, B2276, ha, HS2279, HAp2262⟩ := hI
    cases kp2262 with
    | zero => cases (show (none : Option _) = some _ from HAp2262)
    | succ kp2262 =>
      have H := (build_merged.l1.eq_2 ..).symm.trans HAp2262
      refine wpLF_app ?_ ha
      refine L_seq ?_
      refine L_seq ?_
      refine L_region ?_
      refine F_val rfl rfl rfl (O_move rfl rfl) ?_
      refine F_val rfl rfl rfl (O_len rfl rfl Try.underlying66) ?_
      refine F_val rfl rfl rfl (O_gt rfl rfl rfl) ?_
      refine F_val rfl rfl rfl (O_move rfl rfl) ?_
      refine F_grp 4 [(13, .bool (decide ((0 < (l2267.length : Int)) ∨ (0 < (l2272.length : Int))))), (0, .slice A2263 l2267.length c2264), (1, .slice A2268 l2272.length c2269), (5, .slice A2273 l2277.length c2274)] ?_ ?_
      · rcases Decidable.em (0 < (l2267.length : Int)) with c2283 | c2283
        · refine F_know (i := 9) rfl (dec_t c2283) ?_
          refine F_gskip rfl rfl rfl rfl rfl rfl rfl ?_
          refine F_gskip rfl rfl rfl rfl rfl rfl rfl ?_
          refine F_gskip rfl rfl rfl rfl rfl rfl rfl ?_
          refine F_val rfl rfl rfl (O_pickT rfl rfl rfl) ?_
          refine F_know (i := 13) rfl (dec_or_t (q := 0 < (l2272.length : Int)) c2283) ?_
          exact F_grpE (fun a ha => Is.cons ha (Is.cons ha (Is.cons ha (Is.cons ha (Is.nil ha) rfl) rfl) rfl) rfl)
        · refine F_know (i := 9) rfl (dec_f c2283) ?_
          refine F_gval rfl rfl rfl rfl rfl rfl (O_move rfl rfl) ?_
          refine F_gval rfl rfl rfl rfl rfl rfl (O_len rfl rfl Try.underlying66) ?_
          refine F_gval rfl rfl rfl rfl rfl rfl (O_gt rfl rfl rfl) ?_
          refine F_val rfl rfl rfl (O_pickF rfl rfl rfl) ?_
          refine F_know (i := 13) rfl (dec_or_f (q := 0 < (l2272.length : Int)) c2283) ?_
          exact F_grpE (fun a ha => Is.cons ha (Is.cons ha (Is.cons ha (Is.cons ha (Is.nil ha) rfl) rfl) rfl) rfl)
      · skip
        refine F_nil ?_
        refine L_condP rfl (fun c2284 => ?_) (fun c2284 => ?_)
        · have H := of_pos H c2284
          refine L_skip ?_
          refine L_blk (fun Q2285 hN2285 hX2285 hO2285 => ?_)
          refine L_seq ?_
          refine L_quiet mix (by kernel_rfl) ?_
          refine Q_val rfl rfl rfl (fun wq hq => O_move rfl rfl) ?_
          refine Q_val rfl rfl rfl (fun wq hq => O_len rfl rfl Try.underlying66) ?_
          refine Q_val rfl rfl rfl (fun wq hq => O_eq rfl rfl rfl) ?_
          refine Q_val rfl rfl rfl (fun wq hq => O_move rfl rfl) ?_
          obtain ⟨b2307, Hb2307, H⟩ := of_bind H
          refine Q_grp 15 [(32, .bool b2307), (0, .slice A2263 l2267.length c2264), (1, .slice A2268 l2272.length c2269), (5, .slice A2273 l2277.length c2274)] ?_ ?_
          · rcases Decidable.em ((l2272.length : Int) = 0) with c2311 | c2311
            · refine Q_know (i := 17) rfl (dec_t c2311) ?_
              have H := of_pos Hb2307 c2311
              refine Q_gskip rfl rfl rfl rfl rfl rfl rfl ?_
              refine Q_gskip rfl rfl rfl rfl rfl rfl rfl ?_
              refine Q_gskip rfl rfl rfl rfl rfl rfl rfl ?_
              refine Q_gskip rfl rfl rfl rfl rfl rfl rfl ?_
              refine Q_gskip rfl rfl rfl rfl rfl rfl rfl ?_
              refine Q_gskip rfl rfl rfl rfl rfl rfl rfl ?_
              refine Q_gskip rfl rfl rfl rfl rfl rfl rfl ?_
              refine Q_gskip rfl rfl rfl rfl rfl rfl rfl ?_
              refine Q_gskip rfl rfl rfl rfl rfl rfl rfl ?_
              refine Q_gskip rfl rfl rfl rfl rfl rfl rfl ?_
              refine Q_gskip rfl rfl rfl rfl rfl rfl rfl ?_
              refine Q_gskip rfl rfl rfl rfl rfl rfl rfl ?_
              refine Q_gskip rfl rfl rfl rfl rfl rfl rfl ?_
              refine Q_gskip rfl rfl rfl rfl rfl rfl rfl ?_
              refine Q_val rfl rfl rfl (fun wq hq => O_pickT rfl rfl rfl) ?_
              refine Q_know (i := 32) rfl (congrArg Value.bool (Option.some.inj H)) ?_
              exact Q_grpE (fun a ha => Is.cons ha (Is.cons ha (Is.cons ha (Is.cons ha (Is.nil ha) rfl) rfl) rfl) rfl)
            · refine Q_know (i := 17) rfl (dec_f c2311) ?_
              have H := of_neg Hb2307 c2311
              refine Q_gval rfl rfl rfl rfl rfl rfl (fun wq hq => O_move rfl rfl) ?_
              refine Q_gval rfl rfl rfl rfl rfl rfl (fun wq hq => O_len rfl rfl Try.underlying66) ?_
              refine Q_gval rfl rfl rfl rfl rfl rfl (fun wq hq => O_gt rfl rfl rfl) ?_
              refine Q_gval rfl rfl rfl rfl rfl rfl (fun wq hq => O_move rfl rfl) ?_
              obtain ⟨b2320, Hb2320, H⟩ := of_bind H
              refine Q_grp 10 [(31, .bool b2320), (0, .slice A2263 l2267.length c2264), (1, .slice A2268 l2272.length c2269), (5, .slice A2273 l2277.length c2274), (17, .bool false), (18, .slice A2263 l2267.length c2264), (19, .int .i64 (l2267.length : Int)), (20, .bool (decide (0 < (l2267.length : Int)))), (21, .bool (decide (0 < (l2267.length : Int))))] ?_ ?_
              · rcases Decidable.em (0 < (l2267.length : Int)) with c2324 | c2324
                · refine Q_know (i := 21) rfl (dec_t c2324) ?_
                  have H := of_pos Hb2320 c2324
                  refine Q_gval rfl rfl rfl rfl rfl rfl (fun wq hq => O_move rfl rfl) ?_
                  obtain ⟨⟨g2325, g2326⟩, H⟩ := of_gd H
                  refine Q_gval rfl rfl rfl rfl rfl rfl (fun wq hq => O_idx rfl rfl rfl Try.underlying66 size69 g2325 g2326 (Cells.isA ((HS2279.keep hq).cells_rdc (i := 4) rfl) (dz_ne (D := D_coin) ((HS2279.keep hq).dze (i := 5) rfl) g2325 g2326 (by decide)))) ?_
                  refine Q_gval rfl rfl rfl rfl rfl rfl (fun wq hq => O_fieldC rfl rfl (Cells.isA ((HS2279.keep hq).cells_rdc (i := 4) rfl) (dz_ne (D := D_coin) ((HS2279.keep hq).dze (i := 5) rfl) g2325 g2326 (by decide))) field69_0) ?_
                  have HS2328 : Hp S0 w0 w2278 [.rd A_leaves_0 (rowC E_coin ds_leaves_0), Dz D_coin (orB (orB S0 B_leaves_0) B_made_1) w0.heap.size B_leaves_0 ds_leaves_0 l_leaves_0, .rd A_made_1 (rowC E_coin ds_made_1), Dz D_coin (orB (orB S0 B_leaves_0) B_made_1) w0.heap.size B_made_1 ds_made_1 l_made_1, Rdc l2267.length c2264 A2263 (rowC E_coin ds2265), Dz D_coin (orB (orB S0 B_leaves_0) B_made_1) w0.heap.size B2266 ds2265 l2267, Rdc l2272.length c2269 A2268 (rowC E_coin ds2270), Dz D_coin (orB (orB S0 B_leaves_0) B_made_1) w0.heap.size B2271 ds2270 l2272, .own A2273 c2274 (rowC E_coin ds2275) 69 E_coin.sz, Dz D_coin (orB (orB S0 B_leaves_0) B_made_1) w0.heap.size B2276 ds2275 l2277, Dz D_coin (orB (orB S0 B_leaves_0) B_made_1) w0.heap.size B2266 [(rdx E_coin ds2265 0)] [(rdp (Co.leaf 0 0) l2267 0)]] := HS2279.dzOne (i := 5) rfl dz_self (HS2279.dze (i := 5) rfl) g2325 g2326
                  refine Q_gval rfl rfl rfl rfl rfl rfl (fun wq hq => O_loadC rfl rfl flat3 ((HS2328.keep hq).cells_rdc (i := 4) rfl) (dz_cell (D := D_coin) (f := fun x => .int .i64 x.w) 0 co_w ((HS2328.keep hq).dze (i := 5) rfl) g2325 g2326)) ?_
                  refine Q_gval rfl rfl rfl rfl rfl rfl (fun wq hq => O_move rfl rfl) ?_
                  obtain ⟨⟨g2329, g2330⟩, H⟩ := of_gd H
                  refine Q_gval rfl rfl rfl rfl rfl rfl (fun wq hq => O_idx rfl rfl rfl Try.underlying66 size69 g2329 g2330 (Cells.isA ((HS2328.keep hq).cells_rdc (i := 6) rfl) (dz_ne (D := D_coin) ((HS2328.keep hq).dze (i := 7) rfl) g2329 g2330 (by decide)))) ?_
                  refine Q_gval rfl rfl rfl rfl rfl rfl (fun wq hq => O_fieldC rfl rfl (Cells.isA ((HS2328.keep hq).cells_rdc (i := 6) rfl) (dz_ne (D := D_coin) ((HS2328.keep hq).dze (i := 7) rfl) g2329 g2330 (by decide))) field69_0) ?_
                  have HS2332 : Hp S0 w0 w2278 [.rd A_leaves_0 (rowC E_coin ds_leaves_0), Dz D_coin (orB (orB S0 B_leaves_0) B_made_1) w0.heap.size B_leaves_0 ds_leaves_0 l_leaves_0, .rd A_made_1 (rowC E_coin ds_made_1), Dz D_coin (orB (orB S0 B_leaves_0) B_made_1) w0.heap.size B_made_1 ds_made_1 l_made_1, Rdc l2267.length c2264 A2263 (rowC E_coin ds2265), Dz D_coin (orB (orB S0 B_leaves_0) B_made_1) w0.heap.size B2266 ds2265 l2267, Rdc l2272.length c2269 A2268 (rowC E_coin ds2270), Dz D_coin (orB (orB S0 B_leaves_0) B_made_1) w0.heap.size B2271 ds2270 l2272, .own A2273 c2274 (rowC E_coin ds2275) 69 E_coin.sz, Dz D_coin (orB (orB S0 B_leaves_0) B_made_1) w0.heap.size B2276 ds2275 l2277, Dz D_coin (orB (orB S0 B_leaves_0) B_made_1) w0.heap.size B2266 [(rdx E_coin ds2265 0)] [(rdp (Co.leaf 0 0) l2267 0)], Dz D_coin (orB (orB S0 B_leaves_0) B_made_1) w0.heap.size B2271 [(rdx E_coin ds2270 0)] [(rdp (Co.leaf 0 0) l2272 0)]] := HS2328.dzOne (i := 7) rfl dz_self (HS2328.dze (i := 7) rfl) g2329 g2330
                  refine Q_gval rfl rfl rfl rfl rfl rfl (fun wq hq => O_loadC rfl rfl flat3 ((HS2332.keep hq).cells_rdc (i := 6) rfl) (dz_cell (D := D_coin) (f := fun x => .int .i64 x.w) 0 co_w ((HS2332.keep hq).dze (i := 7) rfl) g2329 g2330)) ?_
                  refine Q_gval rfl rfl rfl rfl rfl rfl (fun wq hq => O_le rfl rfl rfl) ?_
                  refine Q_gval rfl rfl rfl rfl rfl rfl (fun wq hq => O_pickT rfl rfl rfl) ?_
                  refine Q_know (i := 31) rfl (congrArg Value.bool (Option.some.inj H)) ?_
                  exact Q_grpE (fun a ha => Is.cons ha (Is.cons ha (Is.cons ha (Is.cons ha (Is.cons ha (Is.cons ha (Is.cons ha (Is.cons ha (Is.cons (i := 21) (v := .bool (decide (0 < (l2267.length : Int)))) ha (Is.nil ha) (congrArg some (dec_t c2324).symm)) rfl) rfl) rfl) rfl) rfl) rfl) rfl) rfl)
                · refine Q_know (i := 21) rfl (dec_f c2324) ?_
                  have H := of_neg Hb2320 c2324
                  refine Q_gskip rfl rfl rfl rfl rfl rfl rfl ?_
                  refine Q_gskip rfl rfl rfl rfl rfl rfl rfl ?_
                  refine Q_gskip rfl rfl rfl rfl rfl rfl rfl ?_
                  refine Q_gskip rfl rfl rfl rfl rfl rfl rfl ?_
                  refine Q_gskip rfl rfl rfl rfl rfl rfl rfl ?_
                  refine Q_gskip rfl rfl rfl rfl rfl rfl rfl ?_
                  refine Q_gskip rfl rfl rfl rfl rfl rfl rfl ?_
                  refine Q_gskip rfl rfl rfl rfl rfl rfl rfl ?_
                  refine Q_gskip rfl rfl rfl rfl rfl rfl rfl ?_
                  refine Q_gval rfl rfl rfl rfl rfl rfl (fun wq hq => O_pickF rfl rfl rfl) ?_
                  refine Q_know (i := 31) rfl (congrArg Value.bool (Option.some.inj H)) ?_
                  exact Q_grpE (fun a ha => Is.cons ha (Is.cons ha (Is.cons ha (Is.cons ha (Is.cons ha (Is.cons ha (Is.cons ha (Is.cons ha (Is.cons (i := 21) (v := .bool (decide (0 < (l2267.length : Int)))) ha (Is.nil ha) (congrArg some (dec_f c2324).symm)) rfl) rfl) rfl) rfl) rfl) rfl) rfl) rfl)
              · skip
                refine Q_val rfl rfl rfl (fun wq hq => O_pickF rfl rfl rfl) ?_
                refine Q_know (i := 32) rfl (congrArg Value.bool (Option.some.inj H)) ?_
                exact Q_grpE (fun a ha => Is.cons ha (Is.cons ha (Is.cons ha (Is.cons ha (Is.nil ha) rfl) rfl) rfl) rfl)
          · skip
            refine Q_nil (fun w2333 hw2334 => ?_)
            have HS2335 := HS2279.keep hw2334
            obtain ⟨yj2336, Hyj2336, H⟩ := of_bind H
            refine L_join (fun a w => ∃ (l2464 : List Co), ∃ (l2469 : List Co), ∃ (l2474 : List Co), ∃ (A2460 : Option Addr), ∃ (c2461 : Nat), ∃ (ds2462 : List DC), ∃ (B2463 : Nat → Prop), ∃ (A2465 : Option Addr), ∃ (c2466 : Nat), ∃ (ds2467 : List DC), ∃ (B2468 : Nat → Prop), ∃ (A2470 : Option Addr), ∃ (c2471 : Nat), ∃ (ds2472 : List DC), ∃ (B2473 : Nat → Prop), yj2336 = (l2464, l2469, l2474) ∧ Is Try.f50.ntmps a [(0, .slice A2460 l2464.length c2461), (1, .slice A2465 l2469.length c2466), (5, .slice A2470 l2474.length c2471)] ∧ Hp S0 w0 w [.rd A_leaves_0 (rowC E_coin ds_leaves_0), Dz D_coin (orB (orB S0 B_leaves_0) B_made_1) w0.heap.size B_leaves_0 ds_leaves_0 l_leaves_0, .rd A_made_1 (rowC E_coin ds_made_1), Dz D_coin (orB (orB S0 B_leaves_0) B_made_1) w0.heap.size B_made_1 ds_made_1 l_made_1, Rdc l2464.length c2461 A2460 (rowC E_coin ds2462), Dz D_coin (orB (orB S0 B_leaves_0) B_made_1) w0.heap.size B2463 ds2462 l2464, Rdc l2469.length c2466 A2465 (rowC E_coin ds2467), Dz D_coin (orB (orB S0 B_leaves_0) B_made_1) w0.heap.size B2468 ds2467 l2469, .own A2470 c2471 (rowC E_coin ds2472) 69 E_coin.sz, Dz D_coin (orB (orB S0 B_leaves_0) B_made_1) w0.heap.size B2473 ds2472 l2474]) (fun Qj2336 hNj2336 hOj2336 => ?_) (fun a w hR => ?_)
            · skip
              have H := Hyj2336
              refine L_cond rfl (fun c2475 => ?_) (fun c2475 => ?_)
              · have H := of_pos H c2475
                obtain ⟨⟨g2476, g2477⟩, H⟩ := of_gd H
                have HS2479 : Hp S0 w0 w2333 [.rd A_leaves_0 (rowC E_coin ds_leaves_0), Dz D_coin (orB (orB S0 B_leaves_0) B_made_1) w0.heap.size B_leaves_0 ds_leaves_0 l_leaves_0, .rd A_made_1 (rowC E_coin ds_made_1), Dz D_coin (orB (orB S0 B_leaves_0) B_made_1) w0.heap.size B_made_1 ds_made_1 l_made_1, Rdc l2267.length c2264 A2263 (rowC E_coin ds2265), Dz D_coin (orB (orB S0 B_leaves_0) B_made_1) w0.heap.size B2266 ds2265 l2267, Rdc l2272.length c2269 A2268 (rowC E_coin ds2270), Dz D_coin (orB (orB S0 B_leaves_0) B_made_1) w0.heap.size B2271 ds2270 l2272, .own A2273 c2274 (rowC E_coin ds2275) 69 E_coin.sz, Dz D_coin (orB (orB S0 B_leaves_0) B_made_1) w0.heap.size B2276 ds2275 l2277, Dz D_coin (orB (orB S0 B_leaves_0) B_made_1) w0.heap.size B2266 [(rdx E_coin ds2265 0)] [(rdp (Co.leaf 0 0) l2267 0)]] := HS2335.dzOne (i := 5) rfl dz_self (HS2335.dze (i := 5) rfl) g2476 g2477
                refine L_heldS 10 0 [] mix rfl (fun w2498 hw2499 => ?_)
                have HS2500 := HS2479.keep hw2499
                refine ⟨HS2500.turns [8], ?_⟩
                have HR2501 : Hp (HS2500.ft [8]) w2498 w2498 [.own A2273 c2274 (rowC E_coin ds2275) 69 E_coin.sz, .rd A_leaves_0 (rowC E_coin ds_leaves_0), Dz D_coin anyB 0 B_leaves_0 ds_leaves_0 l_leaves_0, .rd A_made_1 (rowC E_coin ds_made_1), Dz D_coin anyB 0 B_made_1 ds_made_1 l_made_1, .rd A2263 (rowC E_coin ds2265), Dz D_coin anyB 0 B2266 ds2265 l2267, .rd A2268 (rowC E_coin ds2270), Dz D_coin anyB 0 B2271 ds2270 l2272, Dz D_coin anyB 0 B2276 ds2275 l2277, Dz D_coin anyB 0 B2266 [(rdx E_coin ds2265 0)] [(rdp (Co.leaf 0 0) l2267 0)]] := HS2500.give [8] rfl (Lent.rd HS2500 (Lent.dz HS2500 (Lent.rd HS2500 (Lent.dz HS2500 (Lent.rdc HS2500 (Lent.dz HS2500 (Lent.rdc HS2500 (Lent.dz HS2500 (Lent.dz HS2500 (Lent.dz HS2500 (Lent.nil) (i := 10) rfl dz_self (HS2500.dze (i := 10) rfl)) (i := 9) rfl dz_self (HS2500.dze (i := 9) rfl)) (i := 7) rfl dz_self (HS2500.dze (i := 7) rfl)) (i := 6) rfl (HS2500.cells_rdc (i := 6) rfl).self) (i := 5) rfl dz_self (HS2500.dze (i := 5) rfl)) (i := 4) rfl (HS2500.cells_rdc (i := 4) rfl).self) (i := 3) rfl dz_self (HS2500.dze (i := 3) rfl)) (i := 2) rfl (HS2500.cells_rd (i := 2) rfl).self) (i := 1) rfl dz_self (HS2500.dze (i := 1) rfl)) (i := 0) rfl (HS2500.cells_rd (i := 0) rfl).self)
                have hSF2502 : ∀ b, HS2500.ft [8] b → (orB (orB (orB (orB (orB (orB (HS2500.ft [8]) B_leaves_0) B_made_1) B2266) B2271) B2276) B2266) b ∨ w2498.heap.size ≤ b := fun b hb => .inl (.inl (.inl (.inl (.inl (.inl (.inl hb))))))
                have HS2503 : Hp (HS2500.ft [8]) w2498 w2498 [.own A2273 c2274 (rowC E_coin ds2275) 69 E_coin.sz, .rd A_leaves_0 (rowC E_coin ds_leaves_0), Dz D_coin (orB (orB (orB (orB (orB (orB (HS2500.ft [8]) B_leaves_0) B_made_1) B2266) B2271) B2276) B2266) w2498.heap.size B_leaves_0 ds_leaves_0 l_leaves_0, .rd A_made_1 (rowC E_coin ds_made_1), Dz D_coin anyB 0 B_made_1 ds_made_1 l_made_1, .rd A2263 (rowC E_coin ds2265), Dz D_coin anyB 0 B2266 ds2265 l2267, .rd A2268 (rowC E_coin ds2270), Dz D_coin anyB 0 B2271 ds2270 l2272, Dz D_coin anyB 0 B2276 ds2275 l2277, Dz D_coin anyB 0 B2266 [(rdx E_coin ds2265 0)] [(rdp (Co.leaf 0 0) l2267 0)]] := HR2501.dzProv (i := 2) rfl (fun b _ hb => .inl (.inl (.inl (.inl (.inl (.inl (.inr hb)))))))
                have HS2504 : Hp (HS2500.ft [8]) w2498 w2498 [.own A2273 c2274 (rowC E_coin ds2275) 69 E_coin.sz, .rd A_leaves_0 (rowC E_coin ds_leaves_0), Dz D_coin (orB (orB (orB (orB (orB (orB (HS2500.ft [8]) B_leaves_0) B_made_1) B2266) B2271) B2276) B2266) w2498.heap.size B_leaves_0 ds_leaves_0 l_leaves_0, .rd A_made_1 (rowC E_coin ds_made_1), Dz D_coin (orB (orB (orB (orB (orB (orB (HS2500.ft [8]) B_leaves_0) B_made_1) B2266) B2271) B2276) B2266) w2498.heap.size B_made_1 ds_made_1 l_made_1, .rd A2263 (rowC E_coin ds2265), Dz D_coin anyB 0 B2266 ds2265 l2267, .rd A2268 (rowC E_coin ds2270), Dz D_coin anyB 0 B2271 ds2270 l2272, Dz D_coin anyB 0 B2276 ds2275 l2277, Dz D_coin anyB 0 B2266 [(rdx E_coin ds2265 0)] [(rdp (Co.leaf 0 0) l2267 0)]] := HS2503.dzProv (i := 4) rfl (fun b _ hb => .inl (.inl (.inl (.inl (.inl (.inr hb))))))
                have HS2505 : Hp (HS2500.ft [8]) w2498 w2498 [.own A2273 c2274 (rowC E_coin ds2275) 69 E_coin.sz, .rd A_leaves_0 (rowC E_coin ds_leaves_0), Dz D_coin (orB (orB (orB (orB (orB (orB (HS2500.ft [8]) B_leaves_0) B_made_1) B2266) B2271) B2276) B2266) w2498.heap.size B_leaves_0 ds_leaves_0 l_leaves_0, .rd A_made_1 (rowC E_coin ds_made_1), Dz D_coin (orB (orB (orB (orB (orB (orB (HS2500.ft [8]) B_leaves_0) B_made_1) B2266) B2271) B2276) B2266) w2498.heap.size B_made_1 ds_made_1 l_made_1, .rd A2263 (rowC E_coin ds2265), Dz D_coin (orB (orB (orB (orB (orB (orB (HS2500.ft [8]) B_leaves_0) B_made_1) B2266) B2271) B2276) B2266) w2498.heap.size B2266 ds2265 l2267, .rd A2268 (rowC E_coin ds2270), Dz D_coin anyB 0 B2271 ds2270 l2272, Dz D_coin anyB 0 B2276 ds2275 l2277, Dz D_coin anyB 0 B2266 [(rdx E_coin ds2265 0)] [(rdp (Co.leaf 0 0) l2267 0)]] := HS2504.dzProv (i := 6) rfl (fun b _ hb => .inl (.inl (.inl (.inl (.inr hb)))))
                have HS2506 : Hp (HS2500.ft [8]) w2498 w2498 [.own A2273 c2274 (rowC E_coin ds2275) 69 E_coin.sz, .rd A_leaves_0 (rowC E_coin ds_leaves_0), Dz D_coin (orB (orB (orB (orB (orB (orB (HS2500.ft [8]) B_leaves_0) B_made_1) B2266) B2271) B2276) B2266) w2498.heap.size B_leaves_0 ds_leaves_0 l_leaves_0, .rd A_made_1 (rowC E_coin ds_made_1), Dz D_coin (orB (orB (orB (orB (orB (orB (HS2500.ft [8]) B_leaves_0) B_made_1) B2266) B2271) B2276) B2266) w2498.heap.size B_made_1 ds_made_1 l_made_1, .rd A2263 (rowC E_coin ds2265), Dz D_coin (orB (orB (orB (orB (orB (orB (HS2500.ft [8]) B_leaves_0) B_made_1) B2266) B2271) B2276) B2266) w2498.heap.size B2266 ds2265 l2267, .rd A2268 (rowC E_coin ds2270), Dz D_coin (orB (orB (orB (orB (orB (orB (HS2500.ft [8]) B_leaves_0) B_made_1) B2266) B2271) B2276) B2266) w2498.heap.size B2271 ds2270 l2272, Dz D_coin anyB 0 B2276 ds2275 l2277, Dz D_coin anyB 0 B2266 [(rdx E_coin ds2265 0)] [(rdp (Co.leaf 0 0) l2267 0)]] := HS2505.dzProv (i := 8) rfl (fun b _ hb => .inl (.inl (.inl (.inr hb))))
                have HS2507 : Hp (HS2500.ft [8]) w2498 w2498 [.own A2273 c2274 (rowC E_coin ds2275) 69 E_coin.sz, .rd A_leaves_0 (rowC E_coin ds_leaves_0), Dz D_coin (orB (orB (orB (orB (orB (orB (HS2500.ft [8]) B_leaves_0) B_made_1) B2266) B2271) B2276) B2266) w2498.heap.size B_leaves_0 ds_leaves_0 l_leaves_0, .rd A_made_1 (rowC E_coin ds_made_1), Dz D_coin (orB (orB (orB (orB (orB (orB (HS2500.ft [8]) B_leaves_0) B_made_1) B2266) B2271) B2276) B2266) w2498.heap.size B_made_1 ds_made_1 l_made_1, .rd A2263 (rowC E_coin ds2265), Dz D_coin (orB (orB (orB (orB (orB (orB (HS2500.ft [8]) B_leaves_0) B_made_1) B2266) B2271) B2276) B2266) w2498.heap.size B2266 ds2265 l2267, .rd A2268 (rowC E_coin ds2270), Dz D_coin (orB (orB (orB (orB (orB (orB (HS2500.ft [8]) B_leaves_0) B_made_1) B2266) B2271) B2276) B2266) w2498.heap.size B2271 ds2270 l2272, Dz D_coin (orB (orB (orB (orB (orB (orB (HS2500.ft [8]) B_leaves_0) B_made_1) B2266) B2271) B2276) B2266) w2498.heap.size B2276 ds2275 l2277, Dz D_coin anyB 0 B2266 [(rdx E_coin ds2265 0)] [(rdp (Co.leaf 0 0) l2267 0)]] := HS2506.dzProv (i := 9) rfl (fun b _ hb => .inl (.inl (.inr hb)))
                have HS2508 : Hp (HS2500.ft [8]) w2498 w2498 [.own A2273 c2274 (rowC E_coin ds2275) 69 E_coin.sz, .rd A_leaves_0 (rowC E_coin ds_leaves_0), Dz D_coin (orB (orB (orB (orB (orB (orB (HS2500.ft [8]) B_leaves_0) B_made_1) B2266) B2271) B2276) B2266) w2498.heap.size B_leaves_0 ds_leaves_0 l_leaves_0, .rd A_made_1 (rowC E_coin ds_made_1), Dz D_coin (orB (orB (orB (orB (orB (orB (HS2500.ft [8]) B_leaves_0) B_made_1) B2266) B2271) B2276) B2266) w2498.heap.size B_made_1 ds_made_1 l_made_1, .rd A2263 (rowC E_coin ds2265), Dz D_coin (orB (orB (orB (orB (orB (orB (HS2500.ft [8]) B_leaves_0) B_made_1) B2266) B2271) B2276) B2266) w2498.heap.size B2266 ds2265 l2267, .rd A2268 (rowC E_coin ds2270), Dz D_coin (orB (orB (orB (orB (orB (orB (HS2500.ft [8]) B_leaves_0) B_made_1) B2266) B2271) B2276) B2266) w2498.heap.size B2271 ds2270 l2272, Dz D_coin (orB (orB (orB (orB (orB (orB (HS2500.ft [8]) B_leaves_0) B_made_1) B2266) B2271) B2276) B2266) w2498.heap.size B2276 ds2275 l2277, Dz D_coin (orB (orB (orB (orB (orB (orB (HS2500.ft [8]) B_leaves_0) B_made_1) B2266) B2271) B2276) B2266) w2498.heap.size B2266 [(rdx E_coin ds2265 0)] [(rdp (Co.leaf 0 0) l2267 0)]] := HS2507.dzProv (i := 10) rfl (fun b _ hb => .inl (.inr hb))
                refine H_val (i := 0) rfl (by kernel_rfl) (by kernel_rfl) (by kernel_rfl) (by kernel_rfl) rfl rfl rfl HS2508.chg (fun wq hq => O_move rfl rfl) ?_
                refine H_val (i := 1) rfl (by kernel_rfl) (by kernel_rfl) (by kernel_rfl) (by kernel_rfl) rfl rfl rfl HS2508.chg (fun wq hq => O_move rfl rfl) ?_
                refine H_val (i := 2) rfl (by kernel_rfl) (by kernel_rfl) (by kernel_rfl) (by kernel_rfl) rfl rfl rfl HS2508.chg (fun wq hq => O_idx rfl rfl rfl Try.underlying66 size69 g2476 g2477 (Cells.isA ((HS2500.keepT [8] hq).cells_rdc (i := 4) rfl) (dz_ne (D := D_coin) ((HS2500.keepT [8] hq).dze (i := 5) rfl) g2476 g2477 (by decide)))) ?_
                refine H_val (i := 3) rfl (by kernel_rfl) (by kernel_rfl) (by kernel_rfl) (by kernel_rfl) rfl rfl rfl HS2508.chg (fun wq hq => O_loadElD (D := D_coin) rfl rfl wide69 ((HS2500.keepT [8] hq).cells_rdc (i := 4) rfl) ((HS2500.keepT [8] hq).dze (i := 5) rfl) g2476 g2477 (by decide)) ?_
                refine H_val (i := 6) rfl (by kernel_rfl) (by kernel_rfl) (by kernel_rfl) (by kernel_rfl) rfl rfl rfl HS2508.chg (fun wq hq => O_move rfl rfl) ?_
                obtain ⟨⟨g2510, g2511⟩, H⟩ := of_gd H
                refine H_val (i := 7) rfl (by kernel_rfl) (by kernel_rfl) (by kernel_rfl) (by kernel_rfl) rfl rfl rfl HS2508.chg (fun wq hq => O_frmD (E := E_coin) rfl rfl rfl Try.underlying66 size69 g2510 g2511) ?_
                refine H_one (i := 4) rfl (by kernel_rfl) (by kernel_rfl) ?_
                refine F_litE (E := E_coin) (e := 69) [(0, .agg (E_coin.enc (rdx E_coin ds2265 0)).toArray)] [(rdx E_coin ds2265 0)] rfl rfl rfl rfl rfl rfl rfl (by decide) (fun w => by kernel_rfl) HS2508 (fun w2512 A2514 c2515 HS2513 => ?_)
                have HS2513 : Hp (HS2500.ft [8]) w2498 w2512 [.own A2273 c2274 (rowC E_coin ds2275) 69 E_coin.sz, .rd A_leaves_0 (rowC E_coin ds_leaves_0), Dz D_coin (orB (orB (orB (orB (orB (orB (HS2500.ft [8]) B_leaves_0) B_made_1) B2266) B2271) B2276) B2266) w2498.heap.size B_leaves_0 ds_leaves_0 l_leaves_0, .rd A_made_1 (rowC E_coin ds_made_1), Dz D_coin (orB (orB (orB (orB (orB (orB (HS2500.ft [8]) B_leaves_0) B_made_1) B2266) B2271) B2276) B2266) w2498.heap.size B_made_1 ds_made_1 l_made_1, .rd A2263 (rowC E_coin ds2265), Dz D_coin (orB (orB (orB (orB (orB (orB (HS2500.ft [8]) B_leaves_0) B_made_1) B2266) B2271) B2276) B2266) w2498.heap.size B2266 ds2265 l2267, .rd A2268 (rowC E_coin ds2270), Dz D_coin (orB (orB (orB (orB (orB (orB (HS2500.ft [8]) B_leaves_0) B_made_1) B2266) B2271) B2276) B2266) w2498.heap.size B2271 ds2270 l2272, Dz D_coin (orB (orB (orB (orB (orB (orB (HS2500.ft [8]) B_leaves_0) B_made_1) B2266) B2271) B2276) B2266) w2498.heap.size B2276 ds2275 l2277, Dz D_coin (orB (orB (orB (orB (orB (orB (HS2500.ft [8]) B_leaves_0) B_made_1) B2266) B2271) B2276) B2266) w2498.heap.size B2266 [(rdx E_coin ds2265 0)] [(rdp (Co.leaf 0 0) l2267 0)], .own A2514 c2515 (rowC E_coin [(rdx E_coin ds2265 0)]) 69 E_coin.sz] := HS2513
                have HS2518 : Hp (HS2500.ft [8]) w2498 w2512 [.own A2273 c2274 (rowC E_coin ds2275) 69 E_coin.sz, .rd A_leaves_0 (rowC E_coin ds_leaves_0), Dz D_coin (orB (orB (orB (orB (orB (orB (HS2500.ft [8]) B_leaves_0) B_made_1) B2266) B2271) B2276) B2266) w2498.heap.size B_leaves_0 ds_leaves_0 l_leaves_0, .rd A_made_1 (rowC E_coin ds_made_1), Dz D_coin (orB (orB (orB (orB (orB (orB (HS2500.ft [8]) B_leaves_0) B_made_1) B2266) B2271) B2276) B2266) w2498.heap.size B_made_1 ds_made_1 l_made_1, .rd A2263 (rowC E_coin ds2265), Dz D_coin (orB (orB (orB (orB (orB (orB (HS2500.ft [8]) B_leaves_0) B_made_1) B2266) B2271) B2276) B2266) w2498.heap.size B2266 ds2265 l2267, .rd A2268 (rowC E_coin ds2270), Dz D_coin (orB (orB (orB (orB (orB (orB (HS2500.ft [8]) B_leaves_0) B_made_1) B2266) B2271) B2276) B2266) w2498.heap.size B2271 ds2270 l2272, Dz D_coin (orB (orB (orB (orB (orB (orB (HS2500.ft [8]) B_leaves_0) B_made_1) B2266) B2271) B2276) B2266) w2498.heap.size B2276 ds2275 l2277, Dz D_coin (orB (orB (orB (orB (orB (orB (HS2500.ft [8]) B_leaves_0) B_made_1) B2266) B2271) B2276) B2266) w2498.heap.size B2266 [(rdx E_coin ds2265 0)] [(rdp (Co.leaf 0 0) l2267 0)], .own A2514 c2515 (rowC E_coin [(rdx E_coin ds2265 0)]) 69 E_coin.sz, Dz D_coin (orB (orB (orB (orB (orB (orB (HS2500.ft [8]) B_leaves_0) B_made_1) B2266) B2271) B2276) B2266) w2498.heap.size B2266 [(rdx E_coin ds2265 0)] [(rdp (Co.leaf 0 0) l2267 0)]] := HS2513.dzSub (i := 10) rfl dz_self (HS2513.dze (i := 10) rfl)
                refine H_next HS2518.chg ?_
                refine H_one (i := 5) rfl (by kernel_rfl) (by kernel_rfl) ?_
                obtain ⟨l2521, h2522, H⟩ := of_bnd H
                obtain ⟨g2523, H⟩ := of_gd H
                refine F_appD (D := D_coin) (ds := ds2275) (ds' := [(rdx E_coin ds2265 0)]) (xs := l2277) (ys := [(rdp (Co.leaf 0 0) l2267 0)]) (i := 0) rfl rfl rfl rfl Try.underlying66 info69 rfl (by decide) (by decide) rfl rfl HS2518 rfl (HS2518.dze (i := 9) rfl) (HS2518.dze (i := 12) rfl) (HS2518.cells_own (i := 11) rfl) h2522 g2523 (fun w2519 A2524 c2525 HS2520 => ?_)
                have HS2520 : Hp (HS2500.ft [8]) w2498 w2519 [.own A2524 c2525 (rowC E_coin (ds2275 ++ [(rdx E_coin ds2265 0)])) 69 E_coin.sz, .rd A_leaves_0 (rowC E_coin ds_leaves_0), Dz D_coin (orB (orB (orB (orB (orB (orB (HS2500.ft [8]) B_leaves_0) B_made_1) B2266) B2271) B2276) B2266) w2498.heap.size B_leaves_0 ds_leaves_0 l_leaves_0, .rd A_made_1 (rowC E_coin ds_made_1), Dz D_coin (orB (orB (orB (orB (orB (orB (HS2500.ft [8]) B_leaves_0) B_made_1) B2266) B2271) B2276) B2266) w2498.heap.size B_made_1 ds_made_1 l_made_1, .rd A2263 (rowC E_coin ds2265), Dz D_coin (orB (orB (orB (orB (orB (orB (HS2500.ft [8]) B_leaves_0) B_made_1) B2266) B2271) B2276) B2266) w2498.heap.size B2266 ds2265 l2267, .rd A2268 (rowC E_coin ds2270), Dz D_coin (orB (orB (orB (orB (orB (orB (HS2500.ft [8]) B_leaves_0) B_made_1) B2266) B2271) B2276) B2266) w2498.heap.size B2271 ds2270 l2272, Dz D_coin (orB (orB (orB (orB (orB (orB (HS2500.ft [8]) B_leaves_0) B_made_1) B2266) B2271) B2276) B2266) w2498.heap.size B2276 ds2275 l2277, Dz D_coin (orB (orB (orB (orB (orB (orB (HS2500.ft [8]) B_leaves_0) B_made_1) B2266) B2271) B2276) B2266) w2498.heap.size B2266 [(rdx E_coin ds2265 0)] [(rdp (Co.leaf 0 0) l2267 0)], .own A2514 c2515 (rowC E_coin [(rdx E_coin ds2265 0)]) 69 E_coin.sz, Dz D_coin (orB (orB (orB (orB (orB (orB (HS2500.ft [8]) B_leaves_0) B_made_1) B2266) B2271) B2276) B2266) w2498.heap.size B2266 [(rdx E_coin ds2265 0)] [(rdp (Co.leaf 0 0) l2267 0)]] := HS2520
                have HS2526 : Hp (HS2500.ft [8]) w2498 w2519 [.own A2524 c2525 (rowC E_coin (ds2275 ++ [(rdx E_coin ds2265 0)])) 69 E_coin.sz, .rd A_leaves_0 (rowC E_coin ds_leaves_0), Dz D_coin (orB (orB (orB (orB (orB (orB (HS2500.ft [8]) B_leaves_0) B_made_1) B2266) B2271) B2276) B2266) w2498.heap.size B_leaves_0 ds_leaves_0 l_leaves_0, .rd A_made_1 (rowC E_coin ds_made_1), Dz D_coin (orB (orB (orB (orB (orB (orB (HS2500.ft [8]) B_leaves_0) B_made_1) B2266) B2271) B2276) B2266) w2498.heap.size B_made_1 ds_made_1 l_made_1, .rd A2263 (rowC E_coin ds2265), Dz D_coin (orB (orB (orB (orB (orB (orB (HS2500.ft [8]) B_leaves_0) B_made_1) B2266) B2271) B2276) B2266) w2498.heap.size B2266 ds2265 l2267, .rd A2268 (rowC E_coin ds2270), Dz D_coin (orB (orB (orB (orB (orB (orB (HS2500.ft [8]) B_leaves_0) B_made_1) B2266) B2271) B2276) B2266) w2498.heap.size B2271 ds2270 l2272, Dz D_coin (orB (orB (orB (orB (orB (orB (HS2500.ft [8]) B_leaves_0) B_made_1) B2266) B2271) B2276) B2266) w2498.heap.size (orB B2276 B2266) (ds2275 ++ [(rdx E_coin ds2265 0)]) l2521, Dz D_coin (orB (orB (orB (orB (orB (orB (HS2500.ft [8]) B_leaves_0) B_made_1) B2266) B2271) B2276) B2266) w2498.heap.size B2266 [(rdx E_coin ds2265 0)] [(rdp (Co.leaf 0 0) l2267 0)], .own A2514 c2515 (rowC E_coin [(rdx E_coin ds2265 0)]) 69 E_coin.sz, Dz D_coin (orB (orB (orB (orB (orB (orB (HS2500.ft [8]) B_leaves_0) B_made_1) B2266) B2271) B2276) B2266) w2498.heap.size B2266 [(rdx E_coin ds2265 0)] [(rdp (Co.leaf 0 0) l2267 0)]] := HS2520.dzApp (i := 9) (j := 12) rfl rfl h2522
                refine H_next HS2526.chg ?_
                refine H_val (i := 8) rfl (by kernel_rfl) (by kernel_rfl) (by kernel_rfl) (by kernel_rfl) rfl rfl rfl HS2526.chg (fun wq hq => O_assign rfl rfl) ?_
                refine H_val (i := 9) rfl (by kernel_rfl) (by kernel_rfl) (by kernel_rfl) (by kernel_rfl) rfl rfl rfl HS2526.chg (fun wq hq => O_assign rfl rfl) ?_
                refine H_end (by kernel_rfl) ?_
                have HS2528 := HS2526.sel [0, 11, 9, 12] rfl
                have HS2527 : Hp S0 w0 w2519 [.rd A_leaves_0 (rowC E_coin ds_leaves_0), Dz D_coin (orB (orB S0 B_leaves_0) B_made_1) w0.heap.size B_leaves_0 ds_leaves_0 l_leaves_0, .rd A_made_1 (rowC E_coin ds_made_1), Dz D_coin (orB (orB S0 B_leaves_0) B_made_1) w0.heap.size B_made_1 ds_made_1 l_made_1, Rdc l2267.length c2264 A2263 (rowC E_coin ds2265), Dz D_coin (orB (orB S0 B_leaves_0) B_made_1) w0.heap.size B2266 ds2265 l2267, Rdc l2272.length c2269 A2268 (rowC E_coin ds2270), Dz D_coin (orB (orB S0 B_leaves_0) B_made_1) w0.heap.size B2271 ds2270 l2272, .own A2524 c2525 (rowC E_coin (ds2275 ++ [(rdx E_coin ds2265 0)])) 69 E_coin.sz, Dz D_coin (orB (orB S0 B_leaves_0) B_made_1) w0.heap.size (orB B2276 B2266) (ds2275 ++ [(rdx E_coin ds2265 0)]) l2521, Dz D_coin (orB (orB S0 B_leaves_0) B_made_1) w0.heap.size B2266 [(rdx E_coin ds2265 0)] [(rdp (Co.leaf 0 0) l2267 0)], .own A2514 c2515 (rowC E_coin [(rdx E_coin ds2265 0)]) 69 E_coin.sz, Dz D_coin (orB (orB S0 B_leaves_0) B_made_1) w0.heap.size B2266 [(rdx E_coin ds2265 0)] [(rdp (Co.leaf 0 0) l2267 0)]] := (((HS2500.backD [8] HS2528 (Pv.backG (Pv.own (Pv.own (Pv.per (HS2528.dz (i := 2) rfl).1 (Pv.per (HS2528.dz (i := 3) rfl).1 Pv.nil)))) (fun b => (fun hb => Or.elim hb (fun hb => Or.elim hb (fun hb => Or.elim hb (fun hb => Or.elim hb (fun hb => Or.elim hb (fun hb => Or.elim hb (fun hb => .inl hb) (fun hb => .inr ⟨_, _, nth_mem (i := 1) rfl, hb⟩)) (fun hb => .inr ⟨_, _, nth_mem (i := 3) rfl, hb⟩)) (fun hb => .inr ⟨_, _, nth_mem (i := 5) rfl, hb⟩)) (fun hb => .inr ⟨_, _, nth_mem (i := 7) rfl, hb⟩)) (fun hb => .inr ⟨_, _, nth_mem (i := 9) rfl, hb⟩)) (fun hb => .inr ⟨_, _, nth_mem (i := 10) rfl, hb⟩))))).sel [0, 1, 2, 3, 4, 5, 6, 7, 11, 13, 10, 12, 14] rfl).dzProv (i := 9) rfl (fun b hb _ => Or.elim hb (fun hb => Or.elim hb (fun hb => Or.elim hb (fun hb => Or.elim hb (fun hb => Or.elim hb (fun hb => Or.elim hb (fun hb => Or.elim hb (fun hb => (HS2500.mine _ (feet_pick_le hb)).elim (hSF _) .inr) (fun hb => (HS2500.dz (i := 1) rfl).1 _ hb)) (fun hb => (HS2500.dz (i := 3) rfl).1 _ hb)) (fun hb => (HS2500.dz (i := 5) rfl).1 _ hb)) (fun hb => (HS2500.dz (i := 7) rfl).1 _ hb)) (fun hb => (HS2500.dz (i := 9) rfl).1 _ hb)) (fun hb => (HS2500.dz (i := 10) rfl).1 _ hb)) (fun h => .inr (Nat.le_trans HS2500.chg.size h)))).dzProv (i := 12) rfl (fun b hb _ => Or.elim hb (fun hb => Or.elim hb (fun hb => Or.elim hb (fun hb => Or.elim hb (fun hb => Or.elim hb (fun hb => Or.elim hb (fun hb => Or.elim hb (fun hb => (HS2500.mine _ (feet_pick_le hb)).elim (hSF _) .inr) (fun hb => (HS2500.dz (i := 1) rfl).1 _ hb)) (fun hb => (HS2500.dz (i := 3) rfl).1 _ hb)) (fun hb => (HS2500.dz (i := 5) rfl).1 _ hb)) (fun hb => (HS2500.dz (i := 7) rfl).1 _ hb)) (fun hb => (HS2500.dz (i := 9) rfl).1 _ hb)) (fun hb => (HS2500.dz (i := 10) rfl).1 _ hb)) (fun h => .inr (Nat.le_trans HS2500.chg.size h)))
                refine T_done (by kernel_rfl) ?_
                have HS2530 : Hp S0 w0 w2519 [.rd A_leaves_0 (rowC E_coin ds_leaves_0), Dz D_coin (orB (orB S0 B_leaves_0) B_made_1) w0.heap.size B_leaves_0 ds_leaves_0 l_leaves_0, .rd A_made_1 (rowC E_coin ds_made_1), Dz D_coin (orB (orB S0 B_leaves_0) B_made_1) w0.heap.size B_made_1 ds_made_1 l_made_1, Rdc l2267.length c2264 A2263 (rowC E_coin ds2265), Dz D_coin (orB (orB S0 B_leaves_0) B_made_1) w0.heap.size B2266 ds2265 l2267, Rdc l2272.length c2269 A2268 (rowC E_coin ds2270), Dz D_coin (orB (orB S0 B_leaves_0) B_made_1) w0.heap.size B2271 ds2270 l2272, .own A2524 c2525 (rowC E_coin (ds2275 ++ [(rdx E_coin ds2265 0)])) 69 E_coin.sz, Dz D_coin (orB (orB S0 B_leaves_0) B_made_1) w0.heap.size (orB B2276 B2266) (ds2275 ++ [(rdx E_coin ds2265 0)]) l2521, Dz D_coin (orB (orB S0 B_leaves_0) B_made_1) w0.heap.size B2266 [(rdx E_coin ds2265 0)] [(rdp (Co.leaf 0 0) l2267 0)], .own A2514 c2515 (rowC E_coin [(rdx E_coin ds2265 0)]) 69 E_coin.sz, Dz D_coin (orB (orB S0 B_leaves_0) B_made_1) w0.heap.size B2266 [(rdx E_coin ds2265 0)] [(rdp (Co.leaf 0 0) l2267 0)], Rdc (l2267.drop (1 : Int).toNat).length (c2264 - (1 : Int).toNat) (frmA A2263 c2264 (1 : Int).toNat E_coin.sz) (rowC E_coin (ds2265.drop (1 : Int).toNat))] := HS2527.rdcSub (i := 4) rfl (Sub.trans (HS2527.cells_rdc (i := 4) rfl).self (sub_frm (l := (1 : Int).toNat) (HS2527.cells_rdc (i := 4) rfl) (dz_cap (HS2527.dze (i := 5) rfl) (HS2527.rdc_cap (i := 4) rfl)))) (drop_cap (HS2527.rdc_cap (i := 4) rfl))
                have HS2532 : Hp S0 w0 w2519 [.rd A_leaves_0 (rowC E_coin ds_leaves_0), Dz D_coin (orB (orB S0 B_leaves_0) B_made_1) w0.heap.size B_leaves_0 ds_leaves_0 l_leaves_0, .rd A_made_1 (rowC E_coin ds_made_1), Dz D_coin (orB (orB S0 B_leaves_0) B_made_1) w0.heap.size B_made_1 ds_made_1 l_made_1, Rdc l2267.length c2264 A2263 (rowC E_coin ds2265), Dz D_coin (orB (orB S0 B_leaves_0) B_made_1) w0.heap.size B2266 ds2265 l2267, Rdc l2272.length c2269 A2268 (rowC E_coin ds2270), Dz D_coin (orB (orB S0 B_leaves_0) B_made_1) w0.heap.size B2271 ds2270 l2272, .own A2524 c2525 (rowC E_coin (ds2275 ++ [(rdx E_coin ds2265 0)])) 69 E_coin.sz, Dz D_coin (orB (orB S0 B_leaves_0) B_made_1) w0.heap.size (orB B2276 B2266) (ds2275 ++ [(rdx E_coin ds2265 0)]) l2521, Dz D_coin (orB (orB S0 B_leaves_0) B_made_1) w0.heap.size B2266 [(rdx E_coin ds2265 0)] [(rdp (Co.leaf 0 0) l2267 0)], .own A2514 c2515 (rowC E_coin [(rdx E_coin ds2265 0)]) 69 E_coin.sz, Dz D_coin (orB (orB S0 B_leaves_0) B_made_1) w0.heap.size B2266 [(rdx E_coin ds2265 0)] [(rdp (Co.leaf 0 0) l2267 0)], Rdc (l2267.drop (1 : Int).toNat).length (c2264 - (1 : Int).toNat) (frmA A2263 c2264 (1 : Int).toNat E_coin.sz) (rowC E_coin (ds2265.drop (1 : Int).toNat)), Dz D_coin (orB (orB S0 B_leaves_0) B_made_1) w0.heap.size B2266 (ds2265.drop (1 : Int).toNat) (l2267.drop (1 : Int).toNat)] := HS2530.dzSub (i := 5) rfl (dz_dropT dz_self (1 : Int).toNat) (dze_drop (1 : Int).toNat (HS2527.dze (i := 5) rfl))
                refine L_nil (fun a ha => hNj2336 a _ ⟨_, _, _, _, _, _, _, _, _, _, _, _, _, _, _, (Option.some.inj H).symm, Is.cons ha (Is.cons ha (Is.cons ha (Is.nil ha) rfl) rfl) rfl, HS2532.sel [0, 1, 2, 3, 13, 14, 6, 7, 8, 9] rfl⟩)
              · have H := of_neg H (by rw [c2475]; exact Bool.false_ne_true)
                obtain ⟨⟨g2533, g2534⟩, H⟩ := of_gd H
                have HS2536 : Hp S0 w0 w2333 [.rd A_leaves_0 (rowC E_coin ds_leaves_0), Dz D_coin (orB (orB S0 B_leaves_0) B_made_1) w0.heap.size B_leaves_0 ds_leaves_0 l_leaves_0, .rd A_made_1 (rowC E_coin ds_made_1), Dz D_coin (orB (orB S0 B_leaves_0) B_made_1) w0.heap.size B_made_1 ds_made_1 l_made_1, Rdc l2267.length c2264 A2263 (rowC E_coin ds2265), Dz D_coin (orB (orB S0 B_leaves_0) B_made_1) w0.heap.size B2266 ds2265 l2267, Rdc l2272.length c2269 A2268 (rowC E_coin ds2270), Dz D_coin (orB (orB S0 B_leaves_0) B_made_1) w0.heap.size B2271 ds2270 l2272, .own A2273 c2274 (rowC E_coin ds2275) 69 E_coin.sz, Dz D_coin (orB (orB S0 B_leaves_0) B_made_1) w0.heap.size B2276 ds2275 l2277, Dz D_coin (orB (orB S0 B_leaves_0) B_made_1) w0.heap.size B2271 [(rdx E_coin ds2270 0)] [(rdp (Co.leaf 0 0) l2272 0)]] := HS2335.dzOne (i := 7) rfl dz_self (HS2335.dze (i := 7) rfl) g2533 g2534
                refine L_heldS 10 0 [] mix rfl (fun w2555 hw2556 => ?_)
                have HS2557 := HS2536.keep hw2556
                refine ⟨HS2557.turns [8], ?_⟩
                have HR2558 : Hp (HS2557.ft [8]) w2555 w2555 [.own A2273 c2274 (rowC E_coin ds2275) 69 E_coin.sz, .rd A_leaves_0 (rowC E_coin ds_leaves_0), Dz D_coin anyB 0 B_leaves_0 ds_leaves_0 l_leaves_0, .rd A_made_1 (rowC E_coin ds_made_1), Dz D_coin anyB 0 B_made_1 ds_made_1 l_made_1, .rd A2263 (rowC E_coin ds2265), Dz D_coin anyB 0 B2266 ds2265 l2267, .rd A2268 (rowC E_coin ds2270), Dz D_coin anyB 0 B2271 ds2270 l2272, Dz D_coin anyB 0 B2276 ds2275 l2277, Dz D_coin anyB 0 B2271 [(rdx E_coin ds2270 0)] [(rdp (Co.leaf 0 0) l2272 0)]] := HS2557.give [8] rfl (Lent.rd HS2557 (Lent.dz HS2557 (Lent.rd HS2557 (Lent.dz HS2557 (Lent.rdc HS2557 (Lent.dz HS2557 (Lent.rdc HS2557 (Lent.dz HS2557 (Lent.dz HS2557 (Lent.dz HS2557 (Lent.nil) (i := 10) rfl dz_self (HS2557.dze (i := 10) rfl)) (i := 9) rfl dz_self (HS2557.dze (i := 9) rfl)) (i := 7) rfl dz_self (HS2557.dze (i := 7) rfl)) (i := 6) rfl (HS2557.cells_rdc (i := 6) rfl).self) (i := 5) rfl dz_self (HS2557.dze (i := 5) rfl)) (i := 4) rfl (HS2557.cells_rdc (i := 4) rfl).self) (i := 3) rfl dz_self (HS2557.dze (i := 3) rfl)) (i := 2) rfl (HS2557.cells_rd (i := 2) rfl).self) (i := 1) rfl dz_self (HS2557.dze (i := 1) rfl)) (i := 0) rfl (HS2557.cells_rd (i := 0) rfl).self)
                have hSF2559 : ∀ b, HS2557.ft [8] b → (orB (orB (orB (orB (orB (orB (HS2557.ft [8]) B_leaves_0) B_made_1) B2266) B2271) B2276) B2271) b ∨ w2555.heap.size ≤ b := fun b hb => .inl (.inl (.inl (.inl (.inl (.inl (.inl hb))))))
                have HS2560 : Hp (HS2557.ft [8]) w2555 w2555 [.own A2273 c2274 (rowC E_coin ds2275) 69 E_coin.sz, .rd A_leaves_0 (rowC E_coin ds_leaves_0), Dz D_coin (orB (orB (orB (orB (orB (orB (HS2557.ft [8]) B_leaves_0) B_made_1) B2266) B2271) B2276) B2271) w2555.heap.size B_leaves_0 ds_leaves_0 l_leaves_0, .rd A_made_1 (rowC E_coin ds_made_1), Dz D_coin anyB 0 B_made_1 ds_made_1 l_made_1, .rd A2263 (rowC E_coin ds2265), Dz D_coin anyB 0 B2266 ds2265 l2267, .rd A2268 (rowC E_coin ds2270), Dz D_coin anyB 0 B2271 ds2270 l2272, Dz D_coin anyB 0 B2276 ds2275 l2277, Dz D_coin anyB 0 B2271 [(rdx E_coin ds2270 0)] [(rdp (Co.leaf 0 0) l2272 0)]] := HR2558.dzProv (i := 2) rfl (fun b _ hb => .inl (.inl (.inl (.inl (.inl (.inl (.inr hb)))))))
                have HS2561 : Hp (HS2557.ft [8]) w2555 w2555 [.own A2273 c2274 (rowC E_coin ds2275) 69 E_coin.sz, .rd A_leaves_0 (rowC E_coin ds_leaves_0), Dz D_coin (orB (orB (orB (orB (orB (orB (HS2557.ft [8]) B_leaves_0) B_made_1) B2266) B2271) B2276) B2271) w2555.heap.size B_leaves_0 ds_leaves_0 l_leaves_0, .rd A_made_1 (rowC E_coin ds_made_1), Dz D_coin (orB (orB (orB (orB (orB (orB (HS2557.ft [8]) B_leaves_0) B_made_1) B2266) B2271) B2276) B2271) w2555.heap.size B_made_1 ds_made_1 l_made_1, .rd A2263 (rowC E_coin ds2265), Dz D_coin anyB 0 B2266 ds2265 l2267, .rd A2268 (rowC E_coin ds2270), Dz D_coin anyB 0 B2271 ds2270 l2272, Dz D_coin anyB 0 B2276 ds2275 l2277, Dz D_coin anyB 0 B2271 [(rdx E_coin ds2270 0)] [(rdp (Co.leaf 0 0) l2272 0)]] := HS2560.dzProv (i := 4) rfl (fun b _ hb => .inl (.inl (.inl (.inl (.inl (.inr hb))))))
                have HS2562 : Hp (HS2557.ft [8]) w2555 w2555 [.own A2273 c2274 (rowC E_coin ds2275) 69 E_coin.sz, .rd A_leaves_0 (rowC E_coin ds_leaves_0), Dz D_coin (orB (orB (orB (orB (orB (orB (HS2557.ft [8]) B_leaves_0) B_made_1) B2266) B2271) B2276) B2271) w2555.heap.size B_leaves_0 ds_leaves_0 l_leaves_0, .rd A_made_1 (rowC E_coin ds_made_1), Dz D_coin (orB (orB (orB (orB (orB (orB (HS2557.ft [8]) B_leaves_0) B_made_1) B2266) B2271) B2276) B2271) w2555.heap.size B_made_1 ds_made_1 l_made_1, .rd A2263 (rowC E_coin ds2265), Dz D_coin (orB (orB (orB (orB (orB (orB (HS2557.ft [8]) B_leaves_0) B_made_1) B2266) B2271) B2276) B2271) w2555.heap.size B2266 ds2265 l2267, .rd A2268 (rowC E_coin ds2270), Dz D_coin anyB 0 B2271 ds2270 l2272, Dz D_coin anyB 0 B2276 ds2275 l2277, Dz D_coin anyB 0 B2271 [(rdx E_coin ds2270 0)] [(rdp (Co.leaf 0 0) l2272 0)]] := HS2561.dzProv (i := 6) rfl (fun b _ hb => .inl (.inl (.inl (.inl (.inr hb)))))
                have HS2563 : Hp (HS2557.ft [8]) w2555 w2555 [.own A2273 c2274 (rowC E_coin ds2275) 69 E_coin.sz, .rd A_leaves_0 (rowC E_coin ds_leaves_0), Dz D_coin (orB (orB (orB (orB (orB (orB (HS2557.ft [8]) B_leaves_0) B_made_1) B2266) B2271) B2276) B2271) w2555.heap.size B_leaves_0 ds_leaves_0 l_leaves_0, .rd A_made_1 (rowC E_coin ds_made_1), Dz D_coin (orB (orB (orB (orB (orB (orB (HS2557.ft [8]) B_leaves_0) B_made_1) B2266) B2271) B2276) B2271) w2555.heap.size B_made_1 ds_made_1 l_made_1, .rd A2263 (rowC E_coin ds2265), Dz D_coin (orB (orB (orB (orB (orB (orB (HS2557.ft [8]) B_leaves_0) B_made_1) B2266) B2271) B2276) B2271) w2555.heap.size B2266 ds2265 l2267, .rd A2268 (rowC E_coin ds2270), Dz D_coin (orB (orB (orB (orB (orB (orB (HS2557.ft [8]) B_leaves_0) B_made_1) B2266) B2271) B2276) B2271) w2555.heap.size B2271 ds2270 l2272, Dz D_coin anyB 0 B2276 ds2275 l2277, Dz D_coin anyB 0 B2271 [(rdx E_coin ds2270 0)] [(rdp (Co.leaf 0 0) l2272 0)]] := HS2562.dzProv (i := 8) rfl (fun b _ hb => .inl (.inl (.inl (.inr hb))))
                have HS2564 : Hp (HS2557.ft [8]) w2555 w2555 [.own A2273 c2274 (rowC E_coin ds2275) 69 E_coin.sz, .rd A_leaves_0 (rowC E_coin ds_leaves_0), Dz D_coin (orB (orB (orB (orB (orB (orB (HS2557.ft [8]) B_leaves_0) B_made_1) B2266) B2271) B2276) B2271) w2555.heap.size B_leaves_0 ds_leaves_0 l_leaves_0, .rd A_made_1 (rowC E_coin ds_made_1), Dz D_coin (orB (orB (orB (orB (orB (orB (HS2557.ft [8]) B_leaves_0) B_made_1) B2266) B2271) B2276) B2271) w2555.heap.size B_made_1 ds_made_1 l_made_1, .rd A2263 (rowC E_coin ds2265), Dz D_coin (orB (orB (orB (orB (orB (orB (HS2557.ft [8]) B_leaves_0) B_made_1) B2266) B2271) B2276) B2271) w2555.heap.size B2266 ds2265 l2267, .rd A2268 (rowC E_coin ds2270), Dz D_coin (orB (orB (orB (orB (orB (orB (HS2557.ft [8]) B_leaves_0) B_made_1) B2266) B2271) B2276) B2271) w2555.heap.size B2271 ds2270 l2272, Dz D_coin (orB (orB (orB (orB (orB (orB (HS2557.ft [8]) B_leaves_0) B_made_1) B2266) B2271) B2276) B2271) w2555.heap.size B2276 ds2275 l2277, Dz D_coin anyB 0 B2271 [(rdx E_coin ds2270 0)] [(rdp (Co.leaf 0 0) l2272 0)]] := HS2563.dzProv (i := 9) rfl (fun b _ hb => .inl (.inl (.inr hb)))
                have HS2565 : Hp (HS2557.ft [8]) w2555 w2555 [.own A2273 c2274 (rowC E_coin ds2275) 69 E_coin.sz, .rd A_leaves_0 (rowC E_coin ds_leaves_0), Dz D_coin (orB (orB (orB (orB (orB (orB (HS2557.ft [8]) B_leaves_0) B_made_1) B2266) B2271) B2276) B2271) w2555.heap.size B_leaves_0 ds_leaves_0 l_leaves_0, .rd A_made_1 (rowC E_coin ds_made_1), Dz D_coin (orB (orB (orB (orB (orB (orB (HS2557.ft [8]) B_leaves_0) B_made_1) B2266) B2271) B2276) B2271) w2555.heap.size B_made_1 ds_made_1 l_made_1, .rd A2263 (rowC E_coin ds2265), Dz D_coin (orB (orB (orB (orB (orB (orB (HS2557.ft [8]) B_leaves_0) B_made_1) B2266) B2271) B2276) B2271) w2555.heap.size B2266 ds2265 l2267, .rd A2268 (rowC E_coin ds2270), Dz D_coin (orB (orB (orB (orB (orB (orB (HS2557.ft [8]) B_leaves_0) B_made_1) B2266) B2271) B2276) B2271) w2555.heap.size B2271 ds2270 l2272, Dz D_coin (orB (orB (orB (orB (orB (orB (HS2557.ft [8]) B_leaves_0) B_made_1) B2266) B2271) B2276) B2271) w2555.heap.size B2276 ds2275 l2277, Dz D_coin (orB (orB (orB (orB (orB (orB (HS2557.ft [8]) B_leaves_0) B_made_1) B2266) B2271) B2276) B2271) w2555.heap.size B2271 [(rdx E_coin ds2270 0)] [(rdp (Co.leaf 0 0) l2272 0)]] := HS2564.dzProv (i := 10) rfl (fun b _ hb => .inl (.inr hb))
                refine H_val (i := 0) rfl (by kernel_rfl) (by kernel_rfl) (by kernel_rfl) (by kernel_rfl) rfl rfl rfl HS2565.chg (fun wq hq => O_move rfl rfl) ?_
                refine H_val (i := 1) rfl (by kernel_rfl) (by kernel_rfl) (by kernel_rfl) (by kernel_rfl) rfl rfl rfl HS2565.chg (fun wq hq => O_move rfl rfl) ?_
                refine H_val (i := 2) rfl (by kernel_rfl) (by kernel_rfl) (by kernel_rfl) (by kernel_rfl) rfl rfl rfl HS2565.chg (fun wq hq => O_idx rfl rfl rfl Try.underlying66 size69 g2533 g2534 (Cells.isA ((HS2557.keepT [8] hq).cells_rdc (i := 6) rfl) (dz_ne (D := D_coin) ((HS2557.keepT [8] hq).dze (i := 7) rfl) g2533 g2534 (by decide)))) ?_
                refine H_val (i := 3) rfl (by kernel_rfl) (by kernel_rfl) (by kernel_rfl) (by kernel_rfl) rfl rfl rfl HS2565.chg (fun wq hq => O_loadElD (D := D_coin) rfl rfl wide69 ((HS2557.keepT [8] hq).cells_rdc (i := 6) rfl) ((HS2557.keepT [8] hq).dze (i := 7) rfl) g2533 g2534 (by decide)) ?_
                refine H_val (i := 6) rfl (by kernel_rfl) (by kernel_rfl) (by kernel_rfl) (by kernel_rfl) rfl rfl rfl HS2565.chg (fun wq hq => O_move rfl rfl) ?_
                obtain ⟨⟨g2567, g2568⟩, H⟩ := of_gd H
                refine H_val (i := 7) rfl (by kernel_rfl) (by kernel_rfl) (by kernel_rfl) (by kernel_rfl) rfl rfl rfl HS2565.chg (fun wq hq => O_frmD (E := E_coin) rfl rfl rfl Try.underlying66 size69 g2567 g2568) ?_
                refine H_one (i := 4) rfl (by kernel_rfl) (by kernel_rfl) ?_
                refine F_litE (E := E_coin) (e := 69) [(0, .agg (E_coin.enc (rdx E_coin ds2270 0)).toArray)] [(rdx E_coin ds2270 0)] rfl rfl rfl rfl rfl rfl rfl (by decide) (fun w => by kernel_rfl) HS2565 (fun w2569 A2571 c2572 HS2570 => ?_)
                have HS2570 : Hp (HS2557.ft [8]) w2555 w2569 [.own A2273 c2274 (rowC E_coin ds2275) 69 E_coin.sz, .rd A_leaves_0 (rowC E_coin ds_leaves_0), Dz D_coin (orB (orB (orB (orB (orB (orB (HS2557.ft [8]) B_leaves_0) B_made_1) B2266) B2271) B2276) B2271) w2555.heap.size B_leaves_0 ds_leaves_0 l_leaves_0, .rd A_made_1 (rowC E_coin ds_made_1), Dz D_coin (orB (orB (orB (orB (orB (orB (HS2557.ft [8]) B_leaves_0) B_made_1) B2266) B2271) B2276) B2271) w2555.heap.size B_made_1 ds_made_1 l_made_1, .rd A2263 (rowC E_coin ds2265), Dz D_coin (orB (orB (orB (orB (orB (orB (HS2557.ft [8]) B_leaves_0) B_made_1) B2266) B2271) B2276) B2271) w2555.heap.size B2266 ds2265 l2267, .rd A2268 (rowC E_coin ds2270), Dz D_coin (orB (orB (orB (orB (orB (orB (HS2557.ft [8]) B_leaves_0) B_made_1) B2266) B2271) B2276) B2271) w2555.heap.size B2271 ds2270 l2272, Dz D_coin (orB (orB (orB (orB (orB (orB (HS2557.ft [8]) B_leaves_0) B_made_1) B2266) B2271) B2276) B2271) w2555.heap.size B2276 ds2275 l2277, Dz D_coin (orB (orB (orB (orB (orB (orB (HS2557.ft [8]) B_leaves_0) B_made_1) B2266) B2271) B2276) B2271) w2555.heap.size B2271 [(rdx E_coin ds2270 0)] [(rdp (Co.leaf 0 0) l2272 0)], .own A2571 c2572 (rowC E_coin [(rdx E_coin ds2270 0)]) 69 E_coin.sz] := HS2570
                have HS2575 : Hp (HS2557.ft [8]) w2555 w2569 [.own A2273 c2274 (rowC E_coin ds2275) 69 E_coin.sz, .rd A_leaves_0 (rowC E_coin ds_leaves_0), Dz D_coin (orB (orB (orB (orB (orB (orB (HS2557.ft [8]) B_leaves_0) B_made_1) B2266) B2271) B2276) B2271) w2555.heap.size B_leaves_0 ds_leaves_0 l_leaves_0, .rd A_made_1 (rowC E_coin ds_made_1), Dz D_coin (orB (orB (orB (orB (orB (orB (HS2557.ft [8]) B_leaves_0) B_made_1) B2266) B2271) B2276) B2271) w2555.heap.size B_made_1 ds_made_1 l_made_1, .rd A2263 (rowC E_coin ds2265), Dz D_coin (orB (orB (orB (orB (orB (orB (HS2557.ft [8]) B_leaves_0) B_made_1) B2266) B2271) B2276) B2271) w2555.heap.size B2266 ds2265 l2267, .rd A2268 (rowC E_coin ds2270), Dz D_coin (orB (orB (orB (orB (orB (orB (HS2557.ft [8]) B_leaves_0) B_made_1) B2266) B2271) B2276) B2271) w2555.heap.size B2271 ds2270 l2272, Dz D_coin (orB (orB (orB (orB (orB (orB (HS2557.ft [8]) B_leaves_0) B_made_1) B2266) B2271) B2276) B2271) w2555.heap.size B2276 ds2275 l2277, Dz D_coin (orB (orB (orB (orB (orB (orB (HS2557.ft [8]) B_leaves_0) B_made_1) B2266) B2271) B2276) B2271) w2555.heap.size B2271 [(rdx E_coin ds2270 0)] [(rdp (Co.leaf 0 0) l2272 0)], .own A2571 c2572 (rowC E_coin [(rdx E_coin ds2270 0)]) 69 E_coin.sz, Dz D_coin (orB (orB (orB (orB (orB (orB (HS2557.ft [8]) B_leaves_0) B_made_1) B2266) B2271) B2276) B2271) w2555.heap.size B2271 [(rdx E_coin ds2270 0)] [(rdp (Co.leaf 0 0) l2272 0)]] := HS2570.dzSub (i := 10) rfl dz_self (HS2570.dze (i := 10) rfl)
                refine H_next HS2575.chg ?_
                refine H_one (i := 5) rfl (by kernel_rfl) (by kernel_rfl) ?_
                obtain ⟨l2578, h2579, H⟩ := of_bnd H
                obtain ⟨g2580, H⟩ := of_gd H
                refine F_appD (D := D_coin) (ds := ds2275) (ds' := [(rdx E_coin ds2270 0)]) (xs := l2277) (ys := [(rdp (Co.leaf 0 0) l2272 0)]) (i := 0) rfl rfl rfl rfl Try.underlying66 info69 rfl (by decide) (by decide) rfl rfl HS2575 rfl (HS2575.dze (i := 9) rfl) (HS2575.dze (i := 12) rfl) (HS2575.cells_own (i := 11) rfl) h2579 g2580 (fun w2576 A2581 c2582 HS2577 => ?_)
                have HS2577 : Hp (HS2557.ft [8]) w2555 w2576 [.own A2581 c2582 (rowC E_coin (ds2275 ++ [(rdx E_coin ds2270 0)])) 69 E_coin.sz, .rd A_leaves_0 (rowC E_coin ds_leaves_0), Dz D_coin (orB (orB (orB (orB (orB (orB (HS2557.ft [8]) B_leaves_0) B_made_1) B2266) B2271) B2276) B2271) w2555.heap.size B_leaves_0 ds_leaves_0 l_leaves_0, .rd A_made_1 (rowC E_coin ds_made_1), Dz D_coin (orB (orB (orB (orB (orB (orB (HS2557.ft [8]) B_leaves_0) B_made_1) B2266) B2271) B2276) B2271) w2555.heap.size B_made_1 ds_made_1 l_made_1, .rd A2263 (rowC E_coin ds2265), Dz D_coin (orB (orB (orB (orB (orB (orB (HS2557.ft [8]) B_leaves_0) B_made_1) B2266) B2271) B2276) B2271) w2555.heap.size B2266 ds2265 l2267, .rd A2268 (rowC E_coin ds2270), Dz D_coin (orB (orB (orB (orB (orB (orB (HS2557.ft [8]) B_leaves_0) B_made_1) B2266) B2271) B2276) B2271) w2555.heap.size B2271 ds2270 l2272, Dz D_coin (orB (orB (orB (orB (orB (orB (HS2557.ft [8]) B_leaves_0) B_made_1) B2266) B2271) B2276) B2271) w2555.heap.size B2276 ds2275 l2277, Dz D_coin (orB (orB (orB (orB (orB (orB (HS2557.ft [8]) B_leaves_0) B_made_1) B2266) B2271) B2276) B2271) w2555.heap.size B2271 [(rdx E_coin ds2270 0)] [(rdp (Co.leaf 0 0) l2272 0)], .own A2571 c2572 (rowC E_coin [(rdx E_coin ds2270 0)]) 69 E_coin.sz, Dz D_coin (orB (orB (orB (orB (orB (orB (HS2557.ft [8]) B_leaves_0) B_made_1) B2266) B2271) B2276) B2271) w2555.heap.size B2271 [(rdx E_coin ds2270 0)] [(rdp (Co.leaf 0 0) l2272 0)]] := HS2577
                have HS2583 : Hp (HS2557.ft [8]) w2555 w2576 [.own A2581 c2582 (rowC E_coin (ds2275 ++ [(rdx E_coin ds2270 0)])) 69 E_coin.sz, .rd A_leaves_0 (rowC E_coin ds_leaves_0), Dz D_coin (orB (orB (orB (orB (orB (orB (HS2557.ft [8]) B_leaves_0) B_made_1) B2266) B2271) B2276) B2271) w2555.heap.size B_leaves_0 ds_leaves_0 l_leaves_0, .rd A_made_1 (rowC E_coin ds_made_1), Dz D_coin (orB (orB (orB (orB (orB (orB (HS2557.ft [8]) B_leaves_0) B_made_1) B2266) B2271) B2276) B2271) w2555.heap.size B_made_1 ds_made_1 l_made_1, .rd A2263 (rowC E_coin ds2265), Dz D_coin (orB (orB (orB (orB (orB (orB (HS2557.ft [8]) B_leaves_0) B_made_1) B2266) B2271) B2276) B2271) w2555.heap.size B2266 ds2265 l2267, .rd A2268 (rowC E_coin ds2270), Dz D_coin (orB (orB (orB (orB (orB (orB (HS2557.ft [8]) B_leaves_0) B_made_1) B2266) B2271) B2276) B2271) w2555.heap.size B2271 ds2270 l2272, Dz D_coin (orB (orB (orB (orB (orB (orB (HS2557.ft [8]) B_leaves_0) B_made_1) B2266) B2271) B2276) B2271) w2555.heap.size (orB B2276 B2271) (ds2275 ++ [(rdx E_coin ds2270 0)]) l2578, Dz D_coin (orB (orB (orB (orB (orB (orB (HS2557.ft [8]) B_leaves_0) B_made_1) B2266) B2271) B2276) B2271) w2555.heap.size B2271 [(rdx E_coin ds2270 0)] [(rdp (Co.leaf 0 0) l2272 0)], .own A2571 c2572 (rowC E_coin [(rdx E_coin ds2270 0)]) 69 E_coin.sz, Dz D_coin (orB (orB (orB (orB (orB (orB (HS2557.ft [8]) B_leaves_0) B_made_1) B2266) B2271) B2276) B2271) w2555.heap.size B2271 [(rdx E_coin ds2270 0)] [(rdp (Co.leaf 0 0) l2272 0)]] := HS2577.dzApp (i := 9) (j := 12) rfl rfl h2579
                refine H_next HS2583.chg ?_
                refine H_val (i := 8) rfl (by kernel_rfl) (by kernel_rfl) (by kernel_rfl) (by kernel_rfl) rfl rfl rfl HS2583.chg (fun wq hq => O_assign rfl rfl) ?_
                refine H_val (i := 9) rfl (by kernel_rfl) (by kernel_rfl) (by kernel_rfl) (by kernel_rfl) rfl rfl rfl HS2583.chg (fun wq hq => O_assign rfl rfl) ?_
                refine H_end (by kernel_rfl) ?_
                have HS2585 := HS2583.sel [0, 11, 9, 12] rfl
                have HS2584 : Hp S0 w0 w2576 [.rd A_leaves_0 (rowC E_coin ds_leaves_0), Dz D_coin (orB (orB S0 B_leaves_0) B_made_1) w0.heap.size B_leaves_0 ds_leaves_0 l_leaves_0, .rd A_made_1 (rowC E_coin ds_made_1), Dz D_coin (orB (orB S0 B_leaves_0) B_made_1) w0.heap.size B_made_1 ds_made_1 l_made_1, Rdc l2267.length c2264 A2263 (rowC E_coin ds2265), Dz D_coin (orB (orB S0 B_leaves_0) B_made_1) w0.heap.size B2266 ds2265 l2267, Rdc l2272.length c2269 A2268 (rowC E_coin ds2270), Dz D_coin (orB (orB S0 B_leaves_0) B_made_1) w0.heap.size B2271 ds2270 l2272, .own A2581 c2582 (rowC E_coin (ds2275 ++ [(rdx E_coin ds2270 0)])) 69 E_coin.sz, Dz D_coin (orB (orB S0 B_leaves_0) B_made_1) w0.heap.size (orB B2276 B2271) (ds2275 ++ [(rdx E_coin ds2270 0)]) l2578, Dz D_coin (orB (orB S0 B_leaves_0) B_made_1) w0.heap.size B2271 [(rdx E_coin ds2270 0)] [(rdp (Co.leaf 0 0) l2272 0)], .own A2571 c2572 (rowC E_coin [(rdx E_coin ds2270 0)]) 69 E_coin.sz, Dz D_coin (orB (orB S0 B_leaves_0) B_made_1) w0.heap.size B2271 [(rdx E_coin ds2270 0)] [(rdp (Co.leaf 0 0) l2272 0)]] := (((HS2557.backD [8] HS2585 (Pv.backG (Pv.own (Pv.own (Pv.per (HS2585.dz (i := 2) rfl).1 (Pv.per (HS2585.dz (i := 3) rfl).1 Pv.nil)))) (fun b => (fun hb => Or.elim hb (fun hb => Or.elim hb (fun hb => Or.elim hb (fun hb => Or.elim hb (fun hb => Or.elim hb (fun hb => Or.elim hb (fun hb => .inl hb) (fun hb => .inr ⟨_, _, nth_mem (i := 1) rfl, hb⟩)) (fun hb => .inr ⟨_, _, nth_mem (i := 3) rfl, hb⟩)) (fun hb => .inr ⟨_, _, nth_mem (i := 5) rfl, hb⟩)) (fun hb => .inr ⟨_, _, nth_mem (i := 7) rfl, hb⟩)) (fun hb => .inr ⟨_, _, nth_mem (i := 9) rfl, hb⟩)) (fun hb => .inr ⟨_, _, nth_mem (i := 10) rfl, hb⟩))))).sel [0, 1, 2, 3, 4, 5, 6, 7, 11, 13, 10, 12, 14] rfl).dzProv (i := 9) rfl (fun b hb _ => Or.elim hb (fun hb => Or.elim hb (fun hb => Or.elim hb (fun hb => Or.elim hb (fun hb => Or.elim hb (fun hb => Or.elim hb (fun hb => Or.elim hb (fun hb => (HS2557.mine _ (feet_pick_le hb)).elim (hSF _) .inr) (fun hb => (HS2557.dz (i := 1) rfl).1 _ hb)) (fun hb => (HS2557.dz (i := 3) rfl).1 _ hb)) (fun hb => (HS2557.dz (i := 5) rfl).1 _ hb)) (fun hb => (HS2557.dz (i := 7) rfl).1 _ hb)) (fun hb => (HS2557.dz (i := 9) rfl).1 _ hb)) (fun hb => (HS2557.dz (i := 10) rfl).1 _ hb)) (fun h => .inr (Nat.le_trans HS2557.chg.size h)))).dzProv (i := 12) rfl (fun b hb _ => Or.elim hb (fun hb => Or.elim hb (fun hb => Or.elim hb (fun hb => Or.elim hb (fun hb => Or.elim hb (fun hb => Or.elim hb (fun hb => Or.elim hb (fun hb => (HS2557.mine _ (feet_pick_le hb)).elim (hSF _) .inr) (fun hb => (HS2557.dz (i := 1) rfl).1 _ hb)) (fun hb => (HS2557.dz (i := 3) rfl).1 _ hb)) (fun hb => (HS2557.dz (i := 5) rfl).1 _ hb)) (fun hb => (HS2557.dz (i := 7) rfl).1 _ hb)) (fun hb => (HS2557.dz (i := 9) rfl).1 _ hb)) (fun hb => (HS2557.dz (i := 10) rfl).1 _ hb)) (fun h => .inr (Nat.le_trans HS2557.chg.size h)))
                refine T_done (by kernel_rfl) ?_
                have HS2587 : Hp S0 w0 w2576 [.rd A_leaves_0 (rowC E_coin ds_leaves_0), Dz D_coin (orB (orB S0 B_leaves_0) B_made_1) w0.heap.size B_leaves_0 ds_leaves_0 l_leaves_0, .rd A_made_1 (rowC E_coin ds_made_1), Dz D_coin (orB (orB S0 B_leaves_0) B_made_1) w0.heap.size B_made_1 ds_made_1 l_made_1, Rdc l2267.length c2264 A2263 (rowC E_coin ds2265), Dz D_coin (orB (orB S0 B_leaves_0) B_made_1) w0.heap.size B2266 ds2265 l2267, Rdc l2272.length c2269 A2268 (rowC E_coin ds2270), Dz D_coin (orB (orB S0 B_leaves_0) B_made_1) w0.heap.size B2271 ds2270 l2272, .own A2581 c2582 (rowC E_coin (ds2275 ++ [(rdx E_coin ds2270 0)])) 69 E_coin.sz, Dz D_coin (orB (orB S0 B_leaves_0) B_made_1) w0.heap.size (orB B2276 B2271) (ds2275 ++ [(rdx E_coin ds2270 0)]) l2578, Dz D_coin (orB (orB S0 B_leaves_0) B_made_1) w0.heap.size B2271 [(rdx E_coin ds2270 0)] [(rdp (Co.leaf 0 0) l2272 0)], .own A2571 c2572 (rowC E_coin [(rdx E_coin ds2270 0)]) 69 E_coin.sz, Dz D_coin (orB (orB S0 B_leaves_0) B_made_1) w0.heap.size B2271 [(rdx E_coin ds2270 0)] [(rdp (Co.leaf 0 0) l2272 0)], Rdc (l2272.drop (1 : Int).toNat).length (c2269 - (1 : Int).toNat) (frmA A2268 c2269 (1 : Int).toNat E_coin.sz) (rowC E_coin (ds2270.drop (1 : Int).toNat))] := HS2584.rdcSub (i := 6) rfl (Sub.trans (HS2584.cells_rdc (i := 6) rfl).self (sub_frm (l := (1 : Int).toNat) (HS2584.cells_rdc (i := 6) rfl) (dz_cap (HS2584.dze (i := 7) rfl) (HS2584.rdc_cap (i := 6) rfl)))) (drop_cap (HS2584.rdc_cap (i := 6) rfl))
                have HS2589 : Hp S0 w0 w2576 [.rd A_leaves_0 (rowC E_coin ds_leaves_0), Dz D_coin (orB (orB S0 B_leaves_0) B_made_1) w0.heap.size B_leaves_0 ds_leaves_0 l_leaves_0, .rd A_made_1 (rowC E_coin ds_made_1), Dz D_coin (orB (orB S0 B_leaves_0) B_made_1) w0.heap.size B_made_1 ds_made_1 l_made_1, Rdc l2267.length c2264 A2263 (rowC E_coin ds2265), Dz D_coin (orB (orB S0 B_leaves_0) B_made_1) w0.heap.size B2266 ds2265 l2267, Rdc l2272.length c2269 A2268 (rowC E_coin ds2270), Dz D_coin (orB (orB S0 B_leaves_0) B_made_1) w0.heap.size B2271 ds2270 l2272, .own A2581 c2582 (rowC E_coin (ds2275 ++ [(rdx E_coin ds2270 0)])) 69 E_coin.sz, Dz D_coin (orB (orB S0 B_leaves_0) B_made_1) w0.heap.size (orB B2276 B2271) (ds2275 ++ [(rdx E_coin ds2270 0)]) l2578, Dz D_coin (orB (orB S0 B_leaves_0) B_made_1) w0.heap.size B2271 [(rdx E_coin ds2270 0)] [(rdp (Co.leaf 0 0) l2272 0)], .own A2571 c2572 (rowC E_coin [(rdx E_coin ds2270 0)]) 69 E_coin.sz, Dz D_coin (orB (orB S0 B_leaves_0) B_made_1) w0.heap.size B2271 [(rdx E_coin ds2270 0)] [(rdp (Co.leaf 0 0) l2272 0)], Rdc (l2272.drop (1 : Int).toNat).length (c2269 - (1 : Int).toNat) (frmA A2268 c2269 (1 : Int).toNat E_coin.sz) (rowC E_coin (ds2270.drop (1 : Int).toNat)), Dz D_coin (orB (orB S0 B_leaves_0) B_made_1) w0.heap.size B2271 (ds2270.drop (1 : Int).toNat) (l2272.drop (1 : Int).toNat)] := HS2587.dzSub (i := 7) rfl (dz_dropT dz_self (1 : Int).toNat) (dze_drop (1 : Int).toNat (HS2584.dze (i := 7) rfl))
                refine L_nil (fun a ha => hNj2336 a _ ⟨_, _, _, _, _, _, _, _, _, _, _, _, _, _, _, (Option.some.inj H).symm, Is.cons ha (Is.cons ha (Is.cons ha (Is.nil ha) rfl) rfl) rfl, HS2589.sel [0, 1, 2, 3, 4, 5, 13, 14, 8, 9] rfl⟩)
            · obtain ⟨l2464, l2469, l2474, A2460, c2461, ds2462, B2463, A2465, c2466, ds2467, B2468, A2470, c2471, ds2472, B2473, rfl, ha, HS2591⟩ := hR
              refine wpLF_app ?_ ha
              refine L_endB hN2285 ?_
              refine L_nil (fun a ha => hNp2262 _ a _ (Nat.lt_succ_self _) ⟨_, _, _, _, _, _, _, _, _, _, _, _, _, _, _, Is.cons ha (Is.cons ha (Is.cons ha (Is.nil ha) rfl) rfl) rfl, HS2591.sel [0, 1, 2, 3, 4, 5, 6, 7, 8, 9] rfl, H⟩)
        · have H := of_neg H c2284
          refine L_exitB (fun a w h => hOp2262 (.exit 0) a w rfl (hXb1302 a w h)) ?_
          refine L_nil (fun a ha => hNj6 a _ ⟨_, _, _, _, _, (Option.some.inj H).symm, Is.cons ha (Is.nil ha) rfl, HS2279.sel [0, 1, 2, 3, 8, 9] rfl⟩)
  · obtain ⟨l1301, A1297, c1298, ds1299, B1300, ej, ha, HS2593⟩ := hR
    obtain rfl := ej.symm
    refine wpLF_app ?_ ha
    refine L_seq ?_
    refine L_region ?_
    refine F_val rfl rfl rfl (O_move rfl rfl) ?_
    refine F_val rfl rfl rfl (O_assign rfl rfl) ?_
    refine F_nil ?_
    refine L_ret (fun a ha => (post_ret1 ha rfl rfl ?_))
    obtain rfl := Option.some.inj H
    exact ⟨_, _, _, _, rfl, HS2593.sel [4, 5] rfl⟩

/-! function 52: (valise/build.coin).into -/
theorem build_coin_into.aux : ∀ (d : DC) {S0 : Nat → Prop} {w0 : World} {A : Option Addr} {c : Nat} {B : Nat → Prop} {l r : List Int} (HS0 : Hp S0 w0 w0 [.own A c (rowC (Eint .i64) l) 3 (Eint .i64).sz, Dz D_coin anyB 0 B [d] [d.er]]) (h : build_coin_into.f d.er l = some r),
    Calls Try.prog 52 ([.agg (E_coin.enc d).toArray, .slice A l.length c] : List Value).toArray w0 (fun e w => e = .returned (.tuple #[]) ∧ Hp S0 w0 w [.own A c (rowC (Eint .i64) r) 3 (Eint .i64).sz] ∧ r.length = l.length)
  | .leaf x s, S0, w0, A, c, B, l, r, HS0, h => by
    obtain ⟨⟨g1, g2⟩, H⟩ := of_gd h
    refine calls_start Try.func52 rfl rfl ?_
    refine L_seq ?_
    refine L_region ?_
    refine F_box (C := [.int .i64 x, .int .i64 s, .pointer none]) rfl rfl rfl rfl rfl rfl HS0 (fun w1 g3 HS1 => ?_)
    refine F_nil ?_
    refine L_seq ?_
    refine L_seq ?_
    refine L_region ?_
    refine F_val rfl rfl rfl (O_fieldB rfl rfl field69_2) ?_
    refine F_val rfl rfl rfl (O_loadB rfl rfl flat67 (HS1.cells_box (i := 2) rfl) rfl) ?_
    refine F_val rfl rfl rfl (O_peq rfl rfl rfl Try.underlying67) ?_
    refine F_nil ?_
    refine L_cond rfl (fun _ => ?_) (fun hx => by cases hx)
    refine L_seq ?_
    refine L_region ?_
    refine F_val rfl rfl rfl (O_move rfl rfl) ?_
    refine F_val rfl rfl rfl (O_fieldB rfl rfl field69_1) ?_
    refine F_val rfl rfl rfl (O_loadB rfl rfl flat3 (HS1.cells_box (i := 2) rfl) rfl) ?_
    refine F_val rfl rfl rfl (O_idx rfl rfl rfl Try.underlying22 size3 g1 g2 (Cells.isA (HS1.cells_own (i := 0) rfl) (rowC_ne (E := (Eint .i64)) g1 g2 (by decide)))) ?_
    refine F_val rfl rfl rfl (O_loadC rfl rfl flat3 (HS1.cells_own (i := 0) rfl) (int_cell g1 g2)) ?_
    refine F_val rfl rfl rfl (O_add rfl rfl rfl) ?_
    refine F_val rfl rfl rfl (O_idx rfl rfl rfl Try.underlying22 size3 g1 g2 (Cells.isA (HS1.cells_own (i := 0) rfl) (rowC_ne (E := (Eint .i64)) g1 g2 (by decide)))) ?_
    refine F_setE (E := (Eint .i64)) (i := 0) (a := IntKind.i64.wrap (rd l s + 1)) (q := s) rfl rfl rfl rfl rfl rfl size3 HS1 rfl (by decide) g1 g2 rfl (fun w2 HS2 => ?_)
    refine F_nil ?_
    refine L_ret (fun a ha => (post_ret0 ha rfl ?_))
    obtain rfl := Option.some.inj H
    exact ⟨rfl, HS2.sel [0] rfl, by rw [List.length_set]⟩
  | .pack x s g a b, S0, w0, A, c, B, l, r, HS0, h => by
    obtain ⟨l1, h1, h2⟩ := of_bind h
    have hI := HS0.dz (i := 1) rfl
    have hfr := hI.2.2.1 _ (List.mem_singleton.2 rfl)
    have hbl := hI.2.2.2 _ (List.mem_singleton.2 rfl)
    have hdis := HS0.per _ _ (nth_mem (i := 1) rfl)
    have hB := (HS0.ok _ (nth_mem (i := 1) rfl)).2.1
    -- the pair, and the two of it, as pieces of their own
    have HSa := HS0.addPer (B := blk (some ⟨g, 0, none⟩) (E_coin.enc a ++ E_coin.enc b)) (I := Cells (some ⟨g, 0, none⟩) (E_coin.enc a ++ E_coin.enc b)) hfr.1.per (fun k hk => by
      obtain ⟨_, ad, e1, e2⟩ := hk
      cases e1
      exact hdis k (hbl k (.inl e2.symm)))
    have HSb := HSa.addPer (B := B) (I := DzI D_coin anyB 0 B [a] [a.er]) (Dz.mk ⟨fun _ _ => .inl trivial, rfl, fun d hd => by simp only [List.mem_singleton] at hd; subst hd; exact hfr.2.1, fun d hd k hk => by simp only [List.mem_singleton] at hd; subst hd; exact hbl k (.inr (.inl hk))⟩ hB) (fun k hk hf => HSa.per _ _ (nth_mem (i := 1) rfl) k hk hf)
    have HS1 := HSb.addPer (B := B) (I := DzI D_coin anyB 0 B [b] [b.er]) (Dz.mk ⟨fun _ _ => .inl trivial, rfl, fun d hd => by simp only [List.mem_singleton] at hd; subst hd; exact hfr.2.2, fun d hd k hk => by simp only [List.mem_singleton] at hd; subst hd; exact hbl k (.inr (.inr hk))⟩ hB) (fun k hk hf => HSb.per _ _ (nth_mem (i := 1) rfl) k hk hf)
    have HS2 : Hp S0 w0 w0 [.own A c (rowC (Eint .i64) l) 3 (Eint .i64).sz, .rd (some ⟨g, 0, none⟩) (E_coin.enc a ++ E_coin.enc b), Dz D_coin anyB 0 B [a] [a.er], Dz D_coin anyB 0 B [b] [b.er]] := HS1.sel [0, 2, 3, 4] rfl
    refine calls_start Try.func52 rfl rfl ?_
    refine L_seq ?_
    refine L_region ?_
    refine F_box (C := [.int .i64 x, .int .i64 s, .pointer (some ⟨g, 0, none⟩)]) rfl rfl rfl rfl rfl rfl HS2 (fun w1 g3 HS3 => ?_)
    refine F_nil ?_
    refine L_seq ?_
    refine L_seq ?_
    refine L_region ?_
    refine F_val rfl rfl rfl (O_fieldB rfl rfl field69_2) ?_
    refine F_val rfl rfl rfl (O_loadB rfl rfl flat67 (HS3.cells_box (i := 4) rfl) rfl) ?_
    refine F_val rfl rfl rfl (O_peq rfl rfl rfl Try.underlying67) ?_
    refine F_nil ?_
    refine L_cond rfl (fun hx => by cases hx) (fun _ => ?_)
    refine L_skip ?_
    refine L_seq ?_
    refine L_region ?_
    refine F_val rfl rfl rfl (O_fieldB rfl rfl field69_2) ?_
    refine F_val rfl rfl rfl (O_loadB rfl rfl flat67 (HS3.cells_box (i := 4) rfl) rfl) ?_
    refine F_val rfl rfl rfl (O_nilCheck rfl rfl) ?_
    refine F_val rfl rfl rfl (O_idxA rfl rfl rfl Try.underlying99 size69 (by decide) (by decide)) ?_
    refine F_val rfl rfl rfl (O_loadSg [] (E_coin.enc a) (E_coin.enc b) rfl rfl wide69 (HS3.cells_rd (i := 1) rfl) rfl rfl rfl (by decide)) ?_
    refine F_val rfl rfl rfl (O_move rfl rfl) ?_
    refine F_call (xs := [.tmp 18, .tmp 19]) rfl rfl rfl rfl Try.func52 nm52 rfl rfl ((build_coin_into.aux a (HS3.give [0] rfl (Lent.dz HS3 Lent.nil (i := 2) rfl dz_self (HS3.dze (i := 2) rfl))) h1).mono (fun e w hc => ?_))
    obtain ⟨rfl, HSo, hl1⟩ := hc
    refine ⟨.tuple #[], rfl, ?_⟩
    have HS4 : Hp S0 w0 w [.own A c (rowC (Eint .i64) l1) 3 (Eint .i64).sz, .rd (some ⟨g, 0, none⟩) (E_coin.enc a ++ E_coin.enc b), Dz D_coin anyB 0 B [a] [a.er], Dz D_coin anyB 0 B [b] [b.er], .box g3 [.int .i64 x, .int .i64 s, .pointer (some ⟨g, 0, none⟩)] 69] := (HS3.back [0] HSo rfl).sel [5, 1, 2, 3, 4] rfl
    refine F_know (i := 1) rfl (congrArg (fun n => Value.slice A n c) hl1.symm) ?_
    refine F_nil ?_
    refine L_region ?_
    refine F_val rfl rfl rfl (O_fieldB rfl rfl field69_2) ?_
    refine F_val rfl rfl rfl (O_loadB rfl rfl flat67 (HS4.cells_box (i := 4) rfl) rfl) ?_
    refine F_val rfl rfl rfl (O_nilCheck rfl rfl) ?_
    refine F_val rfl rfl rfl (O_idxA rfl rfl rfl Try.underlying99 size69 (by decide) (by decide)) ?_
    refine F_val rfl rfl rfl (O_loadSg (E_coin.enc a) (E_coin.enc b) [] rfl rfl wide69 (HS4.cells_rd (i := 1) rfl) (List.append_nil _).symm rfl rfl (by decide)) ?_
    refine F_val rfl rfl rfl (O_move rfl rfl) ?_
    refine F_call (xs := [.tmp 25, .tmp 26]) rfl rfl rfl rfl Try.func52 nm52 rfl rfl ((build_coin_into.aux b (HS4.give [0] rfl (Lent.dz HS4 Lent.nil (i := 3) rfl dz_self (HS4.dze (i := 3) rfl))) h2).mono (fun e w' hc => ?_))
    obtain ⟨rfl, HSo2, hl2⟩ := hc
    refine ⟨.tuple #[], rfl, ?_⟩
    have HS5 := (HS4.back [0] HSo2 rfl).sel [5] rfl
    refine F_nil ?_
    refine L_nil (fun a ha => post_end0 ha rfl ?_)
    exact ⟨rfl, HS5, hl2.trans hl1⟩
theorem build_coin_into.calls {S0 : Nat → Prop} {w0 : World} {A : Option Addr} {c : Nat} {B : Nat → Prop} {d : DC} {x : Co} {l r : List Int} (HS0 : Hp S0 w0 w0 [.own A c (rowC (Eint .i64) l) 3 (Eint .i64).sz, Dz D_coin anyB 0 B [d] [x]]) (h : build_coin_into.f x l = some r) :
    Calls Try.prog 52 ([.agg (E_coin.enc d).toArray, .slice A l.length c] : List Value).toArray w0 (fun e w => e = .returned (.tuple #[]) ∧ Hp S0 w0 w [.own A c (rowC (Eint .i64) r) 3 (Eint .i64).sz] ∧ r.length = l.length) := by
  have e : d.er = x := one_er (HS0.dz (i := 1) rfl).2.1
  subst e
  exact build_coin_into.aux d HS0 h

/-! function 28: valise/build.Limited -/
theorem build_Limited.calls {S0 : Nat → Prop} {w0 : World} {A_freq_0 : Option Addr} {c_freq_0 : Nat} {l_freq_0 : List Int} {limit_1 : Int} {r : List Int × Int} (HS0 : Hp S0 w0 w0 [.rd A_freq_0 (rowC (Eint .i64) l_freq_0)]) (hc_freq_0 : l_freq_0.length ≤ c_freq_0) (h : build_Limited.f l_freq_0 limit_1 = some r) :
    Calls Try.prog 28 ([.slice A_freq_0 l_freq_0.length c_freq_0, .int .i64 limit_1] : List Value).toArray w0 (fun e w => ∃ (A1 : Option Addr), ∃ (c1 : Nat), e = .returned (.tuple #[.slice A1 r.1.length c1, .int .i64 r.2]) ∧ Hp S0 w0 w [.own A1 c1 (rowC (Eint .i64) r.1) 3 (Eint .i64).sz]) := by
  have H : ((if (limit_1 < 1) ∨ (15 < limit_1) then (some (([] : List Int), 1)) else ((build_used.f l_freq_0).bind fun (z16, z17) => if z17 ≠ 0 then (some (([] : List Int), z17)) else (gd (¬ (IntKind.u64.wrap limit_1) < 0) (if shl .i64 1 (IntKind.u64.wrap limit_1) < (z16.length : Int) then (some (([] : List Int), 60)) else (if (z16.length : Int) < 2 then ((build_few.f (l_freq_0.length : Int) z16).bind fun z37 => some (z37, 0)) else ((slices_Clone_int_int.f z16).bind fun z47 => (slices_SortStableFunc_int_int_cbuild_Limited_1.f z47 l_freq_0).bind fun z57 => (build_Limited.l1 FU ([] : List Co) 0 l_freq_0 z57).bind fun l164 => (build_Limited.l3 FU l164 0 limit_1 l164).bind fun l406 => gd ((0 : Int) ≤ (l_freq_0.length : Int) ∧ (l_freq_0.length : Int) * 8 ≤ 281474976710656) (bnd (List.replicate ((l_freq_0.length : Int) : Int).toNat (0 : Int)) fun l554 => gd ((0 : Int) ≤ (IntKind.i64.wrap ((IntKind.i64.wrap (2 * (z16.length : Int))) - 2)) ∧ (IntKind.i64.wrap ((IntKind.i64.wrap (2 * (z16.length : Int))) - 2)) ≤ (l406.length : Int)) ((build_Limited.l5 FU l554 0 z16 l406).bind fun l636 => some (l636, 0))))))))) : Option (List Int × Int)) = some r := h
  refine calls_start Try.func28 rfl rfl ?_
  have hSF : ∀ b, S0 b → S0 b ∨ w0.heap.size ≤ b := (fun b hb => .inl hb)
  refine L_seq ?_
  refine L_region ?_
  refine F_box (C := [.slice A_freq_0 l_freq_0.length c_freq_0]) rfl rfl rfl rfl rfl rfl HS0 (fun w1 g3 HS2 => ?_)
  have HS2 : Hp S0 w0 w1 [.rd A_freq_0 (rowC (Eint .i64) l_freq_0), .box g3 [.slice A_freq_0 l_freq_0.length c_freq_0] 22] := HS2
  refine F_val rfl rfl rfl (O_assign rfl rfl) ?_
  refine F_val rfl rfl rfl (O_assign rfl rfl) ?_
  refine F_nil ?_
  refine L_seq ?_
  refine L_seq ?_
  refine L_region ?_
  refine F_val rfl rfl rfl (O_move rfl rfl) ?_
  refine F_val rfl rfl rfl (O_lt rfl rfl rfl) ?_
  refine F_val rfl rfl rfl (O_move rfl rfl) ?_
  refine F_grp 3 [(21, .bool (decide ((limit_1 < 1) ∨ (15 < limit_1)))), (1, .int .i64 limit_1), (2, .pointer (some ⟨g3, 0, none⟩))] ?_ ?_
  · rcases Decidable.em (limit_1 < 1) with c8 | c8
    · refine F_know (i := 18) rfl (dec_t c8) ?_
      refine F_gskip rfl rfl rfl rfl rfl rfl rfl ?_
      refine F_gskip rfl rfl rfl rfl rfl rfl rfl ?_
      refine F_val rfl rfl rfl (O_pickT rfl rfl rfl) ?_
      refine F_know (i := 21) rfl (dec_or_t (q := 15 < limit_1) c8) ?_
      exact F_grpE (fun a ha => Is.cons ha (Is.cons ha (Is.cons ha (Is.nil ha) rfl) rfl) rfl)
    · refine F_know (i := 18) rfl (dec_f c8) ?_
      refine F_gval rfl rfl rfl rfl rfl rfl (O_move rfl rfl) ?_
      refine F_gval rfl rfl rfl rfl rfl rfl (O_gt rfl rfl rfl) ?_
      refine F_val rfl rfl rfl (O_pickF rfl rfl rfl) ?_
      refine F_know (i := 21) rfl (dec_or_f (q := 15 < limit_1) c8) ?_
      exact F_grpE (fun a ha => Is.cons ha (Is.cons ha (Is.cons ha (Is.nil ha) rfl) rfl) rfl)
  · skip
    refine F_nil ?_
    refine L_condP rfl (fun c9 => ?_) (fun c9 => ?_)
    · have H := of_pos H c9
      refine L_seq ?_
      refine L_region ?_
      refine F_val rfl rfl rfl (O_assign rfl rfl) ?_
      refine F_val rfl rfl rfl (O_assign rfl rfl) ?_
      refine F_nil ?_
      have HS10 := HS2.addNil 3 (Eint .i64).sz
      refine L_ret (fun a ha => (post_ret2 ha rfl rfl rfl ?_))
      obtain rfl := Option.some.inj H
      exact ⟨_, _, rfl, HS10.sel [2] rfl⟩
    · have H := of_neg H c9
      refine L_skip ?_
      refine L_seq ?_
      refine L_region ?_
      refine F_val rfl rfl rfl (O_loadB rfl rfl flat22 (HS2.cells_box (i := 1) rfl) rfl) ?_
      obtain ⟨⟨z16, z17⟩, h15, H⟩ := of_bind H
      refine F_call (xs := [.tmp 23]) rfl rfl rfl rfl Try.func35 nm35 rfl rfl ((build_used.calls (HS2.give [] rfl (Lent.rd HS2 (Lent.nil) (i := 0) rfl ((HS2.cells_rd (i := 0) rfl).self))) hc_freq_0 h15).mono (fun e w hc => ?_))
      obtain ⟨A20, c21, rfl, HSo⟩ := hc
      refine ⟨.tuple #[.slice A20 z16.length c21, .int .i64 z17], rfl, ?_⟩
      have HS19 : Hp S0 w0 w [.rd A_freq_0 (rowC (Eint .i64) l_freq_0), .box g3 [.slice A_freq_0 l_freq_0.length c_freq_0] 22, .own A20 c21 (rowC (Eint .i64) z16) 3 (Eint .i64).sz] := (HS2.back [] HSo rfl).sel [0, 1, 2] rfl
      refine F_val rfl rfl rfl (O_move rfl rfl) ?_
      refine F_val rfl rfl rfl (O_extract (v := .slice A20 z16.length c21) rfl rfl rfl) ?_
      refine F_val rfl rfl rfl (O_extract (v := .int .i64 z17) rfl rfl rfl) ?_
      refine F_val rfl rfl rfl (O_assign rfl rfl) ?_
      refine F_val rfl rfl rfl (O_assign rfl rfl) ?_
      refine F_nil ?_
      refine L_seq ?_
      refine L_seq ?_
      refine L_region ?_
      refine F_val rfl rfl rfl (O_move rfl rfl) ?_
      refine F_val rfl rfl rfl (O_ne rfl rfl rfl) ?_
      refine F_nil ?_
      refine L_condP rfl (fun c23 => ?_) (fun c23 => ?_)
      · have H := of_pos H c23
        refine L_seq ?_
        have HS24 : Hp S0 w0 w [.rd A_freq_0 (rowC (Eint .i64) l_freq_0)] := HS19.sel [0] rfl
        refine L_region ?_
        refine F_val rfl rfl rfl (O_move rfl rfl) ?_
        refine F_val rfl rfl rfl (O_assign rfl rfl) ?_
        refine F_val rfl rfl rfl (O_assign rfl rfl) ?_
        refine F_nil ?_
        have HS25 := HS24.addNil 3 (Eint .i64).sz
        refine L_ret (fun a ha => (post_ret2 ha rfl rfl rfl ?_))
        obtain rfl := Option.some.inj H
        exact ⟨_, _, rfl, HS25.sel [1] rfl⟩
      · have H := of_neg H c23
        refine L_skip ?_
        refine L_seq ?_
        refine L_seq ?_
        refine L_region ?_
        refine F_val rfl rfl rfl (O_move rfl rfl) ?_
        refine F_val rfl rfl rfl (O_len rfl rfl Try.underlying22) ?_
        refine F_val rfl rfl rfl (O_move rfl rfl) ?_
        refine F_val rfl rfl rfl (O_conv rfl rfl ⟨_, Try.underlying3⟩ Try.underlying43) ?_
        obtain ⟨g27, H⟩ := of_gd H
        refine F_val rfl rfl rfl (O_shl rfl rfl rfl g27) ?_
        refine F_val rfl rfl rfl (O_gt rfl rfl rfl) ?_
        refine F_nil ?_
        refine L_condP rfl (fun c28 => ?_) (fun c28 => ?_)
        · have H := of_pos H c28
          refine L_seq ?_
          have HS29 : Hp S0 w0 w [.rd A_freq_0 (rowC (Eint .i64) l_freq_0)] := HS19.sel [0] rfl
          refine L_region ?_
          refine F_val rfl rfl rfl (O_assign rfl rfl) ?_
          refine F_val rfl rfl rfl (O_assign rfl rfl) ?_
          refine F_nil ?_
          have HS30 := HS29.addNil 3 (Eint .i64).sz
          refine L_ret (fun a ha => (post_ret2 ha rfl rfl rfl ?_))
          obtain rfl := Option.some.inj H
          exact ⟨_, _, rfl, HS30.sel [1] rfl⟩
        · have H := of_neg H c28
          refine L_skip ?_
          refine L_seq ?_
          refine L_seq ?_
          refine L_region ?_
          refine F_val rfl rfl rfl (O_move rfl rfl) ?_
          refine F_val rfl rfl rfl (O_len rfl rfl Try.underlying22) ?_
          refine F_val rfl rfl rfl (O_lt rfl rfl rfl) ?_
          refine F_nil ?_
          refine L_condP rfl (fun c32 => ?_) (fun c32 => ?_)
          · have H := of_pos H c32
            refine L_seq ?_
            refine L_region ?_
            refine F_val rfl rfl rfl (O_loadB rfl rfl flat22 (HS19.cells_box (i := 1) rfl) rfl) ?_
            refine F_val rfl rfl rfl (O_len rfl rfl Try.underlying22) ?_
            refine F_val rfl rfl rfl (O_move rfl rfl) ?_
            obtain ⟨z37, h36, H⟩ := of_bind H
            refine F_call (xs := [.tmp 40, .tmp 41]) rfl rfl rfl rfl Try.func37 nm37 rfl rfl ((build_few.calls (HS19.give [] rfl (Lent.own HS19 (Lent.nil) (i := 2) rfl rfl ((HS19.cells_own (i := 2) rfl).self))) (HS19.own_capE (i := 2) rfl (by decide)) h36).mono (fun e w hc => ?_))
            obtain ⟨A40, c41, rfl, HSo⟩ := hc
            refine ⟨.slice A40 z37.length c41, rfl, ?_⟩
            have HS39 : Hp S0 w0 w [.rd A_freq_0 (rowC (Eint .i64) l_freq_0), .box g3 [.slice A_freq_0 l_freq_0.length c_freq_0] 22, .own A20 c21 (rowC (Eint .i64) z16) 3 (Eint .i64).sz, .own A40 c41 (rowC (Eint .i64) z37) 3 (Eint .i64).sz] := (HS19.back [] HSo rfl).sel [0, 1, 2, 3] rfl
            refine F_val rfl rfl rfl (O_assign rfl rfl) ?_
            refine F_val rfl rfl rfl (O_assign rfl rfl) ?_
            refine F_nil ?_
            refine L_ret (fun a ha => (post_ret2 ha rfl rfl rfl ?_))
            obtain rfl := Option.some.inj H
            exact ⟨_, _, rfl, HS39.sel [3] rfl⟩
          · have H := of_neg H c32
            refine L_skip ?_
            refine L_seq ?_
            refine L_region ?_
            refine F_val rfl rfl rfl (O_move rfl rfl) ?_
            obtain ⟨z47, h46, H⟩ := of_bind H
            refine F_call (xs := [.tmp 43]) rfl rfl rfl rfl Try.func46 nm46 rfl rfl ((slices_Clone_int_int.calls (HS19.give [] rfl (Lent.own HS19 (Lent.nil) (i := 2) rfl rfl ((HS19.cells_own (i := 2) rfl).self))) (HS19.own_capE (i := 2) rfl (by decide)) h46).mono (fun e w hc => ?_))
            obtain ⟨A50, c51, rfl, HSo⟩ := hc
            refine ⟨.slice A50 z47.length c51, rfl, ?_⟩
            have HS49 : Hp S0 w0 w [.rd A_freq_0 (rowC (Eint .i64) l_freq_0), .box g3 [.slice A_freq_0 l_freq_0.length c_freq_0] 22, .own A20 c21 (rowC (Eint .i64) z16) 3 (Eint .i64).sz, .own A50 c51 (rowC (Eint .i64) z47) 3 (Eint .i64).sz] := (HS19.back [] HSo rfl).sel [0, 1, 2, 3] rfl
            refine F_val rfl rfl rfl (O_assign rfl rfl) ?_
            refine F_nil ?_
            refine L_seq ?_
            refine L_region ?_
            refine F_val rfl rfl rfl (O_move rfl rfl) ?_
            refine F_val rfl rfl rfl (O_makeFunc (cs := [.tmp 2]) rfl rfl) ?_
            obtain ⟨z57, h56, H⟩ := of_bind H
            refine F_call (xs := [.tmp 45, .tmp 46]) rfl rfl rfl rfl Try.func47 nm47 rfl rfl ((slices_SortStableFunc_int_int_cbuild_Limited_1.calls (HS49.give [3] rfl (Lent.box HS49 (Lent.rd HS49 (Lent.nil) (i := 0) rfl ((HS49.cells_rd (i := 0) rfl).self)) (i := 1) rfl rfl (HS49.cells_box (i := 1) rfl).self)) hc_freq_0 h56).mono (fun e w hc => ?_))
            obtain ⟨rfl, HSo, hl60⟩ := hc
            refine ⟨.tuple #[], rfl, ?_⟩
            have HS59 : Hp S0 w0 w [.rd A_freq_0 (rowC (Eint .i64) l_freq_0), .box g3 [.slice A_freq_0 l_freq_0.length c_freq_0] 22, .own A20 c21 (rowC (Eint .i64) z16) 3 (Eint .i64).sz, .own A50 c51 (rowC (Eint .i64) z57) 3 (Eint .i64).sz] := (HS49.back [3] HSo rfl).sel [0, 1, 2, 4] rfl
            have e61 : z47.length = z57.length := hl60.symm
            refine F_know (i := 8) rfl (congrArg (fun n => Value.slice A50 n c51) e61) ?_
            refine F_nil ?_
            refine L_seq ?_
            refine L_region ?_
            refine F_val rfl rfl rfl (O_assign rfl rfl) ?_
            have HS62 := (HS59.addNil 69 E_coin.sz).dzNil D_coin S0 w0.heap.size
            have HS62 : Hp S0 w0 w [.rd A_freq_0 (rowC (Eint .i64) l_freq_0), .box g3 [.slice A_freq_0 l_freq_0.length c_freq_0] 22, .own A20 c21 (rowC (Eint .i64) z16) 3 (Eint .i64).sz, .own A50 c51 (rowC (Eint .i64) z57) 3 (Eint .i64).sz, .own none 0 (rowC E_coin ([] : List DC)) 69 E_coin.sz, Dz D_coin S0 w0.heap.size NoB ([] : List DC) ([] : List Co)] := HS62
            refine F_nil ?_
            refine L_seq ?_
            refine L_seq ?_
            refine L_region ?_
            refine F_val rfl rfl rfl (O_move rfl rfl) ?_
            refine F_val rfl rfl rfl (O_len rfl rfl Try.underlying22) ?_
            refine F_val rfl rfl rfl (O_move rfl rfl) ?_
            refine F_nil ?_
            obtain ⟨yj65, Hyj65, H⟩ := of_bind H
            refine L_join (fun a w => ∃ (l164 : List Co), ∃ (A160 : Option Addr), ∃ (c161 : Nat), ∃ (ds162 : List DC), ∃ (B163 : Nat → Prop), yj65 = l164 ∧ Is Try.f28.ntmps a [(1, .int .i64 limit_1), (2, .pointer (some ⟨g3, 0, none⟩)), (6, .slice A20 z16.length c21), (9, .slice A160 l164.length c161)] ∧ Hp S0 w0 w [.rd A_freq_0 (rowC (Eint .i64) l_freq_0), .box g3 [.slice A_freq_0 l_freq_0.length c_freq_0] 22, .own A20 c21 (rowC (Eint .i64) z16) 3 (Eint .i64).sz, .own A160 c161 (rowC E_coin ds162) 69 E_coin.sz, Dz D_coin S0 w0.heap.size B163 ds162 l164]) (fun Qj65 hNj65 hOj65 => ?_) (fun a w hR => ?_)
            · skip
              have H := Hyj65
              refine L_blk (fun Qb165 hNb165 hXb165 hOb165 => ?_)
              refine L_lp (fun k a w => ∃ (l229 : List Co), ∃ (t230 : Int), ∃ (A225 : Option Addr), ∃ (c226 : Nat), ∃ (ds227 : List DC), ∃ (B228 : Nat → Prop), Is Try.f28.ntmps a [(1, .int .i64 limit_1), (2, .pointer (some ⟨g3, 0, none⟩)), (6, .slice A20 z16.length c21), (9, .slice A225 l229.length c226), (48, .slice A50 z57.length c51), (49, .int .i64 (z57.length : Int)), (50, .int .i64 t230)] ∧ Hp S0 w0 w [.rd A_freq_0 (rowC (Eint .i64) l_freq_0), .box g3 [.slice A_freq_0 l_freq_0.length c_freq_0] 22, .own A20 c21 (rowC (Eint .i64) z16) 3 (Eint .i64).sz, .own A225 c226 (rowC E_coin ds227) 69 E_coin.sz, Dz D_coin S0 w0.heap.size B228 ds227 l229, .own A50 c51 (rowC (Eint .i64) z57) 3 (Eint .i64).sz] ∧ build_Limited.l1 k l229 t230 l_freq_0 z57 = some yj65) FU (fun a ha => ⟨_, _, _, _, _, _, Is.cons ha (Is.cons ha (Is.cons ha (Is.cons ha (Is.cons ha (Is.cons ha (Is.cons ha (Is.nil ha) rfl) rfl) rfl) rfl) rfl) rfl) rfl, HS62.sel [0, 1, 2, 4, 5, 3] rfl, H⟩) (fun kp224 a w231 hI Qp224 hNp224 hOp224 => ?_)
              obtain ⟨l229, t230, A225, c226, ds227, B228, ha, HS232, HAp224⟩ := hI
              cases kp224 with
              | zero => cases (show (none : Option _) = some _ from HAp224)
              | succ kp224 =>
                have H := (build_Limited.l1.eq_2 ..).symm.trans HAp224
                refine wpLF_app ?_ ha
                refine L_seq ?_
                refine L_region ?_
                refine F_val rfl rfl rfl (O_lt rfl rfl rfl) ?_
                refine F_nil ?_
                refine L_seq ?_
                refine L_condP rfl (fun c233 => ?_) (fun c233 => ?_)
                · have H := of_pos H c233
                  refine L_skip ?_
                  refine L_seq ?_
                  refine L_blk (fun Q234 hN234 hX234 hO234 => ?_)
                  refine L_seq ?_
                  refine L_region ?_
                  obtain ⟨⟨g235, g236⟩, H⟩ := of_gd H
                  refine F_val rfl rfl rfl (O_idx rfl rfl rfl Try.underlying22 size3 g235 g236 (Cells.isA (HS232.cells_own (i := 5) rfl) (rowC_ne (E := (Eint .i64)) g235 g236 (by decide)))) ?_
                  refine F_val rfl rfl rfl (O_loadC rfl rfl flat3 (HS232.cells_own (i := 5) rfl) (int_cell g235 g236)) ?_
                  obtain ⟨x237, h238, H⟩ := of_bnd H
                  refine F_val rfl rfl rfl (O_assign' rfl rfl (congrArg (Value.int .i64) h238)) ?_
                  refine F_nil ?_
                  refine L_region ?_
                  refine F_val rfl rfl rfl (O_move rfl rfl) ?_
                  refine F_val rfl rfl rfl (O_loadB rfl rfl flat22 (HS232.cells_box (i := 1) rfl) rfl) ?_
                  refine F_val rfl rfl rfl (O_move rfl rfl) ?_
                  obtain ⟨⟨g239, g240⟩, H⟩ := of_gd H
                  refine F_val rfl rfl rfl (O_idx rfl rfl rfl Try.underlying22 size3 g239 g240 (Cells.isA (HS232.cells_rd (i := 0) rfl) (rowC_ne (E := (Eint .i64)) g239 g240 (by decide)))) ?_
                  refine F_val rfl rfl rfl (O_loadC rfl rfl flat3 (HS232.cells_rd (i := 0) rfl) (int_cell g239 g240)) ?_
                  refine F_val rfl rfl rfl (O_move rfl rfl) ?_
                  refine F_val rfl rfl rfl (O_build (vs := [(0, .int .i64 (rd l_freq_0 x237)), (1, .int .i64 x237)]) (v := .agg #[.int .i64 (rd l_freq_0 x237), .int .i64 x237, .pointer none]) rfl rfl rfl (fun w => by kernel_rfl)) ?_
                  have HS244 : Hp S0 w0 w231 [.rd A_freq_0 (rowC (Eint .i64) l_freq_0), .box g3 [.slice A_freq_0 l_freq_0.length c_freq_0] 22, .own A20 c21 (rowC (Eint .i64) z16) 3 (Eint .i64).sz, .own A225 c226 (rowC E_coin ds227) 69 E_coin.sz, Dz D_coin S0 w0.heap.size B228 ds227 l229, .own A50 c51 (rowC (Eint .i64) z57) 3 (Eint .i64).sz, Dz D_coin S0 w0.heap.size NoB [(DC.leaf (rd l_freq_0 x237) x237)] [(Co.leaf (rd l_freq_0 x237) x237)]] := HS232.coLeaf S0 w0.heap.size (rd l_freq_0 x237) x237
                  refine F_litE (E := E_coin) (e := 69) [(0, .agg #[.int .i64 (rd l_freq_0 x237), .int .i64 x237, .pointer none])] [(DC.leaf (rd l_freq_0 x237) x237)] rfl rfl rfl rfl rfl rfl rfl (by decide) (fun w => by kernel_rfl) HS244 (fun w241 A245 c246 HS242 => ?_)
                  have HS242 : Hp S0 w0 w241 [.rd A_freq_0 (rowC (Eint .i64) l_freq_0), .box g3 [.slice A_freq_0 l_freq_0.length c_freq_0] 22, .own A20 c21 (rowC (Eint .i64) z16) 3 (Eint .i64).sz, .own A225 c226 (rowC E_coin ds227) 69 E_coin.sz, Dz D_coin S0 w0.heap.size B228 ds227 l229, .own A50 c51 (rowC (Eint .i64) z57) 3 (Eint .i64).sz, Dz D_coin S0 w0.heap.size NoB [(DC.leaf (rd l_freq_0 x237) x237)] [(Co.leaf (rd l_freq_0 x237) x237)], .own A245 c246 (rowC E_coin [(DC.leaf (rd l_freq_0 x237) x237)]) 69 E_coin.sz] := HS242
                  have HS249 : Hp S0 w0 w241 [.rd A_freq_0 (rowC (Eint .i64) l_freq_0), .box g3 [.slice A_freq_0 l_freq_0.length c_freq_0] 22, .own A20 c21 (rowC (Eint .i64) z16) 3 (Eint .i64).sz, .own A225 c226 (rowC E_coin ds227) 69 E_coin.sz, Dz D_coin S0 w0.heap.size B228 ds227 l229, .own A50 c51 (rowC (Eint .i64) z57) 3 (Eint .i64).sz, Dz D_coin S0 w0.heap.size NoB [(DC.leaf (rd l_freq_0 x237) x237)] [(Co.leaf (rd l_freq_0 x237) x237)], .own A245 c246 (rowC E_coin [(DC.leaf (rd l_freq_0 x237) x237)]) 69 E_coin.sz, Dz D_coin S0 w0.heap.size NoB [(DC.leaf (rd l_freq_0 x237) x237)] [(Co.leaf (rd l_freq_0 x237) x237)]] := HS242.dzSub (i := 6) rfl dz_self (HS242.dze (i := 6) rfl)
                  obtain ⟨l252, h253, H⟩ := of_bnd H
                  obtain ⟨g254, H⟩ := of_gd H
                  refine F_appD (D := D_coin) (ds := ds227) (ds' := [(DC.leaf (rd l_freq_0 x237) x237)]) (xs := l229) (ys := [(Co.leaf (rd l_freq_0 x237) x237)]) (i := 3) rfl rfl rfl rfl Try.underlying66 info69 rfl (by decide) (by decide) rfl rfl HS249 rfl (HS249.dze (i := 4) rfl) (HS249.dze (i := 8) rfl) (HS249.cells_own (i := 7) rfl) h253 g254 (fun w250 A255 c256 HS251 => ?_)
                  have HS251 : Hp S0 w0 w250 [.rd A_freq_0 (rowC (Eint .i64) l_freq_0), .box g3 [.slice A_freq_0 l_freq_0.length c_freq_0] 22, .own A20 c21 (rowC (Eint .i64) z16) 3 (Eint .i64).sz, .own A255 c256 (rowC E_coin (ds227 ++ [(DC.leaf (rd l_freq_0 x237) x237)])) 69 E_coin.sz, Dz D_coin S0 w0.heap.size B228 ds227 l229, .own A50 c51 (rowC (Eint .i64) z57) 3 (Eint .i64).sz, Dz D_coin S0 w0.heap.size NoB [(DC.leaf (rd l_freq_0 x237) x237)] [(Co.leaf (rd l_freq_0 x237) x237)], .own A245 c246 (rowC E_coin [(DC.leaf (rd l_freq_0 x237) x237)]) 69 E_coin.sz, Dz D_coin S0 w0.heap.size NoB [(DC.leaf (rd l_freq_0 x237) x237)] [(Co.leaf (rd l_freq_0 x237) x237)]] := HS251
                  have HS257 : Hp S0 w0 w250 [.rd A_freq_0 (rowC (Eint .i64) l_freq_0), .box g3 [.slice A_freq_0 l_freq_0.length c_freq_0] 22, .own A20 c21 (rowC (Eint .i64) z16) 3 (Eint .i64).sz, .own A255 c256 (rowC E_coin (ds227 ++ [(DC.leaf (rd l_freq_0 x237) x237)])) 69 E_coin.sz, Dz D_coin S0 w0.heap.size (orB B228 NoB) (ds227 ++ [(DC.leaf (rd l_freq_0 x237) x237)]) l252, .own A50 c51 (rowC (Eint .i64) z57) 3 (Eint .i64).sz, Dz D_coin S0 w0.heap.size NoB [(DC.leaf (rd l_freq_0 x237) x237)] [(Co.leaf (rd l_freq_0 x237) x237)], .own A245 c246 (rowC E_coin [(DC.leaf (rd l_freq_0 x237) x237)]) 69 E_coin.sz, Dz D_coin S0 w0.heap.size NoB [(DC.leaf (rd l_freq_0 x237) x237)] [(Co.leaf (rd l_freq_0 x237) x237)]] := HS251.dzApp (i := 4) (j := 8) rfl rfl h253
                  refine F_val rfl rfl rfl (O_assign rfl rfl) ?_
                  refine F_nil ?_
                  refine L_endB hN234 ?_
                  have HS258 : Hp S0 w0 w250 [.rd A_freq_0 (rowC (Eint .i64) l_freq_0), .box g3 [.slice A_freq_0 l_freq_0.length c_freq_0] 22, .own A20 c21 (rowC (Eint .i64) z16) 3 (Eint .i64).sz, .own A255 c256 (rowC E_coin (ds227 ++ [(DC.leaf (rd l_freq_0 x237) x237)])) 69 E_coin.sz, Dz D_coin S0 w0.heap.size (orB B228 NoB) (ds227 ++ [(DC.leaf (rd l_freq_0 x237) x237)]) l252, .own A50 c51 (rowC (Eint .i64) z57) 3 (Eint .i64).sz] := HS257.sel [0, 1, 2, 3, 4, 5] rfl
                  refine L_region ?_
                  refine F_val rfl rfl rfl (O_add rfl rfl rfl) ?_
                  refine F_val rfl rfl rfl (O_move rfl rfl) ?_
                  refine F_nil ?_
                  refine L_nil (fun a ha => hNp224 _ a _ (Nat.lt_succ_self _) ⟨_, _, _, _, _, _, Is.cons ha (Is.cons ha (Is.cons ha (Is.cons ha (Is.cons ha (Is.cons ha (Is.cons ha (Is.nil ha) rfl) rfl) rfl) rfl) rfl) rfl) rfl, HS258.sel [0, 1, 2, 3, 4, 5] rfl, H⟩)
                · have H := of_neg H c233
                  refine L_exitB (fun a w h => hOp224 (.exit 0) a w rfl (hXb165 a w h)) ?_
                  refine L_nil (fun a ha => hNj65 a _ ⟨_, _, _, _, _, (Option.some.inj H).symm, Is.cons ha (Is.cons ha (Is.cons ha (Is.cons ha (Is.nil ha) rfl) rfl) rfl) rfl, HS232.sel [0, 1, 2, 3, 4] rfl⟩)
            · obtain ⟨l164, A160, c161, ds162, B163, ej, ha, HS260⟩ := hR
              obtain rfl := ej.symm
              refine wpLF_app ?_ ha
              refine L_seq ?_
              refine L_region ?_
              refine F_val rfl rfl rfl (O_move rfl rfl) ?_
              refine F_val rfl rfl rfl (O_assign rfl rfl) ?_
              refine F_nil ?_
              refine L_seq ?_
              refine L_seq ?_
              refine L_region ?_
              refine F_val rfl rfl rfl (O_move rfl rfl) ?_
              refine F_val rfl rfl rfl (O_sub rfl rfl rfl) ?_
              refine F_val rfl rfl rfl (O_move rfl rfl) ?_
              refine F_nil ?_
              obtain ⟨yj261, Hyj261, H⟩ := of_bind H
              refine L_join (fun a w => ∃ (l406 : List Co), ∃ (A402 : Option Addr), ∃ (c403 : Nat), ∃ (ds404 : List DC), ∃ (B405 : Nat → Prop), yj261 = l406 ∧ Is Try.f28.ntmps a [(2, .pointer (some ⟨g3, 0, none⟩)), (6, .slice A20 z16.length c21), (12, .slice A402 l406.length c403)] ∧ Hp S0 w0 w [.rd A_freq_0 (rowC (Eint .i64) l_freq_0), .box g3 [.slice A_freq_0 l_freq_0.length c_freq_0] 22, .own A20 c21 (rowC (Eint .i64) z16) 3 (Eint .i64).sz, Rdc l406.length c403 A402 (rowC E_coin ds404), Dz D_coin S0 w0.heap.size B405 ds404 l406]) (fun Qj261 hNj261 hOj261 => ?_) (fun a w hR => ?_)
              · skip
                have H := Hyj261
                refine L_blk (fun Qb407 hNb407 hXb407 hOb407 => ?_)
                have HS438 : Hp S0 w0 w [.rd A_freq_0 (rowC (Eint .i64) l_freq_0), .box g3 [.slice A_freq_0 l_freq_0.length c_freq_0] 22, .own A20 c21 (rowC (Eint .i64) z16) 3 (Eint .i64).sz, Rdc l164.length c161 A160 (rowC E_coin ds162), Dz D_coin S0 w0.heap.size B163 ds162 l164] := HS260.ownRdc (i := 3) rfl (dz_capx (HS260.dze (i := 4) rfl) (HS260.own_capE (i := 3) rfl (by decide)))
                have HS440 : Hp S0 w0 w [.rd A_freq_0 (rowC (Eint .i64) l_freq_0), .box g3 [.slice A_freq_0 l_freq_0.length c_freq_0] 22, .own A20 c21 (rowC (Eint .i64) z16) 3 (Eint .i64).sz, Rdc l164.length c161 A160 (rowC E_coin ds162), Dz D_coin S0 w0.heap.size B163 ds162 l164, Rdc l164.length c161 A160 (rowC E_coin ds162)] := HS438.rdcSub (i := 3) rfl ((HS438.cells_rdc (i := 3) rfl).self) (HS438.rdc_cap (i := 3) rfl)
                have HS442 : Hp S0 w0 w [.rd A_freq_0 (rowC (Eint .i64) l_freq_0), .box g3 [.slice A_freq_0 l_freq_0.length c_freq_0] 22, .own A20 c21 (rowC (Eint .i64) z16) 3 (Eint .i64).sz, Rdc l164.length c161 A160 (rowC E_coin ds162), Dz D_coin S0 w0.heap.size B163 ds162 l164, Rdc l164.length c161 A160 (rowC E_coin ds162), Dz D_coin S0 w0.heap.size B163 ds162 l164] := HS440.dzSub (i := 4) rfl dz_self (HS438.dze (i := 4) rfl)
                refine L_lp (fun k a w => ∃ (l514 : List Co), ∃ (t515 : Int), ∃ (A510 : Option Addr), ∃ (c511 : Nat), ∃ (ds512 : List DC), ∃ (B513 : Nat → Prop), Is Try.f28.ntmps a [(2, .pointer (some ⟨g3, 0, none⟩)), (6, .slice A20 z16.length c21), (9, .slice A160 l164.length c161), (12, .slice A510 l514.length c511), (66, .int .i64 (IntKind.i64.wrap (limit_1 - 1))), (67, .int .i64 t515)] ∧ Hp S0 w0 w [.rd A_freq_0 (rowC (Eint .i64) l_freq_0), .box g3 [.slice A_freq_0 l_freq_0.length c_freq_0] 22, .own A20 c21 (rowC (Eint .i64) z16) 3 (Eint .i64).sz, Rdc l164.length c161 A160 (rowC E_coin ds162), Dz D_coin S0 w0.heap.size B163 ds162 l164, Rdc l514.length c511 A510 (rowC E_coin ds512), Dz D_coin S0 w0.heap.size B513 ds512 l514] ∧ build_Limited.l3 k l514 t515 limit_1 l164 = some yj261) FU (fun a ha => ⟨_, _, _, _, _, _, Is.cons ha (Is.cons ha (Is.cons ha (Is.cons ha (Is.cons ha (Is.cons ha (Is.nil ha) rfl) rfl) rfl) rfl) rfl) rfl, HS442.sel [0, 1, 2, 3, 4, 5, 6] rfl, H⟩) (fun kp509 a w516 hI Qp509 hNp509 hOp509 => ?_)
                obtain ⟨l514, t515, A510, c511, ds512, B513, ha, HS517, HAp509⟩ := hI
                cases kp509 with
                | zero => cases (show (none : Option _) = some _ from HAp509)
                | succ kp509 =>
                  have H := (build_Limited.l3.eq_2 ..).symm.trans HAp509
                  refine wpLF_app ?_ ha
                  refine L_seq ?_
                  refine L_region ?_
                  refine F_val rfl rfl rfl (O_lt rfl rfl rfl) ?_
                  refine F_nil ?_
                  refine L_seq ?_
                  refine L_condP rfl (fun c518 => ?_) (fun c518 => ?_)
                  · have H := of_pos H c518
                    refine L_skip ?_
                    refine L_seq ?_
                    refine L_blk (fun Q519 hN519 hX519 hO519 => ?_)
                    refine L_region ?_
                    refine F_val rfl rfl rfl (O_move rfl rfl) ?_
                    refine F_val rfl rfl rfl (O_move rfl rfl) ?_
                    obtain ⟨z524, h523, H⟩ := of_bind H
                    refine F_call (xs := [.tmp 70]) rfl rfl rfl rfl Try.func51 nm51 rfl rfl ((build_packages.calls (HS517.give [] rfl (Lent.rdc HS517 (Lent.dz HS517 (Lent.nil) (i := 6) rfl dz_self (HS517.dze (i := 6) rfl)) (i := 5) rfl ((HS517.cells_rdc (i := 5) rfl).self))) (HS517.rdc_cap (i := 5) rfl) h523).mono (fun e w hc => ?_))
                    obtain ⟨A527, c528, ds530, B531, rfl, HSo⟩ := hc
                    refine ⟨.slice A527 z524.length c528, rfl, ?_⟩
                    have HS526 : Hp S0 w0 w [.rd A_freq_0 (rowC (Eint .i64) l_freq_0), .box g3 [.slice A_freq_0 l_freq_0.length c_freq_0] 22, .own A20 c21 (rowC (Eint .i64) z16) 3 (Eint .i64).sz, Rdc l164.length c161 A160 (rowC E_coin ds162), Dz D_coin S0 w0.heap.size B163 ds162 l164, Rdc l514.length c511 A510 (rowC E_coin ds512), Dz D_coin S0 w0.heap.size B513 ds512 l514, .own A527 c528 (rowC E_coin ds530) 69 E_coin.sz, Dz D_coin S0 w0.heap.size B531 ds530 z524] := ((HS517.backD [] HSo (Pv.backG (Pv.own (Pv.per (HSo.dz (i := 1) rfl).1 Pv.nil)) (fun b => (fun hb => Or.elim hb (fun hb => .inl hb) (fun hb => .inr ⟨_, _, nth_mem (i := 6) rfl, hb⟩))))).sel [0, 1, 2, 3, 4, 5, 6, 7, 8] rfl).dzProv (i := 8) rfl (fun b hb _ => Or.elim hb (fun hb => Or.elim hb (fun hb => (HS517.mine _ (feet_pick_le hb)).elim (hSF _) .inr) (fun hb => (HS517.dz (i := 6) rfl).1 _ hb)) (fun h => .inr (Nat.le_trans HS517.chg.size h)))
                    obtain ⟨z537, h536, H⟩ := of_bind H
                    refine F_call (xs := [.tmp 69, .tmp 71]) rfl rfl rfl rfl Try.func50 nm50 rfl rfl ((build_merged.calls (HS526.give [] rfl (Lent.rdc HS526 (Lent.dz HS526 (Lent.own HS526 (Lent.dz HS526 (Lent.nil) (i := 8) rfl dz_self (HS526.dze (i := 8) rfl)) (i := 7) rfl rfl ((HS526.cells_own (i := 7) rfl).self)) (i := 4) rfl dz_self (HS526.dze (i := 4) rfl)) (i := 3) rfl ((HS526.cells_rdc (i := 3) rfl).self))) (HS526.rdc_cap (i := 3) rfl) (dz_capx (HS526.dze (i := 8) rfl) (HS526.own_capE (i := 7) rfl (by decide))) h536).mono (fun e w hc => ?_))
                    obtain ⟨A540, c541, ds543, B544, rfl, HSo⟩ := hc
                    refine ⟨.slice A540 z537.length c541, rfl, ?_⟩
                    have HS539 : Hp S0 w0 w [.rd A_freq_0 (rowC (Eint .i64) l_freq_0), .box g3 [.slice A_freq_0 l_freq_0.length c_freq_0] 22, .own A20 c21 (rowC (Eint .i64) z16) 3 (Eint .i64).sz, Rdc l164.length c161 A160 (rowC E_coin ds162), Dz D_coin S0 w0.heap.size B163 ds162 l164, Rdc l514.length c511 A510 (rowC E_coin ds512), Dz D_coin S0 w0.heap.size B513 ds512 l514, .own A527 c528 (rowC E_coin ds530) 69 E_coin.sz, Dz D_coin S0 w0.heap.size B531 ds530 z524, .own A540 c541 (rowC E_coin ds543) 69 E_coin.sz, Dz D_coin S0 w0.heap.size B544 ds543 z537] := ((HS526.backD [] HSo (Pv.backG (Pv.own (Pv.per (HSo.dz (i := 1) rfl).1 Pv.nil)) (fun b => (fun hb => Or.elim hb (fun hb => Or.elim hb (fun hb => .inl hb) (fun hb => .inr ⟨_, _, nth_mem (i := 4) rfl, hb⟩)) (fun hb => .inr ⟨_, _, nth_mem (i := 8) rfl, hb⟩))))).sel [0, 1, 2, 3, 4, 5, 6, 7, 8, 9, 10] rfl).dzProv (i := 10) rfl (fun b hb _ => Or.elim hb (fun hb => Or.elim hb (fun hb => Or.elim hb (fun hb => (HS526.mine _ (feet_pick_le hb)).elim (hSF _) .inr) (fun hb => (HS526.dz (i := 4) rfl).1 _ hb)) (fun hb => (HS526.dz (i := 8) rfl).1 _ hb)) (fun h => .inr (Nat.le_trans HS526.chg.size h)))
                    refine F_val rfl rfl rfl (O_assign rfl rfl) ?_
                    refine F_nil ?_
                    refine L_endB hN519 ?_
                    have HS546 : Hp S0 w0 w [.rd A_freq_0 (rowC (Eint .i64) l_freq_0), .box g3 [.slice A_freq_0 l_freq_0.length c_freq_0] 22, .own A20 c21 (rowC (Eint .i64) z16) 3 (Eint .i64).sz, Rdc l164.length c161 A160 (rowC E_coin ds162), Dz D_coin S0 w0.heap.size B163 ds162 l164, Rdc l514.length c511 A510 (rowC E_coin ds512), Dz D_coin S0 w0.heap.size B513 ds512 l514, .own A540 c541 (rowC E_coin ds543) 69 E_coin.sz, Dz D_coin S0 w0.heap.size B544 ds543 z537] := HS539.sel [0, 1, 2, 3, 4, 5, 6, 9, 10] rfl
                    refine L_region ?_
                    refine F_val rfl rfl rfl (O_add rfl rfl rfl) ?_
                    refine F_val rfl rfl rfl (O_move rfl rfl) ?_
                    refine F_nil ?_
                    have HS547 : Hp S0 w0 w [.rd A_freq_0 (rowC (Eint .i64) l_freq_0), .box g3 [.slice A_freq_0 l_freq_0.length c_freq_0] 22, .own A20 c21 (rowC (Eint .i64) z16) 3 (Eint .i64).sz, Rdc l164.length c161 A160 (rowC E_coin ds162), Dz D_coin S0 w0.heap.size B163 ds162 l164, Rdc l514.length c511 A510 (rowC E_coin ds512), Dz D_coin S0 w0.heap.size B513 ds512 l514, Rdc z537.length c541 A540 (rowC E_coin ds543), Dz D_coin S0 w0.heap.size B544 ds543 z537] := HS546.ownRdc (i := 7) rfl (dz_capx (HS546.dze (i := 8) rfl) (HS546.own_capE (i := 7) rfl (by decide)))
                    refine L_nil (fun a ha => hNp509 _ a _ (Nat.lt_succ_self _) ⟨_, _, _, _, _, _, Is.cons ha (Is.cons ha (Is.cons ha (Is.cons ha (Is.cons ha (Is.cons ha (Is.nil ha) rfl) rfl) rfl) rfl) rfl) rfl, HS547.sel [0, 1, 2, 3, 4, 7, 8] rfl, H⟩)
                  · have H := of_neg H c518
                    refine L_exitB (fun a w h => hOp509 (.exit 2) a w rfl (hXb407 a w h)) ?_
                    refine L_nil (fun a ha => hNj261 a _ ⟨_, _, _, _, _, (Option.some.inj H).symm, Is.cons ha (Is.cons ha (Is.cons ha (Is.nil ha) rfl) rfl) rfl, HS517.sel [0, 1, 2, 5, 6] rfl⟩)
              · obtain ⟨l406, A402, c403, ds404, B405, ej, ha, HS549⟩ := hR
                obtain rfl := ej.symm
                refine wpLF_app ?_ ha
                refine L_seq ?_
                refine L_region ?_
                refine F_val rfl rfl rfl (O_loadB rfl rfl flat22 (HS549.cells_box (i := 1) rfl) rfl) ?_
                refine F_val rfl rfl rfl (O_len rfl rfl Try.underlying22) ?_
                obtain ⟨⟨g552, g553⟩, H⟩ := of_gd H
                obtain ⟨l554, h555, H⟩ := of_bnd H
                refine F_makeE (E := (Eint .i64)) rfl rfl rfl rfl rfl rfl Try.underlying22 info3 rfl (by decide) (by decide) g552 g553 HS549 h555 (fun w550 A556 c557 HS551 => ?_)
                have HS551 : Hp S0 w0 w550 [.rd A_freq_0 (rowC (Eint .i64) l_freq_0), .box g3 [.slice A_freq_0 l_freq_0.length c_freq_0] 22, .own A20 c21 (rowC (Eint .i64) z16) 3 (Eint .i64).sz, Rdc l406.length c403 A402 (rowC E_coin ds404), Dz D_coin S0 w0.heap.size B405 ds404 l406, .own A556 c557 (rowC (Eint .i64) l554) 3 (Eint .i64).sz] := HS551
                refine F_val rfl rfl rfl (O_assign rfl rfl) ?_
                refine F_nil ?_
                refine L_seq ?_
                refine L_seq ?_
                refine L_region ?_
                refine F_val rfl rfl rfl (O_move rfl rfl) ?_
                refine F_val rfl rfl rfl (O_move rfl rfl) ?_
                refine F_val rfl rfl rfl (O_len rfl rfl Try.underlying22) ?_
                refine F_val rfl rfl rfl (O_mul rfl rfl rfl) ?_
                refine F_val rfl rfl rfl (O_sub rfl rfl rfl) ?_
                obtain ⟨⟨g559, g560⟩, H⟩ := of_gd H
                refine F_val rfl rfl rfl (O_toE l406 rfl rfl rfl Try.underlying66 size69 g559 g560 (HS551.rdc_cap (i := 3) rfl)) ?_
                refine F_val rfl rfl rfl (O_len rfl rfl Try.underlying66) ?_
                refine F_val rfl rfl rfl (O_move rfl rfl) ?_
                refine F_nil ?_
                obtain ⟨yj561, Hyj561, H⟩ := of_bind H
                refine L_join (fun a w => ∃ (l636 : List Int), yj561 = l636 ∧ Is Try.f28.ntmps a [(13, .slice A556 l636.length c557)] ∧ Hp S0 w0 w [.rd A_freq_0 (rowC (Eint .i64) l_freq_0), .own A556 c557 (rowC (Eint .i64) l636) 3 (Eint .i64).sz]) (fun Qj561 hNj561 hOj561 => ?_) (fun a w hR => ?_)
                · skip
                  have H := Hyj561
                  refine L_blk (fun Qb637 hNb637 hXb637 hOb637 => ?_)
                  refine L_lp (fun k a w => ∃ (l685 : List Int), ∃ (t686 : Int), Is Try.f28.ntmps a [(13, .slice A556 l685.length c557), (82, .slice A402 (l406.take (IntKind.i64.wrap ((IntKind.i64.wrap (2 * (z16.length : Int))) - 2) : Int).toNat).length c403), (83, .int .i64 ((l406.take (IntKind.i64.wrap ((IntKind.i64.wrap (2 * (z16.length : Int))) - 2) : Int).toNat).length : Int)), (84, .int .i64 t686)] ∧ Hp S0 w0 w [.rd A_freq_0 (rowC (Eint .i64) l_freq_0), .own A556 c557 (rowC (Eint .i64) l685) 3 (Eint .i64).sz, Rdc l406.length c403 A402 (rowC E_coin ds404), Dz D_coin S0 w0.heap.size B405 ds404 l406] ∧ build_Limited.l5 k l685 t686 z16 l406 = some yj561) FU (fun a ha => ⟨_, _, Is.cons ha (Is.cons ha (Is.cons ha (Is.cons ha (Is.nil ha) rfl) rfl) rfl) rfl, HS551.sel [0, 5, 3, 4] rfl, H⟩) (fun kp684 a w687 hI Qp684 hNp684 hOp684 => ?_)
                  obtain ⟨l685, t686, ha, HS688, HAp684⟩ := hI
                  cases kp684 with
                  | zero => cases (show (none : Option _) = some _ from HAp684)
                  | succ kp684 =>
                    have H := (build_Limited.l5.eq_2 ..).symm.trans HAp684
                    refine wpLF_app ?_ ha
                    refine L_seq ?_
                    refine L_region ?_
                    refine F_val rfl rfl rfl (O_lt rfl rfl rfl) ?_
                    refine F_nil ?_
                    refine L_seq ?_
                    refine L_condP rfl (fun c689 => ?_) (fun c689 => ?_)
                    · have H := of_pos H c689
                      refine L_skip ?_
                      refine L_seq ?_
                      refine L_blk (fun Q690 hN690 hX690 hO690 => ?_)
                      refine L_seq ?_
                      refine L_region ?_
                      obtain ⟨⟨g691, g692⟩, H⟩ := of_gd H
                      refine F_val rfl rfl rfl (O_idx rfl rfl rfl Try.underlying66 size69 g691 g692 (Cells.isA (Cells.sub (HS688.cells_rdc (i := 2) rfl) (Cells.take (HS688.cells_rdc (i := 2) rfl) (IntKind.i64.wrap ((IntKind.i64.wrap (2 * (z16.length : Int))) - 2) : Int).toNat)) (dz_ne (D := D_coin) (dze_take (IntKind.i64.wrap ((IntKind.i64.wrap (2 * (z16.length : Int))) - 2) : Int).toNat (HS688.dze (i := 3) rfl)) g691 g692 (by decide)))) ?_
                      have HS694 : Hp S0 w0 w687 [.rd A_freq_0 (rowC (Eint .i64) l_freq_0), .own A556 c557 (rowC (Eint .i64) l685) 3 (Eint .i64).sz, Rdc l406.length c403 A402 (rowC E_coin ds404), Dz D_coin S0 w0.heap.size B405 ds404 l406, Dz D_coin S0 w0.heap.size B405 [(rdx E_coin (ds404.take (IntKind.i64.wrap ((IntKind.i64.wrap (2 * (z16.length : Int))) - 2) : Int).toNat) t686)] [(rdp (Co.leaf 0 0) (l406.take (IntKind.i64.wrap ((IntKind.i64.wrap (2 * (z16.length : Int))) - 2) : Int).toNat) t686)]] := HS688.dzOne (i := 3) rfl (dz_take (IntKind.i64.wrap ((IntKind.i64.wrap (2 * (z16.length : Int))) - 2) : Int).toNat) (dze_take (IntKind.i64.wrap ((IntKind.i64.wrap (2 * (z16.length : Int))) - 2) : Int).toNat (HS688.dze (i := 3) rfl)) g691 g692
                      refine F_val rfl rfl rfl (O_loadElD (D := D_coin) rfl rfl wide69 (Cells.sub (HS694.cells_rdc (i := 2) rfl) (Cells.take (HS694.cells_rdc (i := 2) rfl) (IntKind.i64.wrap ((IntKind.i64.wrap (2 * (z16.length : Int))) - 2) : Int).toNat)) (dze_take (IntKind.i64.wrap ((IntKind.i64.wrap (2 * (z16.length : Int))) - 2) : Int).toNat (HS694.dze (i := 3) rfl)) g691 g692 (by decide)) ?_
                      refine F_alloc (C := [.int .i64 0, .int .i64 0, .pointer none]) rfl rfl rfl rfl zero69 rfl HS694 (fun w695 g697 HS696 => ?_)
                      have HS696 : Hp S0 w0 w695 [.rd A_freq_0 (rowC (Eint .i64) l_freq_0), .own A556 c557 (rowC (Eint .i64) l685) 3 (Eint .i64).sz, Rdc l406.length c403 A402 (rowC E_coin ds404), Dz D_coin S0 w0.heap.size B405 ds404 l406, Dz D_coin S0 w0.heap.size B405 [(rdx E_coin (ds404.take (IntKind.i64.wrap ((IntKind.i64.wrap (2 * (z16.length : Int))) - 2) : Int).toNat) t686)] [(rdp (Co.leaf 0 0) (l406.take (IntKind.i64.wrap ((IntKind.i64.wrap (2 * (z16.length : Int))) - 2) : Int).toNat) t686)], .box g697 [.int .i64 0, .int .i64 0, .pointer none] 69] := HS696
                      refine F_stB 5 (E_coin.enc (rdx E_coin (ds404.take (IntKind.i64.wrap ((IntKind.i64.wrap (2 * (z16.length : Int))) - 2) : Int).toNat) t686)) rfl rfl rfl rfl rfl size69 HS696 rfl rfl rfl rfl rfl (fun w699 HS700 => ?_)
                      have HS700 : Hp S0 w0 w699 [.rd A_freq_0 (rowC (Eint .i64) l_freq_0), .own A556 c557 (rowC (Eint .i64) l685) 3 (Eint .i64).sz, Rdc l406.length c403 A402 (rowC E_coin ds404), Dz D_coin S0 w0.heap.size B405 ds404 l406, Dz D_coin S0 w0.heap.size B405 [(rdx E_coin (ds404.take (IntKind.i64.wrap ((IntKind.i64.wrap (2 * (z16.length : Int))) - 2) : Int).toNat) t686)] [(rdp (Co.leaf 0 0) (l406.take (IntKind.i64.wrap ((IntKind.i64.wrap (2 * (z16.length : Int))) - 2) : Int).toNat) t686)], .box g697 (E_coin.enc (rdx E_coin (ds404.take (IntKind.i64.wrap ((IntKind.i64.wrap (2 * (z16.length : Int))) - 2) : Int).toNat) t686)) 69] := HS700
                      refine F_nil ?_
                      refine L_region ?_
                      refine F_val rfl rfl rfl (O_loadWB' (k := 0) (vs := E_coin.enc (rdx E_coin (ds404.take (IntKind.i64.wrap ((IntKind.i64.wrap (2 * (z16.length : Int))) - 2) : Int).toNat) t686)) rfl rfl wide69 (HS700.cells_box (i := 5) rfl) rfl rfl (List.cons_ne_nil _ _)) ?_
                      refine F_val rfl rfl rfl (O_move rfl rfl) ?_
                      obtain ⟨z705, h704, H⟩ := of_bind H
                      refine F_call (xs := [.tmp 88, .tmp 89]) rfl rfl rfl rfl Try.func52 nm52 rfl rfl ((build_coin_into.calls (HS700.give [1] rfl (Lent.dz HS700 (Lent.nil) (i := 4) rfl dz_self (HS700.dze (i := 4) rfl))) h704).mono (fun e w hc => ?_))
                      obtain ⟨rfl, HSo, hl708⟩ := hc
                      refine ⟨.tuple #[], rfl, ?_⟩
                      have HS707 : Hp S0 w0 w [.rd A_freq_0 (rowC (Eint .i64) l_freq_0), .own A556 c557 (rowC (Eint .i64) z705) 3 (Eint .i64).sz, Rdc l406.length c403 A402 (rowC E_coin ds404), Dz D_coin S0 w0.heap.size B405 ds404 l406, Dz D_coin S0 w0.heap.size B405 [(rdx E_coin (ds404.take (IntKind.i64.wrap ((IntKind.i64.wrap (2 * (z16.length : Int))) - 2) : Int).toNat) t686)] [(rdp (Co.leaf 0 0) (l406.take (IntKind.i64.wrap ((IntKind.i64.wrap (2 * (z16.length : Int))) - 2) : Int).toNat) t686)], .box g697 (E_coin.enc (rdx E_coin (ds404.take (IntKind.i64.wrap ((IntKind.i64.wrap (2 * (z16.length : Int))) - 2) : Int).toNat) t686)) 69] := (HS700.back [1] HSo rfl).sel [0, 6, 2, 3, 4, 5] rfl
                      have e709 : l685.length = z705.length := hl708.symm
                      refine F_know (i := 13) rfl (congrArg (fun n => Value.slice A556 n c557) e709) ?_
                      refine F_nil ?_
                      refine L_endB hN690 ?_
                      have HS710 : Hp S0 w0 w [.rd A_freq_0 (rowC (Eint .i64) l_freq_0), .own A556 c557 (rowC (Eint .i64) z705) 3 (Eint .i64).sz, Rdc l406.length c403 A402 (rowC E_coin ds404), Dz D_coin S0 w0.heap.size B405 ds404 l406] := HS707.sel [0, 1, 2, 3] rfl
                      refine L_region ?_
                      refine F_val rfl rfl rfl (O_add rfl rfl rfl) ?_
                      refine F_val rfl rfl rfl (O_move rfl rfl) ?_
                      refine F_nil ?_
                      refine L_nil (fun a ha => hNp684 _ a _ (Nat.lt_succ_self _) ⟨_, _, Is.cons ha (Is.cons ha (Is.cons ha (Is.cons ha (Is.nil ha) rfl) rfl) rfl) rfl, HS710.sel [0, 1, 2, 3] rfl, H⟩)
                    · have H := of_neg H c689
                      refine L_exitB (fun a w h => hOp684 (.exit 4) a w rfl (hXb637 a w h)) ?_
                      refine L_nil (fun a ha => hNj561 a _ ⟨_, (Option.some.inj H).symm, Is.cons ha (Is.nil ha) rfl, HS688.sel [0, 1] rfl⟩)
                · obtain ⟨l636, ej, ha, HS712⟩ := hR
                  obtain rfl := ej.symm
                  refine wpLF_app ?_ ha
                  refine L_seq ?_
                  refine L_region ?_
                  refine F_val rfl rfl rfl (O_move rfl rfl) ?_
                  refine F_val rfl rfl rfl (O_assign rfl rfl) ?_
                  refine F_val rfl rfl rfl (O_assign rfl rfl) ?_
                  refine F_nil ?_
                  refine L_ret (fun a ha => (post_ret2 ha rfl rfl rfl ?_))
                  obtain rfl := Option.some.inj H
                  exact ⟨_, _, rfl, HS712.sel [1] rfl⟩

/-! function 26: valise/valiselaw6.kraft -/
theorem valiselaw6_kraft.calls {S0 : Nat → Prop} {w0 : World} {A_freq_0 : Option Addr} {c_freq_0 : Nat} {A_lens_1 : Option Addr} {c_lens_1 : Nat} {l_freq_0 : List Int} {l_lens_1 : List Int} {limit_2 : Int} {r : Int} (HS0 : Hp S0 w0 w0 [.rd A_freq_0 (rowC (Eint .i64) l_freq_0), .rd A_lens_1 (rowC (Eint .i64) l_lens_1)]) (hc_freq_0 : l_freq_0.length ≤ c_freq_0) (hc_lens_1 : l_lens_1.length ≤ c_lens_1) (h : valiselaw6_kraft.f l_freq_0 l_lens_1 limit_2 = some r) :
    Calls Try.prog 26 ([.slice A_freq_0 l_freq_0.length c_freq_0, .slice A_lens_1 l_lens_1.length c_lens_1, .int .i64 limit_2] : List Value).toArray w0 (fun e w => e = .returned (.int .i64 r) ∧ Hp S0 w0 w []) := by
  have H : ((if (l_lens_1.length : Int) ≠ (l_freq_0.length : Int) then (some (-1)) else ((valiselaw6_kraft.l1 FU 0 0 l_freq_0 l_lens_1 limit_2).bind fun (yj2 : Sum (Int) (Int)) => onR yj2 (fun r => some r) fun sum_83 => some sum_83)) : Option (Int)) = some r := h
  refine calls_start Try.func26 rfl rfl ?_
  refine L_seq ?_
  refine L_region ?_
  refine F_val rfl rfl rfl (O_assign rfl rfl) ?_
  refine F_nil ?_
  refine L_seq ?_
  refine L_seq ?_
  refine L_region ?_
  refine F_val rfl rfl rfl (O_move rfl rfl) ?_
  refine F_val rfl rfl rfl (O_len rfl rfl Try.underlying22) ?_
  refine F_val rfl rfl rfl (O_move rfl rfl) ?_
  refine F_val rfl rfl rfl (O_len rfl rfl Try.underlying22) ?_
  refine F_val rfl rfl rfl (O_ne rfl rfl rfl) ?_
  refine F_nil ?_
  refine L_condP rfl (fun c1 => ?_) (fun c1 => ?_)
  · have H := of_pos H c1
    refine L_seq ?_
    refine L_region ?_
    refine F_val rfl rfl rfl (O_assign rfl rfl) ?_
    refine F_nil ?_
    refine L_ret (fun a ha => (post_ret1 ha rfl rfl ?_))
    obtain rfl := Option.some.inj H
    exact ⟨rfl, HS0.sel [] rfl⟩
  · have H := of_neg H c1
    refine L_skip ?_
    refine L_seq ?_
    refine L_region ?_
    refine F_val rfl rfl rfl (O_assign rfl rfl) ?_
    refine F_nil ?_
    refine L_seq ?_
    refine L_seq ?_
    refine L_region ?_
    refine F_val rfl rfl rfl (O_assign rfl rfl) ?_
    refine F_nil ?_
    obtain ⟨yj2, Hyj2, H⟩ := of_bind H
    refine L_join (fun a w => ∃ (sum_83 : Int), yj2 = Sum.inr sum_83 ∧ Is Try.f26.ntmps a [(7, .int .i64 sum_83)] ∧ Hp S0 w0 w [.rd A_freq_0 (rowC (Eint .i64) l_freq_0), .rd A_lens_1 (rowC (Eint .i64) l_lens_1)]) (fun Qj2 hNj2 hOj2 => ?_) (fun a w hR => ?_)
    · have HOj2 := H
      have H := Hyj2
      refine L_blk (fun Qb84 hNb84 hXb84 hOb84 => ?_)
      refine L_lp (fun k a w => ∃ (sum_136 : Int), ∃ (s_137 : Int), Is Try.f26.ntmps a [(0, .slice A_freq_0 l_freq_0.length c_freq_0), (1, .slice A_lens_1 l_lens_1.length c_lens_1), (2, .int .i64 limit_2), (7, .int .i64 sum_136), (8, .int .i64 s_137)] ∧ Hp S0 w0 w [.rd A_freq_0 (rowC (Eint .i64) l_freq_0), .rd A_lens_1 (rowC (Eint .i64) l_lens_1)] ∧ valiselaw6_kraft.l1 k sum_136 s_137 l_freq_0 l_lens_1 limit_2 = some yj2) FU (fun a ha => ⟨_, _, Is.cons ha (Is.cons ha (Is.cons ha (Is.cons ha (Is.cons ha (Is.nil ha) rfl) rfl) rfl) rfl) rfl, HS0.sel [0, 1] rfl, H⟩) (fun kp135 a w138 hI Qp135 hNp135 hOp135 => ?_)
      obtain ⟨sum_136, s_137, ha, HS139, HAp135⟩ := hI
      cases kp135 with
      | zero => cases (show (none : Option _) = some _ from HAp135)
      | succ kp135 =>
        have H := (valiselaw6_kraft.l1.eq_2 ..).symm.trans HAp135
        refine wpLF_app ?_ ha
        refine L_seq ?_
        refine L_seq ?_
        refine L_region ?_
        refine F_val rfl rfl rfl (O_move rfl rfl) ?_
        refine F_val rfl rfl rfl (O_move rfl rfl) ?_
        refine F_val rfl rfl rfl (O_len rfl rfl Try.underlying22) ?_
        refine F_val rfl rfl rfl (O_lt rfl rfl rfl) ?_
        refine F_nil ?_
        refine L_condP rfl (fun c140 => ?_) (fun c140 => ?_)
        · have H := of_pos H c140
          refine L_skip ?_
          refine L_seq ?_
          refine L_blk (fun Q141 hN141 hX141 hO141 => ?_)
          refine L_seq ?_
          refine L_seq ?_
          refine L_region ?_
          refine F_val rfl rfl rfl (O_move rfl rfl) ?_
          refine F_val rfl rfl rfl (O_move rfl rfl) ?_
          obtain ⟨⟨g142, g143⟩, H⟩ := of_gd H
          refine F_val rfl rfl rfl (O_idx rfl rfl rfl Try.underlying22 size3 g142 g143 (Cells.isA (HS139.cells_rd (i := 0) rfl) (rowC_ne (E := (Eint .i64)) g142 g143 (by decide)))) ?_
          refine F_val rfl rfl rfl (O_loadC rfl rfl flat3 (HS139.cells_rd (i := 0) rfl) (int_cell g142 g143)) ?_
          refine F_val rfl rfl rfl (O_eq rfl rfl rfl) ?_
          refine F_nil ?_
          refine L_condP rfl (fun c144 => ?_) (fun c144 => ?_)
          · have H := of_pos H c144
            refine L_exitB hX141 ?_
            refine L_region ?_
            refine F_val rfl rfl rfl (O_move rfl rfl) ?_
            refine F_val rfl rfl rfl (O_add rfl rfl rfl) ?_
            obtain ⟨x145, h146, H⟩ := of_bnd H
            refine F_val rfl rfl rfl (O_assign' rfl rfl (congrArg (Value.int .i64) h146)) ?_
            refine F_nil ?_
            refine L_nil (fun a ha => hNp135 _ a _ (Nat.lt_succ_self _) ⟨_, _, Is.cons ha (Is.cons ha (Is.cons ha (Is.cons ha (Is.cons ha (Is.nil ha) rfl) rfl) rfl) rfl) rfl, HS139.sel [0, 1] rfl, H⟩)
          · have H := of_neg H c144
            refine L_skip ?_
            refine L_seq ?_
            refine L_seq ?_
            refine L_region ?_
            refine F_val rfl rfl rfl (O_move rfl rfl) ?_
            refine F_val rfl rfl rfl (O_move rfl rfl) ?_
            obtain ⟨⟨g147, g148⟩, H⟩ := of_gd H
            refine F_val rfl rfl rfl (O_idx rfl rfl rfl Try.underlying22 size3 g147 g148 (Cells.isA (HS139.cells_rd (i := 1) rfl) (rowC_ne (E := (Eint .i64)) g147 g148 (by decide)))) ?_
            refine F_val rfl rfl rfl (O_loadC rfl rfl flat3 (HS139.cells_rd (i := 1) rfl) (int_cell g147 g148)) ?_
            refine F_val rfl rfl rfl (O_lt rfl rfl rfl) ?_
            refine F_val rfl rfl rfl (O_move rfl rfl) ?_
            refine F_grp 7 [(37, .bool (decide ((rd l_lens_1 s_137 < 1) ∨ (limit_2 < rd l_lens_1 s_137)))), (0, .slice A_freq_0 l_freq_0.length c_freq_0), (1, .slice A_lens_1 l_lens_1.length c_lens_1), (2, .int .i64 limit_2), (7, .int .i64 sum_136), (8, .int .i64 s_137)] ?_ ?_
            · rcases Decidable.em (rd l_lens_1 s_137 < 1) with c152 | c152
              · refine F_know (i := 30) rfl (dec_t c152) ?_
                refine F_gskip rfl rfl rfl rfl rfl rfl rfl ?_
                refine F_gskip rfl rfl rfl rfl rfl rfl rfl ?_
                refine F_gskip rfl rfl rfl rfl rfl rfl rfl ?_
                refine F_gskip rfl rfl rfl rfl rfl rfl rfl ?_
                refine F_gskip rfl rfl rfl rfl rfl rfl rfl ?_
                refine F_gskip rfl rfl rfl rfl rfl rfl rfl ?_
                refine F_val rfl rfl rfl (O_pickT rfl rfl rfl) ?_
                refine F_know (i := 37) rfl (dec_or_t (q := limit_2 < rd l_lens_1 s_137) c152) ?_
                exact F_grpE (fun a ha => Is.cons ha (Is.cons ha (Is.cons ha (Is.cons ha (Is.cons ha (Is.cons ha (Is.nil ha) rfl) rfl) rfl) rfl) rfl) rfl)
              · refine F_know (i := 30) rfl (dec_f c152) ?_
                refine F_gval rfl rfl rfl rfl rfl rfl (O_move rfl rfl) ?_
                refine F_gval rfl rfl rfl rfl rfl rfl (O_move rfl rfl) ?_
                refine F_gval rfl rfl rfl rfl rfl rfl (O_idx rfl rfl rfl Try.underlying22 size3 g147 g148 (Cells.isA (HS139.cells_rd (i := 1) rfl) (rowC_ne (E := (Eint .i64)) g147 g148 (by decide)))) ?_
                refine F_gval rfl rfl rfl rfl rfl rfl (O_loadC rfl rfl flat3 (HS139.cells_rd (i := 1) rfl) (int_cell g147 g148)) ?_
                refine F_gval rfl rfl rfl rfl rfl rfl (O_move rfl rfl) ?_
                refine F_gval rfl rfl rfl rfl rfl rfl (O_gt rfl rfl rfl) ?_
                refine F_val rfl rfl rfl (O_pickF rfl rfl rfl) ?_
                refine F_know (i := 37) rfl (dec_or_f (q := limit_2 < rd l_lens_1 s_137) c152) ?_
                exact F_grpE (fun a ha => Is.cons ha (Is.cons ha (Is.cons ha (Is.cons ha (Is.cons ha (Is.cons ha (Is.nil ha) rfl) rfl) rfl) rfl) rfl) rfl)
            · skip
              refine F_val rfl rfl rfl (O_move rfl rfl) ?_
              refine F_grp 6 [(44, .bool (decide (((rd l_lens_1 s_137 < 1) ∨ (limit_2 < rd l_lens_1 s_137)) ∨ (60 < rd l_lens_1 s_137)))), (0, .slice A_freq_0 l_freq_0.length c_freq_0), (1, .slice A_lens_1 l_lens_1.length c_lens_1), (2, .int .i64 limit_2), (7, .int .i64 sum_136), (8, .int .i64 s_137)] ?_ ?_
              · rcases Decidable.em ((rd l_lens_1 s_137 < 1) ∨ (limit_2 < rd l_lens_1 s_137)) with c156 | c156
                · refine F_know (i := 38) rfl (dec_t c156) ?_
                  refine F_gskip rfl rfl rfl rfl rfl rfl rfl ?_
                  refine F_gskip rfl rfl rfl rfl rfl rfl rfl ?_
                  refine F_gskip rfl rfl rfl rfl rfl rfl rfl ?_
                  refine F_gskip rfl rfl rfl rfl rfl rfl rfl ?_
                  refine F_gskip rfl rfl rfl rfl rfl rfl rfl ?_
                  refine F_val rfl rfl rfl (O_pickT rfl rfl rfl) ?_
                  refine F_know (i := 44) rfl (dec_or_t (q := 60 < rd l_lens_1 s_137) c156) ?_
                  exact F_grpE (fun a ha => Is.cons ha (Is.cons ha (Is.cons ha (Is.cons ha (Is.cons ha (Is.cons ha (Is.nil ha) rfl) rfl) rfl) rfl) rfl) rfl)
                · refine F_know (i := 38) rfl (dec_f c156) ?_
                  refine F_gval rfl rfl rfl rfl rfl rfl (O_move rfl rfl) ?_
                  refine F_gval rfl rfl rfl rfl rfl rfl (O_move rfl rfl) ?_
                  refine F_gval rfl rfl rfl rfl rfl rfl (O_idx rfl rfl rfl Try.underlying22 size3 g147 g148 (Cells.isA (HS139.cells_rd (i := 1) rfl) (rowC_ne (E := (Eint .i64)) g147 g148 (by decide)))) ?_
                  refine F_gval rfl rfl rfl rfl rfl rfl (O_loadC rfl rfl flat3 (HS139.cells_rd (i := 1) rfl) (int_cell g147 g148)) ?_
                  refine F_gval rfl rfl rfl rfl rfl rfl (O_gt rfl rfl rfl) ?_
                  refine F_val rfl rfl rfl (O_pickF rfl rfl rfl) ?_
                  refine F_know (i := 44) rfl (dec_or_f (q := 60 < rd l_lens_1 s_137) c156) ?_
                  exact F_grpE (fun a ha => Is.cons ha (Is.cons ha (Is.cons ha (Is.cons ha (Is.cons ha (Is.cons ha (Is.nil ha) rfl) rfl) rfl) rfl) rfl) rfl)
              · skip
                refine F_nil ?_
                refine L_condP rfl (fun c157 => ?_) (fun c157 => ?_)
                · have H := of_pos H c157
                  refine L_seq ?_
                  refine L_region ?_
                  refine F_val rfl rfl rfl (O_assign rfl rfl) ?_
                  refine F_nil ?_
                  refine L_ret (fun a ha => (hO141 .ret a _ rfl (hOp135 .ret a _ rfl (hOb84 .ret a _ rfl (hOj2 .ret a _ rfl (post_ret1 ha rfl rfl ?_))))))
                  obtain rfl := Option.some.inj H
                  obtain rfl := Option.some.inj (show (some (-1) : Option (Int)) = some _ from HOj2)
                  exact ⟨rfl, HS139.sel [] rfl⟩
                · have H := of_neg H c157
                  refine L_skip ?_
                  refine L_seq ?_
                  refine L_region ?_
                  refine F_val rfl rfl rfl (O_move rfl rfl) ?_
                  refine F_val rfl rfl rfl (O_move rfl rfl) ?_
                  refine F_val rfl rfl rfl (O_move rfl rfl) ?_
                  refine F_val rfl rfl rfl (O_idx rfl rfl rfl Try.underlying22 size3 g147 g148 (Cells.isA (HS139.cells_rd (i := 1) rfl) (rowC_ne (E := (Eint .i64)) g147 g148 (by decide)))) ?_
                  refine F_val rfl rfl rfl (O_loadC rfl rfl flat3 (HS139.cells_rd (i := 1) rfl) (int_cell g147 g148)) ?_
                  refine F_val rfl rfl rfl (O_sub rfl rfl rfl) ?_
                  refine F_val rfl rfl rfl (O_conv rfl rfl ⟨_, Try.underlying3⟩ Try.underlying43) ?_
                  obtain ⟨g158, H⟩ := of_gd H
                  refine F_val rfl rfl rfl (O_shl rfl rfl rfl g158) ?_
                  refine F_val rfl rfl rfl (O_add rfl rfl rfl) ?_
                  obtain ⟨x159, h160, H⟩ := of_bnd H
                  refine F_val rfl rfl rfl (O_assign' rfl rfl (congrArg (Value.int .i64) h160)) ?_
                  refine F_nil ?_
                  refine L_seq ?_
                  refine L_region ?_
                  refine F_val rfl rfl rfl (O_move rfl rfl) ?_
                  refine F_val rfl rfl rfl (O_gt rfl rfl rfl) ?_
                  refine F_nil ?_
                  refine L_condP rfl (fun c161 => ?_) (fun c161 => ?_)
                  · have H := of_pos H c161
                    refine L_seq ?_
                    refine L_region ?_
                    refine F_val rfl rfl rfl (O_assign rfl rfl) ?_
                    refine F_nil ?_
                    refine L_ret (fun a ha => (hO141 .ret a _ rfl (hOp135 .ret a _ rfl (hOb84 .ret a _ rfl (hOj2 .ret a _ rfl (post_ret1 ha rfl rfl ?_))))))
                    obtain rfl := Option.some.inj H
                    obtain rfl := Option.some.inj (show (some (-1) : Option (Int)) = some _ from HOj2)
                    exact ⟨rfl, HS139.sel [] rfl⟩
                  · have H := of_neg H c161
                    refine L_skip ?_
                    refine L_endB hN141 ?_
                    refine L_region ?_
                    refine F_val rfl rfl rfl (O_move rfl rfl) ?_
                    refine F_val rfl rfl rfl (O_add rfl rfl rfl) ?_
                    obtain ⟨x162, h163, H⟩ := of_bnd H
                    refine F_val rfl rfl rfl (O_assign' rfl rfl (congrArg (Value.int .i64) h163)) ?_
                    refine F_nil ?_
                    refine L_nil (fun a ha => hNp135 _ a _ (Nat.lt_succ_self _) ⟨_, _, Is.cons ha (Is.cons ha (Is.cons ha (Is.cons ha (Is.cons ha (Is.nil ha) rfl) rfl) rfl) rfl) rfl, HS139.sel [0, 1] rfl, H⟩)
        · have H := of_neg H c140
          refine L_exitB (fun a w h => hOp135 (.exit 0) a w rfl (hXb84 a w h)) ?_
          refine L_nil (fun a ha => hNj2 a _ ⟨_, (Option.some.inj H).symm, Is.cons ha (Is.nil ha) rfl, HS139.sel [0, 1] rfl⟩)
    · obtain ⟨sum_83, rfl, ha, HS165⟩ := hR
      refine wpLF_app ?_ ha
      have H := (onR_inr _ _ _).symm.trans H
      refine L_seq ?_
      refine L_region ?_
      refine F_val rfl rfl rfl (O_move rfl rfl) ?_
      refine F_val rfl rfl rfl (O_assign rfl rfl) ?_
      refine F_nil ?_
      refine L_ret (fun a ha => (post_ret1 ha rfl rfl ?_))
      obtain rfl := Option.some.inj H
      exact ⟨rfl, HS165.sel [] rfl⟩

/-! function 25: valise/valiselaw6.good -/
theorem valiselaw6_good.calls {S0 : Nat → Prop} {w0 : World} {A_freq_0 : Option Addr} {c_freq_0 : Nat} {A_lens_1 : Option Addr} {c_lens_1 : Nat} {l_freq_0 : List Int} {l_lens_1 : List Int} {limit_2 : Int} {r : Bool} (HS0 : Hp S0 w0 w0 [.rd A_freq_0 (rowC (Eint .i64) l_freq_0), .rd A_lens_1 (rowC (Eint .i64) l_lens_1)]) (hc_freq_0 : l_freq_0.length ≤ c_freq_0) (hc_lens_1 : l_lens_1.length ≤ c_lens_1) (h : valiselaw6_good.f l_freq_0 l_lens_1 limit_2 = some r) :
    Calls Try.prog 25 ([.slice A_freq_0 l_freq_0.length c_freq_0, .slice A_lens_1 l_lens_1.length c_lens_1, .int .i64 limit_2] : List Value).toArray w0 (fun e w => e = .returned (.bool r) ∧ Hp S0 w0 w []) := by
  have H : ((if (l_lens_1.length : Int) ≠ (l_freq_0.length : Int) then (some false) else ((valiselaw6_uses.f l_freq_0).bind fun z4 => (valiselaw6_good.l1 FU 0 l_freq_0 l_lens_1 z4).bind fun (yj8 : Sum (Bool) (Unit)) => onR yj8 (fun r => some r) fun () => (if z4 < 2 then (some true) else ((valiselaw6_kraft.f l_freq_0 l_lens_1 limit_2).bind fun z216 => some (decide (z216 = 1152921504606846976)))).bind fun b209 => some b209)) : Option (Bool)) = some r := h
  refine calls_start Try.func25 rfl rfl ?_
  refine L_seq ?_
  refine L_region ?_
  refine F_val rfl rfl rfl (O_assign rfl rfl) ?_
  refine F_nil ?_
  refine L_seq ?_
  refine L_seq ?_
  refine L_region ?_
  refine F_val rfl rfl rfl (O_move rfl rfl) ?_
  refine F_val rfl rfl rfl (O_len rfl rfl Try.underlying22) ?_
  refine F_val rfl rfl rfl (O_move rfl rfl) ?_
  refine F_val rfl rfl rfl (O_len rfl rfl Try.underlying22) ?_
  refine F_val rfl rfl rfl (O_ne rfl rfl rfl) ?_
  refine F_nil ?_
  refine L_condP rfl (fun c1 => ?_) (fun c1 => ?_)
  · have H := of_pos H c1
    refine L_seq ?_
    refine L_region ?_
    refine F_val rfl rfl rfl (O_assign rfl rfl) ?_
    refine F_nil ?_
    refine L_ret (fun a ha => (post_ret1 ha rfl rfl ?_))
    obtain rfl := Option.some.inj H
    exact ⟨rfl, HS0.sel [] rfl⟩
  · have H := of_neg H c1
    refine L_skip ?_
    refine L_seq ?_
    refine L_region ?_
    refine F_val rfl rfl rfl (O_move rfl rfl) ?_
    obtain ⟨z4, h3, H⟩ := of_bind H
    refine F_qcall (v := .int .i64 z4) (xs := [.tmp 14]) rfl rfl rfl rfl Try.func30 nm30 rfl rfl ((valiselaw6_uses.calls (HS0.give [] rfl (Lent.rd HS0 (Lent.nil) (i := 0) rfl ((HS0.cells_rd (i := 0) rfl).self))) hc_freq_0 h3).mono (fun e w hc => ?_)) (fun w5 hw6 => ?_)
    · obtain ⟨rfl, h⟩ := hc
      exact ⟨rfl, h.chg0⟩
    have HS7 := HS0.keep hw6
    refine F_val rfl rfl rfl (O_assign rfl rfl) ?_
    refine F_nil ?_
    refine L_seq ?_
    refine L_seq ?_
    refine L_region ?_
    refine F_val rfl rfl rfl (O_assign rfl rfl) ?_
    refine F_nil ?_
    obtain ⟨yj8, Hyj8, H⟩ := of_bind H
    refine L_join (fun a w => yj8 = Sum.inr () ∧ Is Try.f25.ntmps a [(0, .slice A_freq_0 l_freq_0.length c_freq_0), (1, .slice A_lens_1 l_lens_1.length c_lens_1), (2, .int .i64 limit_2), (7, .int .i64 z4)] ∧ Hp S0 w0 w [.rd A_freq_0 (rowC (Eint .i64) l_freq_0), .rd A_lens_1 (rowC (Eint .i64) l_lens_1)]) (fun Qj8 hNj8 hOj8 => ?_) (fun a w hR => ?_)
    · have HOj8 := H
      have H := Hyj8
      refine L_blk (fun Qb105 hNb105 hXb105 hOb105 => ?_)
      refine L_lp (fun k a w => ∃ (s_168 : Int), Is Try.f25.ntmps a [(0, .slice A_freq_0 l_freq_0.length c_freq_0), (1, .slice A_lens_1 l_lens_1.length c_lens_1), (2, .int .i64 limit_2), (7, .int .i64 z4), (8, .int .i64 s_168)] ∧ Hp S0 w0 w [.rd A_freq_0 (rowC (Eint .i64) l_freq_0), .rd A_lens_1 (rowC (Eint .i64) l_lens_1)] ∧ valiselaw6_good.l1 k s_168 l_freq_0 l_lens_1 z4 = some yj8) FU (fun a ha => ⟨_, Is.cons ha (Is.cons ha (Is.cons ha (Is.cons ha (Is.cons ha (Is.nil ha) rfl) rfl) rfl) rfl) rfl, HS7.sel [0, 1] rfl, H⟩) (fun kp167 a w169 hI Qp167 hNp167 hOp167 => ?_)
      obtain ⟨s_168, ha, HS170, HAp167⟩ := hI
      cases kp167 with
      | zero => cases (show (none : Option _) = some _ from HAp167)
      | succ kp167 =>
        have H := (valiselaw6_good.l1.eq_2 ..).symm.trans HAp167
        refine wpLF_app ?_ ha
        refine L_seq ?_
        refine L_seq ?_
        refine L_region ?_
        refine F_val rfl rfl rfl (O_move rfl rfl) ?_
        refine F_val rfl rfl rfl (O_move rfl rfl) ?_
        refine F_val rfl rfl rfl (O_len rfl rfl Try.underlying22) ?_
        refine F_val rfl rfl rfl (O_lt rfl rfl rfl) ?_
        refine F_nil ?_
        refine L_condP rfl (fun c171 => ?_) (fun c171 => ?_)
        · have H := of_pos H c171
          refine L_skip ?_
          refine L_seq ?_
          refine L_blk (fun Q172 hN172 hX172 hO172 => ?_)
          refine L_seq ?_
          refine L_seq ?_
          refine L_region ?_
          refine F_val rfl rfl rfl (O_move rfl rfl) ?_
          refine F_val rfl rfl rfl (O_move rfl rfl) ?_
          obtain ⟨⟨g173, g174⟩, H⟩ := of_gd H
          refine F_val rfl rfl rfl (O_idx rfl rfl rfl Try.underlying22 size3 g173 g174 (Cells.isA (HS170.cells_rd (i := 0) rfl) (rowC_ne (E := (Eint .i64)) g173 g174 (by decide)))) ?_
          refine F_val rfl rfl rfl (O_loadC rfl rfl flat3 (HS170.cells_rd (i := 0) rfl) (int_cell g173 g174)) ?_
          refine F_val rfl rfl rfl (O_eq rfl rfl rfl) ?_
          refine F_val rfl rfl rfl (O_move rfl rfl) ?_
          obtain ⟨b177, Hb177, H⟩ := of_bind H
          refine F_grp 6 [(33, .bool b177), (0, .slice A_freq_0 l_freq_0.length c_freq_0), (1, .slice A_lens_1 l_lens_1.length c_lens_1), (2, .int .i64 limit_2), (7, .int .i64 z4), (8, .int .i64 s_168)] ?_ ?_
          · rcases Decidable.em (rd l_freq_0 s_168 = 0) with c181 | c181
            · refine F_know (i := 27) rfl (dec_t c181) ?_
              have H := of_pos Hb177 c181
              refine F_gval rfl rfl rfl rfl rfl rfl (O_move rfl rfl) ?_
              refine F_gval rfl rfl rfl rfl rfl rfl (O_move rfl rfl) ?_
              obtain ⟨⟨g182, g183⟩, H⟩ := of_gd H
              refine F_gval rfl rfl rfl rfl rfl rfl (O_idx rfl rfl rfl Try.underlying22 size3 g182 g183 (Cells.isA (HS170.cells_rd (i := 1) rfl) (rowC_ne (E := (Eint .i64)) g182 g183 (by decide)))) ?_
              refine F_gval rfl rfl rfl rfl rfl rfl (O_loadC rfl rfl flat3 (HS170.cells_rd (i := 1) rfl) (int_cell g182 g183)) ?_
              refine F_gval rfl rfl rfl rfl rfl rfl (O_ne rfl rfl rfl) ?_
              refine F_val rfl rfl rfl (O_pickT rfl rfl rfl) ?_
              refine F_know (i := 33) rfl (congrArg Value.bool (Option.some.inj H)) ?_
              exact F_grpE (fun a ha => Is.cons ha (Is.cons ha (Is.cons ha (Is.cons ha (Is.cons ha (Is.cons ha (Is.nil ha) rfl) rfl) rfl) rfl) rfl) rfl)
            · refine F_know (i := 27) rfl (dec_f c181) ?_
              have H := of_neg Hb177 c181
              refine F_gskip rfl rfl rfl rfl rfl rfl rfl ?_
              refine F_gskip rfl rfl rfl rfl rfl rfl rfl ?_
              refine F_gskip rfl rfl rfl rfl rfl rfl rfl ?_
              refine F_gskip rfl rfl rfl rfl rfl rfl rfl ?_
              refine F_gskip rfl rfl rfl rfl rfl rfl rfl ?_
              refine F_val rfl rfl rfl (O_pickF rfl rfl rfl) ?_
              refine F_know (i := 33) rfl (congrArg Value.bool (Option.some.inj H)) ?_
              exact F_grpE (fun a ha => Is.cons ha (Is.cons ha (Is.cons ha (Is.cons ha (Is.cons ha (Is.cons ha (Is.nil ha) rfl) rfl) rfl) rfl) rfl) rfl)
          · skip
            refine F_nil ?_
            refine L_cond rfl (fun c184 => ?_) (fun c184 => ?_)
            · have H := of_pos H c184
              refine L_seq ?_
              refine L_region ?_
              refine F_val rfl rfl rfl (O_assign rfl rfl) ?_
              refine F_nil ?_
              refine L_ret (fun a ha => (hO172 .ret a _ rfl (hOp167 .ret a _ rfl (hOb105 .ret a _ rfl (hOj8 .ret a _ rfl (post_ret1 ha rfl rfl ?_))))))
              obtain rfl := Option.some.inj H
              obtain rfl := Option.some.inj (show (some false : Option (Bool)) = some _ from HOj8)
              exact ⟨rfl, HS170.sel [] rfl⟩
            · have H := of_neg H (by rw [c184]; exact Bool.false_ne_true)
              refine L_skip ?_
              refine L_seq ?_
              refine L_region ?_
              refine F_val rfl rfl rfl (O_move rfl rfl) ?_
              refine F_val rfl rfl rfl (O_move rfl rfl) ?_
              refine F_val rfl rfl rfl (O_idx rfl rfl rfl Try.underlying22 size3 g173 g174 (Cells.isA (HS170.cells_rd (i := 0) rfl) (rowC_ne (E := (Eint .i64)) g173 g174 (by decide)))) ?_
              refine F_val rfl rfl rfl (O_loadC rfl rfl flat3 (HS170.cells_rd (i := 0) rfl) (int_cell g173 g174)) ?_
              refine F_val rfl rfl rfl (O_gt rfl rfl rfl) ?_
              refine F_val rfl rfl rfl (O_move rfl rfl) ?_
              refine F_grp 3 [(42, .bool (decide ((0 < rd l_freq_0 s_168) ∧ (z4 = 1)))), (0, .slice A_freq_0 l_freq_0.length c_freq_0), (1, .slice A_lens_1 l_lens_1.length c_lens_1), (2, .int .i64 limit_2), (7, .int .i64 z4), (8, .int .i64 s_168)] ?_ ?_
              · rcases Decidable.em (0 < rd l_freq_0 s_168) with c188 | c188
                · refine F_know (i := 39) rfl (dec_t c188) ?_
                  refine F_gval rfl rfl rfl rfl rfl rfl (O_move rfl rfl) ?_
                  refine F_gval rfl rfl rfl rfl rfl rfl (O_eq rfl rfl rfl) ?_
                  refine F_val rfl rfl rfl (O_pickT rfl rfl rfl) ?_
                  refine F_know (i := 42) rfl (dec_and_t (q := z4 = 1) c188) ?_
                  exact F_grpE (fun a ha => Is.cons ha (Is.cons ha (Is.cons ha (Is.cons ha (Is.cons ha (Is.cons ha (Is.nil ha) rfl) rfl) rfl) rfl) rfl) rfl)
                · refine F_know (i := 39) rfl (dec_f c188) ?_
                  refine F_gskip rfl rfl rfl rfl rfl rfl rfl ?_
                  refine F_gskip rfl rfl rfl rfl rfl rfl rfl ?_
                  refine F_val rfl rfl rfl (O_pickF rfl rfl rfl) ?_
                  refine F_know (i := 42) rfl (dec_and_f (q := z4 = 1) c188) ?_
                  exact F_grpE (fun a ha => Is.cons ha (Is.cons ha (Is.cons ha (Is.cons ha (Is.cons ha (Is.cons ha (Is.nil ha) rfl) rfl) rfl) rfl) rfl) rfl)
              · skip
                refine F_val rfl rfl rfl (O_move rfl rfl) ?_
                obtain ⟨b191, Hb191, H⟩ := of_bind H
                refine F_grp 6 [(49, .bool b191), (0, .slice A_freq_0 l_freq_0.length c_freq_0), (1, .slice A_lens_1 l_lens_1.length c_lens_1), (2, .int .i64 limit_2), (7, .int .i64 z4), (8, .int .i64 s_168)] ?_ ?_
                · rcases Decidable.em ((0 < rd l_freq_0 s_168) ∧ (z4 = 1)) with c195 | c195
                  · refine F_know (i := 43) rfl (dec_t c195) ?_
                    have H := of_pos Hb191 c195
                    refine F_gval rfl rfl rfl rfl rfl rfl (O_move rfl rfl) ?_
                    refine F_gval rfl rfl rfl rfl rfl rfl (O_move rfl rfl) ?_
                    obtain ⟨⟨g196, g197⟩, H⟩ := of_gd H
                    refine F_gval rfl rfl rfl rfl rfl rfl (O_idx rfl rfl rfl Try.underlying22 size3 g196 g197 (Cells.isA (HS170.cells_rd (i := 1) rfl) (rowC_ne (E := (Eint .i64)) g196 g197 (by decide)))) ?_
                    refine F_gval rfl rfl rfl rfl rfl rfl (O_loadC rfl rfl flat3 (HS170.cells_rd (i := 1) rfl) (int_cell g196 g197)) ?_
                    refine F_gval rfl rfl rfl rfl rfl rfl (O_ne rfl rfl rfl) ?_
                    refine F_val rfl rfl rfl (O_pickT rfl rfl rfl) ?_
                    refine F_know (i := 49) rfl (congrArg Value.bool (Option.some.inj H)) ?_
                    exact F_grpE (fun a ha => Is.cons ha (Is.cons ha (Is.cons ha (Is.cons ha (Is.cons ha (Is.cons ha (Is.nil ha) rfl) rfl) rfl) rfl) rfl) rfl)
                  · refine F_know (i := 43) rfl (dec_f c195) ?_
                    have H := of_neg Hb191 c195
                    refine F_gskip rfl rfl rfl rfl rfl rfl rfl ?_
                    refine F_gskip rfl rfl rfl rfl rfl rfl rfl ?_
                    refine F_gskip rfl rfl rfl rfl rfl rfl rfl ?_
                    refine F_gskip rfl rfl rfl rfl rfl rfl rfl ?_
                    refine F_gskip rfl rfl rfl rfl rfl rfl rfl ?_
                    refine F_val rfl rfl rfl (O_pickF rfl rfl rfl) ?_
                    refine F_know (i := 49) rfl (congrArg Value.bool (Option.some.inj H)) ?_
                    exact F_grpE (fun a ha => Is.cons ha (Is.cons ha (Is.cons ha (Is.cons ha (Is.cons ha (Is.cons ha (Is.nil ha) rfl) rfl) rfl) rfl) rfl) rfl)
                · skip
                  refine F_nil ?_
                  refine L_cond rfl (fun c198 => ?_) (fun c198 => ?_)
                  · have H := of_pos H c198
                    refine L_seq ?_
                    refine L_region ?_
                    refine F_val rfl rfl rfl (O_assign rfl rfl) ?_
                    refine F_nil ?_
                    refine L_ret (fun a ha => (hO172 .ret a _ rfl (hOp167 .ret a _ rfl (hOb105 .ret a _ rfl (hOj8 .ret a _ rfl (post_ret1 ha rfl rfl ?_))))))
                    obtain rfl := Option.some.inj H
                    obtain rfl := Option.some.inj (show (some false : Option (Bool)) = some _ from HOj8)
                    exact ⟨rfl, HS170.sel [] rfl⟩
                  · have H := of_neg H (by rw [c198]; exact Bool.false_ne_true)
                    refine L_skip ?_
                    refine L_endB hN172 ?_
                    refine L_region ?_
                    refine F_val rfl rfl rfl (O_move rfl rfl) ?_
                    refine F_val rfl rfl rfl (O_add rfl rfl rfl) ?_
                    obtain ⟨x199, h200, H⟩ := of_bnd H
                    refine F_val rfl rfl rfl (O_assign' rfl rfl (congrArg (Value.int .i64) h200)) ?_
                    refine F_nil ?_
                    refine L_nil (fun a ha => hNp167 _ a _ (Nat.lt_succ_self _) ⟨_, Is.cons ha (Is.cons ha (Is.cons ha (Is.cons ha (Is.cons ha (Is.nil ha) rfl) rfl) rfl) rfl) rfl, HS170.sel [0, 1] rfl, H⟩)
        · have H := of_neg H c171
          refine L_exitB (fun a w h => hOp167 (.exit 0) a w rfl (hXb105 a w h)) ?_
          refine L_nil (fun a ha => hNj8 a _ ⟨(Option.some.inj H).symm, Is.cons ha (Is.cons ha (Is.cons ha (Is.cons ha (Is.nil ha) rfl) rfl) rfl) rfl, HS170.sel [0, 1] rfl⟩)
    · obtain ⟨rfl, ha, HS202⟩ := hR
      refine wpLF_app ?_ ha
      have H := (onR_inr _ _ _).symm.trans H
      refine L_seq ?_
      refine L_region ?_
      refine F_val rfl rfl rfl (O_move rfl rfl) ?_
      refine F_val rfl rfl rfl (O_lt rfl rfl rfl) ?_
      refine F_val rfl rfl rfl (O_move rfl rfl) ?_
      obtain ⟨b209, Hb209, H⟩ := of_bind H
      refine F_grpQ 6 [(58, .bool b209)] ?_ (fun w210 hw211 => ?_)
      · rcases Decidable.em (z4 < 2) with c213 | c213
        · refine F_know (i := 52) rfl (dec_t c213) ?_
          have H := of_pos Hb209 c213
          refine F_gskip rfl rfl rfl rfl rfl rfl rfl ?_
          refine F_gskip rfl rfl rfl rfl rfl rfl rfl ?_
          refine F_gskip rfl rfl rfl rfl rfl rfl rfl ?_
          refine F_gskip rfl rfl rfl rfl rfl rfl rfl ?_
          refine F_gskip rfl rfl rfl rfl rfl rfl rfl ?_
          refine F_val rfl rfl rfl (O_pickT rfl rfl rfl) ?_
          refine F_know (i := 58) rfl (congrArg Value.bool (Option.some.inj H)) ?_
          exact F_grpQE (Chg.refl NoB _) (fun a ha => Is.cons ha (Is.nil ha) rfl)
        · refine F_know (i := 52) rfl (dec_f c213) ?_
          have H := of_neg Hb209 c213
          refine F_gval rfl rfl rfl rfl rfl rfl (O_move rfl rfl) ?_
          refine F_gval rfl rfl rfl rfl rfl rfl (O_move rfl rfl) ?_
          refine F_gval rfl rfl rfl rfl rfl rfl (O_move rfl rfl) ?_
          obtain ⟨z216, h215, H⟩ := of_bind H
          refine F_gqcall (v := .int .i64 z216) (xs := [.tmp 53, .tmp 54, .tmp 55]) rfl rfl rfl rfl rfl rfl rfl Try.func26 nm26 rfl rfl ((valiselaw6_kraft.calls (HS202.give [] rfl (Lent.rd HS202 (Lent.rd HS202 (Lent.nil) (i := 1) rfl ((HS202.cells_rd (i := 1) rfl).self)) (i := 0) rfl ((HS202.cells_rd (i := 0) rfl).self))) hc_freq_0 hc_lens_1 h215).mono (fun e w hc => ?_)) (fun w217 hw218 => ?_)
          · obtain ⟨rfl, h⟩ := hc
            exact ⟨rfl, h.chg0⟩
          have HS219 := HS202.keep hw218
          refine F_gval rfl rfl rfl rfl rfl rfl (O_eq rfl rfl rfl) ?_
          refine F_val rfl rfl rfl (O_pickF rfl rfl rfl) ?_
          refine F_know (i := 58) rfl (congrArg Value.bool (Option.some.inj H)) ?_
          exact F_grpQE ((Chg.refl NoB _).trans hw218) (fun a ha => Is.cons ha (Is.nil ha) rfl)
      · have HS212 := HS202.keep hw211
        refine F_val rfl rfl rfl (O_assign rfl rfl) ?_
        refine F_nil ?_
        refine L_ret (fun a ha => (post_ret1 ha rfl rfl ?_))
        obtain rfl := Option.some.inj H
        exact ⟨rfl, HS212.sel [] rfl⟩

end Go.Proofs.Ytbegkkmngkpjmaa
