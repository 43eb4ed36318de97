import Derived.Test.YtbegkkmngkpjmaaGBuildLimitedWalk2
set_option linter.unusedVariables false
set_option linter.unusedSimpArgs false
set_option maxRecDepth 10000
set_option maxHeartbeats 1000000
namespace Go.Proofs.Ytbegkkmngkpjmaa
open Go Go.V Go.V.Pu
/-! function 55: valise/valiseref6.merged -/
theorem valiseref6_merged.calls {S0 : Nat → Prop} {w0 : World} {A_first_0 : Option Addr} {c_first_0 : Nat} {ds_first_0 : List ((Int × List Int) × Option Addr × Nat)} {B_first_0 : Nat → Prop} {A_packs_1 : Option Addr} {c_packs_1 : Nat} {ds_packs_1 : List ((Int × List Int) × Option Addr × Nat)} {B_packs_1 : Nat → Prop} {l_first_0 : List (Int × List Int)} {l_packs_1 : List (Int × List Int)} {r : List (Int × List Int)} (HS0 : Hp S0 w0 w0 [.rd A_first_0 (rowC E_valiseref6_Node ds_first_0), Dz D_valiseref6_Node anyB 0 B_first_0 ds_first_0 l_first_0, .rd A_packs_1 (rowC E_valiseref6_Node ds_packs_1), Dz D_valiseref6_Node anyB 0 B_packs_1 ds_packs_1 l_packs_1]) (hc_first_0 : l_first_0.length ≤ c_first_0) (hc_packs_1 : l_packs_1.length ≤ c_packs_1) (h : valiseref6_merged.f l_first_0 l_packs_1 = some r) :
    Calls Try.prog 55 ([.slice A_first_0 l_first_0.length c_first_0, .slice A_packs_1 l_packs_1.length c_packs_1] : List Value).toArray w0 (fun e w => ∃ (A1 : Option Addr), ∃ (c1 : Nat), ∃ (ds1 : List ((Int × List Int) × Option Addr × Nat)), ∃ (B1 : Nat → Prop), e = .returned (.slice A1 r.length c1) ∧ Hp S0 w0 w [.own A1 c1 (rowC E_valiseref6_Node ds1) 61 E_valiseref6_Node.sz, Dz D_valiseref6_Node (orB (orB S0 B_first_0) B_packs_1) w0.heap.size B1 ds1 r]) := by
  have H : (((valiseref6_merged.l1 FU ([] : List (Int × List Int)) 0 0 l_first_0 l_packs_1).bind fun l497 => some l497) : Option (List (Int × List Int))) = some r := h
  refine calls_start Try.func55 rfl rfl ?_
  have HS1 : Hp S0 w0 w0 [.rd A_first_0 (rowC E_valiseref6_Node ds_first_0), Dz D_valiseref6_Node (orB (orB S0 B_first_0) B_packs_1) w0.heap.size B_first_0 ds_first_0 l_first_0, .rd A_packs_1 (rowC E_valiseref6_Node ds_packs_1), Dz D_valiseref6_Node anyB 0 B_packs_1 ds_packs_1 l_packs_1] := HS0.dzProv (i := 1) rfl (fun b _ hb => .inl (.inl (.inr hb)))
  have HS2 : Hp S0 w0 w0 [.rd A_first_0 (rowC E_valiseref6_Node ds_first_0), Dz D_valiseref6_Node (orB (orB S0 B_first_0) B_packs_1) w0.heap.size B_first_0 ds_first_0 l_first_0, .rd A_packs_1 (rowC E_valiseref6_Node ds_packs_1), Dz D_valiseref6_Node (orB (orB S0 B_first_0) B_packs_1) w0.heap.size B_packs_1 ds_packs_1 l_packs_1] := HS1.dzProv (i := 3) rfl (fun b _ hb => .inl (.inr hb))
  refine L_seq ?_
  refine L_region ?_
  refine F_val rfl rfl rfl (O_assign rfl rfl) ?_
  refine F_nil ?_
  refine L_seq ?_
  refine L_region ?_
  refine F_val rfl rfl rfl (O_assign rfl rfl) ?_
  have HS3 := (HS2.addNil 61 E_valiseref6_Node.sz).dzNil D_valiseref6_Node (orB (orB S0 B_first_0) B_packs_1) w0.heap.size
  have HS3 : Hp S0 w0 w0 [.rd A_first_0 (rowC E_valiseref6_Node ds_first_0), Dz D_valiseref6_Node (orB (orB S0 B_first_0) B_packs_1) w0.heap.size B_first_0 ds_first_0 l_first_0, .rd A_packs_1 (rowC E_valiseref6_Node ds_packs_1), Dz D_valiseref6_Node (orB (orB S0 B_first_0) B_packs_1) w0.heap.size B_packs_1 ds_packs_1 l_packs_1, .own none 0 (rowC E_valiseref6_Node ([] : List ((Int × List Int) × Option Addr × Nat))) 61 E_valiseref6_Node.sz, Dz D_valiseref6_Node (orB (orB S0 B_first_0) B_packs_1) w0.heap.size NoB ([] : List ((Int × List Int) × Option Addr × Nat)) ([] : List (Int × List Int))] := HS3
  refine F_nil ?_
  refine L_seq ?_
  refine L_region ?_
  refine F_val rfl rfl rfl (O_assign rfl rfl) ?_
  refine F_nil ?_
  refine L_seq ?_
  refine L_region ?_
  refine F_val rfl rfl rfl (O_assign rfl rfl) ?_
  refine F_nil ?_
  refine L_seq ?_
  obtain ⟨yj6, Hyj6, H⟩ := of_bind H
  refine L_join (fun a w => ∃ (l497 : List (Int × List Int)), ∃ (A493 : Option Addr), ∃ (c494 : Nat), ∃ (ds495 : List ((Int × List Int) × Option Addr × Nat)), ∃ (B496 : Nat → Prop), yj6 = l497 ∧ Is Try.f55.ntmps a [(5, .slice A493 l497.length c494)] ∧ Hp S0 w0 w [.rd A_first_0 (rowC E_valiseref6_Node ds_first_0), Dz D_valiseref6_Node (orB (orB S0 B_first_0) B_packs_1) w0.heap.size B_first_0 ds_first_0 l_first_0, .rd A_packs_1 (rowC E_valiseref6_Node ds_packs_1), Dz D_valiseref6_Node (orB (orB S0 B_first_0) B_packs_1) w0.heap.size B_packs_1 ds_packs_1 l_packs_1, .own A493 c494 (rowC E_valiseref6_Node ds495) 61 E_valiseref6_Node.sz, Dz D_valiseref6_Node (orB (orB S0 B_first_0) B_packs_1) w0.heap.size B496 ds495 l497]) (fun Qj6 hNj6 hOj6 => ?_) (fun a w hR => ?_)
  · skip
    have H := Hyj6
    refine L_blk (fun Qb498 hNb498 hXb498 hOb498 => ?_)
    refine L_lp (fun k a w => ∃ (l823 : List (Int × List Int)), ∃ (i_824 : Int), ∃ (j_825 : Int), ∃ (A819 : Option Addr), ∃ (c820 : Nat), ∃ (ds821 : List ((Int × List Int) × Option Addr × Nat)), ∃ (B822 : Nat → Prop), Is Try.f55.ntmps a [(0, .slice A_first_0 l_first_0.length c_first_0), (1, .slice A_packs_1 l_packs_1.length c_packs_1), (5, .slice A819 l823.length c820), (6, .int .i64 i_824), (7, .int .i64 j_825)] ∧ Hp S0 w0 w [.rd A_first_0 (rowC E_valiseref6_Node ds_first_0), Dz D_valiseref6_Node (orB (orB S0 B_first_0) B_packs_1) w0.heap.size B_first_0 ds_first_0 l_first_0, .rd A_packs_1 (rowC E_valiseref6_Node ds_packs_1), Dz D_valiseref6_Node (orB (orB S0 B_first_0) B_packs_1) w0.heap.size B_packs_1 ds_packs_1 l_packs_1, .own A819 c820 (rowC E_valiseref6_Node ds821) 61 E_valiseref6_Node.sz, Dz D_valiseref6_Node (orB (orB S0 B_first_0) B_packs_1) w0.heap.size B822 ds821 l823] ∧ valiseref6_merged.l1 k l823 i_824 j_825 l_first_0 l_packs_1 = some yj6) FU (fun a ha => ⟨_, _, _, _, _, _, _, Is.cons ha (Is.cons ha (Is.cons ha (Is.cons ha (Is.cons ha (Is.nil ha) rfl) rfl) rfl) rfl) rfl, HS3.sel [0, 1, 2, 3, 4, 5] rfl, H⟩) (fun kp818 a w826 hI Qp818 hNp818 hOp818 => ?_)
    obtain ⟨l823, i_824, j_825, A819, c820, ds821, B822, ha, HS827, HAp818⟩ := hI
    cases kp818 with
    | zero => cases (show (none : Option _) = some _ from HAp818)
    | succ kp818 =>
      have H := (valiseref6_merged.l1.eq_2 ..).symm.trans HAp818
      refine wpLF_app ?_ ha
      refine L_seq ?_
      refine L_seq ?_
      refine L_region ?_
      refine F_val rfl rfl rfl (O_move rfl rfl) ?_
      refine F_val rfl rfl rfl (O_move rfl rfl) ?_
      refine F_val rfl rfl rfl (O_len rfl rfl Try.underlying59) ?_
      refine F_val rfl rfl rfl (O_lt rfl rfl rfl) ?_
      refine F_val rfl rfl rfl (O_move rfl rfl) ?_
      refine F_grp 5 [(17, .bool (decide ((i_824 < (l_first_0.length : Int)) ∨ (j_825 < (l_packs_1.length : Int))))), (0, .slice A_first_0 l_first_0.length c_first_0), (1, .slice A_packs_1 l_packs_1.length c_packs_1), (5, .slice A819 l823.length c820), (6, .int .i64 i_824), (7, .int .i64 j_825)] ?_ ?_
      · rcases Decidable.em (i_824 < (l_first_0.length : Int)) with c831 | c831
        · refine F_know (i := 12) rfl (dec_t c831) ?_
          refine F_gskip rfl rfl rfl rfl rfl rfl rfl ?_
          refine F_gskip rfl rfl rfl rfl rfl rfl rfl ?_
          refine F_gskip rfl rfl rfl rfl rfl rfl rfl ?_
          refine F_gskip rfl rfl rfl rfl rfl rfl rfl ?_
          refine F_val rfl rfl rfl (O_pickT rfl rfl rfl) ?_
          refine F_know (i := 17) rfl (dec_or_t (q := j_825 < (l_packs_1.length : Int)) c831) ?_
          exact F_grpE (fun a ha => Is.cons ha (Is.cons ha (Is.cons ha (Is.cons ha (Is.cons ha (Is.cons ha (Is.nil ha) rfl) rfl) rfl) rfl) rfl) rfl)
        · refine F_know (i := 12) rfl (dec_f c831) ?_
          refine F_gval rfl rfl rfl rfl rfl rfl (O_move rfl rfl) ?_
          refine F_gval rfl rfl rfl rfl rfl rfl (O_move rfl rfl) ?_
          refine F_gval rfl rfl rfl rfl rfl rfl (O_len rfl rfl Try.underlying59) ?_
          refine F_gval rfl rfl rfl rfl rfl rfl (O_lt rfl rfl rfl) ?_
          refine F_val rfl rfl rfl (O_pickF rfl rfl rfl) ?_
          refine F_know (i := 17) rfl (dec_or_f (q := j_825 < (l_packs_1.length : Int)) c831) ?_
          exact F_grpE (fun a ha => Is.cons ha (Is.cons ha (Is.cons ha (Is.cons ha (Is.cons ha (Is.cons ha (Is.nil ha) rfl) rfl) rfl) rfl) rfl) rfl)
      · skip
        refine F_nil ?_
        refine L_condP rfl (fun c832 => ?_) (fun c832 => ?_)
        · have H := of_pos H c832
          refine L_skip ?_
          refine L_blk (fun Q833 hN833 hX833 hO833 => ?_)
          refine L_seq ?_
          refine L_quiet mix (by kernel_rfl) ?_
          refine Q_val rfl rfl rfl (fun wq hq => O_move rfl rfl) ?_
          refine Q_val rfl rfl rfl (fun wq hq => O_move rfl rfl) ?_
          refine Q_val rfl rfl rfl (fun wq hq => O_len rfl rfl Try.underlying59) ?_
          refine Q_val rfl rfl rfl (fun wq hq => O_eq rfl rfl rfl) ?_
          refine Q_val rfl rfl rfl (fun wq hq => O_move rfl rfl) ?_
          obtain ⟨b855, Hb855, H⟩ := of_bind H
          refine Q_grp 18 [(40, .bool b855), (0, .slice A_first_0 l_first_0.length c_first_0), (1, .slice A_packs_1 l_packs_1.length c_packs_1), (5, .slice A819 l823.length c820), (6, .int .i64 i_824), (7, .int .i64 j_825)] ?_ ?_
          · rcases Decidable.em (j_825 = (l_packs_1.length : Int)) with c859 | c859
            · refine Q_know (i := 22) rfl (dec_t c859) ?_
              have H := of_pos Hb855 c859
              refine Q_gskip rfl rfl rfl rfl rfl rfl rfl ?_
              refine Q_gskip rfl rfl rfl rfl rfl rfl rfl ?_
              refine Q_gskip rfl rfl rfl rfl rfl rfl rfl ?_
              refine Q_gskip rfl rfl rfl rfl rfl rfl rfl ?_
              refine Q_gskip rfl rfl rfl rfl rfl rfl rfl ?_
              refine Q_gskip rfl rfl rfl rfl rfl rfl rfl ?_
              refine Q_gskip rfl rfl rfl rfl rfl rfl rfl ?_
              refine Q_gskip rfl rfl rfl rfl rfl rfl rfl ?_
              refine Q_gskip rfl rfl rfl rfl rfl rfl rfl ?_
              refine Q_gskip rfl rfl rfl rfl rfl rfl rfl ?_
              refine Q_gskip rfl rfl rfl rfl rfl rfl rfl ?_
              refine Q_gskip rfl rfl rfl rfl rfl rfl rfl ?_
              refine Q_gskip rfl rfl rfl rfl rfl rfl rfl ?_
              refine Q_gskip rfl rfl rfl rfl rfl rfl rfl ?_
              refine Q_gskip rfl rfl rfl rfl rfl rfl rfl ?_
              refine Q_gskip rfl rfl rfl rfl rfl rfl rfl ?_
              refine Q_gskip rfl rfl rfl rfl rfl rfl rfl ?_
              refine Q_val rfl rfl rfl (fun wq hq => O_pickT rfl rfl rfl) ?_
              refine Q_know (i := 40) rfl (congrArg Value.bool (Option.some.inj H)) ?_
              exact Q_grpE (fun a ha => Is.cons ha (Is.cons ha (Is.cons ha (Is.cons ha (Is.cons ha (Is.cons ha (Is.nil ha) rfl) rfl) rfl) rfl) rfl) rfl)
            · refine Q_know (i := 22) rfl (dec_f c859) ?_
              have H := of_neg Hb855 c859
              refine Q_gval rfl rfl rfl rfl rfl rfl (fun wq hq => O_move rfl rfl) ?_
              refine Q_gval rfl rfl rfl rfl rfl rfl (fun wq hq => O_move rfl rfl) ?_
              refine Q_gval rfl rfl rfl rfl rfl rfl (fun wq hq => O_len rfl rfl Try.underlying59) ?_
              refine Q_gval rfl rfl rfl rfl rfl rfl (fun wq hq => O_lt rfl rfl rfl) ?_
              refine Q_gval rfl rfl rfl rfl rfl rfl (fun wq hq => O_move rfl rfl) ?_
              obtain ⟨b868, Hb868, H⟩ := of_bind H
              refine Q_grp 12 [(39, .bool b868), (0, .slice A_first_0 l_first_0.length c_first_0), (1, .slice A_packs_1 l_packs_1.length c_packs_1), (5, .slice A819 l823.length c820), (6, .int .i64 i_824), (7, .int .i64 j_825), (22, .bool false), (23, .int .i64 i_824), (24, .slice A_first_0 l_first_0.length c_first_0), (25, .int .i64 (l_first_0.length : Int)), (26, .bool (decide (i_824 < (l_first_0.length : Int)))), (27, .bool (decide (i_824 < (l_first_0.length : Int))))] ?_ ?_
              · rcases Decidable.em (i_824 < (l_first_0.length : Int)) with c872 | c872
                · refine Q_know (i := 27) rfl (dec_t c872) ?_
                  have H := of_pos Hb868 c872
                  refine Q_gval rfl rfl rfl rfl rfl rfl (fun wq hq => O_move rfl rfl) ?_
                  refine Q_gval rfl rfl rfl rfl rfl rfl (fun wq hq => O_move rfl rfl) ?_
                  obtain ⟨⟨g873, g874⟩, H⟩ := of_gd H
                  refine Q_gval rfl rfl rfl rfl rfl rfl (fun wq hq => O_idx rfl rfl rfl Try.underlying59 size61 g873 g874 (Cells.isA ((HS827.keep hq).cells_rd (i := 0) rfl) (dz_ne (D := D_valiseref6_Node) ((HS827.keep hq).dze (i := 1) rfl) g873 g874 (by decide)))) ?_
                  refine Q_gval rfl rfl rfl rfl rfl rfl (fun wq hq => O_fieldC rfl rfl (Cells.isA ((HS827.keep hq).cells_rd (i := 0) rfl) (dz_ne (D := D_valiseref6_Node) ((HS827.keep hq).dze (i := 1) rfl) g873 g874 (by decide))) field61_0) ?_
                  have HS876 : Hp S0 w0 w826 [.rd A_first_0 (rowC E_valiseref6_Node ds_first_0), Dz D_valiseref6_Node (orB (orB S0 B_first_0) B_packs_1) w0.heap.size B_first_0 ds_first_0 l_first_0, .rd A_packs_1 (rowC E_valiseref6_Node ds_packs_1), Dz D_valiseref6_Node (orB (orB S0 B_first_0) B_packs_1) w0.heap.size B_packs_1 ds_packs_1 l_packs_1, .own A819 c820 (rowC E_valiseref6_Node ds821) 61 E_valiseref6_Node.sz, Dz D_valiseref6_Node (orB (orB S0 B_first_0) B_packs_1) w0.heap.size B822 ds821 l823, Dz D_valiseref6_Node (orB (orB S0 B_first_0) B_packs_1) w0.heap.size B_first_0 [(rdx E_valiseref6_Node ds_first_0 i_824)] ([(rdp ((0, []) : (Int × List Int)) l_first_0 i_824)])] := HS827.dzOne (i := 1) rfl dz_self (HS827.dze (i := 1) rfl) g873 g874
                  refine Q_gval rfl rfl rfl rfl rfl rfl (fun wq hq => O_loadC rfl rfl flat3 ((HS876.keep hq).cells_rd (i := 0) rfl) (dz_cell (D := D_valiseref6_Node) (f := fun x => .int .i64 x.1) 0 (fun d => rfl) ((HS876.keep hq).dze (i := 1) rfl) g873 g874)) ?_
                  refine Q_gval rfl rfl rfl rfl rfl rfl (fun wq hq => O_move rfl rfl) ?_
                  refine Q_gval rfl rfl rfl rfl rfl rfl (fun wq hq => O_move rfl rfl) ?_
                  obtain ⟨⟨g877, g878⟩, H⟩ := of_gd H
                  refine Q_gval rfl rfl rfl rfl rfl rfl (fun wq hq => O_idx rfl rfl rfl Try.underlying59 size61 g877 g878 (Cells.isA ((HS876.keep hq).cells_rd (i := 2) rfl) (dz_ne (D := D_valiseref6_Node) ((HS876.keep hq).dze (i := 3) rfl) g877 g878 (by decide)))) ?_
                  refine Q_gval rfl rfl rfl rfl rfl rfl (fun wq hq => O_fieldC rfl rfl (Cells.isA ((HS876.keep hq).cells_rd (i := 2) rfl) (dz_ne (D := D_valiseref6_Node) ((HS876.keep hq).dze (i := 3) rfl) g877 g878 (by decide))) field61_0) ?_
                  have HS880 : Hp S0 w0 w826 [.rd A_first_0 (rowC E_valiseref6_Node ds_first_0), Dz D_valiseref6_Node (orB (orB S0 B_first_0) B_packs_1) w0.heap.size B_first_0 ds_first_0 l_first_0, .rd A_packs_1 (rowC E_valiseref6_Node ds_packs_1), Dz D_valiseref6_Node (orB (orB S0 B_first_0) B_packs_1) w0.heap.size B_packs_1 ds_packs_1 l_packs_1, .own A819 c820 (rowC E_valiseref6_Node ds821) 61 E_valiseref6_Node.sz, Dz D_valiseref6_Node (orB (orB S0 B_first_0) B_packs_1) w0.heap.size B822 ds821 l823, Dz D_valiseref6_Node (orB (orB S0 B_first_0) B_packs_1) w0.heap.size B_first_0 [(rdx E_valiseref6_Node ds_first_0 i_824)] ([(rdp ((0, []) : (Int × List Int)) l_first_0 i_824)]), Dz D_valiseref6_Node (orB (orB S0 B_first_0) B_packs_1) w0.heap.size B_packs_1 [(rdx E_valiseref6_Node ds_packs_1 j_825)] ([(rdp ((0, []) : (Int × List Int)) l_packs_1 j_825)])] := HS876.dzOne (i := 3) rfl dz_self (HS876.dze (i := 3) rfl) g877 g878
                  refine Q_gval rfl rfl rfl rfl rfl rfl (fun wq hq => O_loadC rfl rfl flat3 ((HS880.keep hq).cells_rd (i := 2) rfl) (dz_cell (D := D_valiseref6_Node) (f := fun x => .int .i64 x.1) 0 (fun d => rfl) ((HS880.keep hq).dze (i := 3) rfl) g877 g878)) ?_
                  refine Q_gval rfl rfl rfl rfl rfl rfl (fun wq hq => O_le rfl rfl rfl) ?_
                  refine Q_gval rfl rfl rfl rfl rfl rfl (fun wq hq => O_pickT rfl rfl rfl) ?_
                  refine Q_know (i := 39) rfl (congrArg Value.bool (Option.some.inj H)) ?_
                  exact Q_grpE (fun a ha => Is.cons ha (Is.cons ha (Is.cons ha (Is.cons ha (Is.cons ha (Is.cons ha (Is.cons ha (Is.cons ha (Is.cons ha (Is.cons ha (Is.cons ha (Is.cons (i := 27) (v := .bool (decide (i_824 < (l_first_0.length : Int)))) ha (Is.nil ha) (congrArg some (dec_t c872).symm)) rfl) rfl) rfl) rfl) rfl) rfl) rfl) rfl) rfl) rfl) rfl)
                · refine Q_know (i := 27) rfl (dec_f c872) ?_
                  have H := of_neg Hb868 c872
                  refine Q_gskip rfl rfl rfl rfl rfl rfl rfl ?_
                  refine Q_gskip rfl rfl rfl rfl rfl rfl rfl ?_
                  refine Q_gskip rfl rfl rfl rfl rfl rfl rfl ?_
                  refine Q_gskip rfl rfl rfl rfl rfl rfl rfl ?_
                  refine Q_gskip rfl rfl rfl rfl rfl rfl rfl ?_
                  refine Q_gskip rfl rfl rfl rfl rfl rfl rfl ?_
                  refine Q_gskip rfl rfl rfl rfl rfl rfl rfl ?_
                  refine Q_gskip rfl rfl rfl rfl rfl rfl rfl ?_
                  refine Q_gskip rfl rfl rfl rfl rfl rfl rfl ?_
                  refine Q_gskip rfl rfl rfl rfl rfl rfl rfl ?_
                  refine Q_gskip rfl rfl rfl rfl rfl rfl rfl ?_
                  refine Q_gval rfl rfl rfl rfl rfl rfl (fun wq hq => O_pickF rfl rfl rfl) ?_
                  refine Q_know (i := 39) rfl (congrArg Value.bool (Option.some.inj H)) ?_
                  exact Q_grpE (fun a ha => Is.cons ha (Is.cons ha (Is.cons ha (Is.cons ha (Is.cons ha (Is.cons ha (Is.cons ha (Is.cons ha (Is.cons ha (Is.cons ha (Is.cons ha (Is.cons (i := 27) (v := .bool (decide (i_824 < (l_first_0.length : Int)))) ha (Is.nil ha) (congrArg some (dec_f c872).symm)) rfl) rfl) rfl) rfl) rfl) rfl) rfl) rfl) rfl) rfl) rfl)
              · skip
                refine Q_val rfl rfl rfl (fun wq hq => O_pickF rfl rfl rfl) ?_
                refine Q_know (i := 40) rfl (congrArg Value.bool (Option.some.inj H)) ?_
                exact Q_grpE (fun a ha => Is.cons ha (Is.cons ha (Is.cons ha (Is.cons ha (Is.cons ha (Is.cons ha (Is.nil ha) rfl) rfl) rfl) rfl) rfl) rfl)
          · skip
            refine Q_nil (fun w881 hw882 => ?_)
            have HS883 := HS827.keep hw882
            obtain ⟨yj884, Hyj884, H⟩ := of_bind H
            refine L_join (fun a w => ∃ (l934 : List (Int × List Int)), ∃ (i_935 : Int), ∃ (j_936 : Int), ∃ (A930 : Option Addr), ∃ (c931 : Nat), ∃ (ds932 : List ((Int × List Int) × Option Addr × Nat)), ∃ (B933 : Nat → Prop), yj884 = (l934, i_935, j_936) ∧ Is Try.f55.ntmps a [(0, .slice A_first_0 l_first_0.length c_first_0), (1, .slice A_packs_1 l_packs_1.length c_packs_1), (5, .slice A930 l934.length c931), (6, .int .i64 i_935), (7, .int .i64 j_936)] ∧ Hp S0 w0 w [.rd A_first_0 (rowC E_valiseref6_Node ds_first_0), Dz D_valiseref6_Node (orB (orB S0 B_first_0) B_packs_1) w0.heap.size B_first_0 ds_first_0 l_first_0, .rd A_packs_1 (rowC E_valiseref6_Node ds_packs_1), Dz D_valiseref6_Node (orB (orB S0 B_first_0) B_packs_1) w0.heap.size B_packs_1 ds_packs_1 l_packs_1, .own A930 c931 (rowC E_valiseref6_Node ds932) 61 E_valiseref6_Node.sz, Dz D_valiseref6_Node (orB (orB S0 B_first_0) B_packs_1) w0.heap.size B933 ds932 l934]) (fun Qj884 hNj884 hOj884 => ?_) (fun a w hR => ?_)
            · skip
              have H := Hyj884
              refine L_cond rfl (fun c937 => ?_) (fun c937 => ?_)
              · have H := of_pos H c937
                refine L_seq ?_
                refine L_region ?_
                refine F_val rfl rfl rfl (O_move rfl rfl) ?_
                refine F_val rfl rfl rfl (O_move rfl rfl) ?_
                refine F_val rfl rfl rfl (O_move rfl rfl) ?_
                obtain ⟨⟨g938, g939⟩, H⟩ := of_gd H
                refine F_val rfl rfl rfl (O_idx rfl rfl rfl Try.underlying59 size61 g938 g939 (Cells.isA (HS883.cells_rd (i := 0) rfl) (dz_ne (D := D_valiseref6_Node) (HS883.dze (i := 1) rfl) g938 g939 (by decide)))) ?_
                have HS941 : Hp S0 w0 w881 [.rd A_first_0 (rowC E_valiseref6_Node ds_first_0), Dz D_valiseref6_Node (orB (orB S0 B_first_0) B_packs_1) w0.heap.size B_first_0 ds_first_0 l_first_0, .rd A_packs_1 (rowC E_valiseref6_Node ds_packs_1), Dz D_valiseref6_Node (orB (orB S0 B_first_0) B_packs_1) w0.heap.size B_packs_1 ds_packs_1 l_packs_1, .own A819 c820 (rowC E_valiseref6_Node ds821) 61 E_valiseref6_Node.sz, Dz D_valiseref6_Node (orB (orB S0 B_first_0) B_packs_1) w0.heap.size B822 ds821 l823, Dz D_valiseref6_Node (orB (orB S0 B_first_0) B_packs_1) w0.heap.size B_first_0 [(rdx E_valiseref6_Node ds_first_0 i_824)] ([(rdp ((0, []) : (Int × List Int)) l_first_0 i_824)])] := HS883.dzOne (i := 1) rfl dz_self (HS883.dze (i := 1) rfl) g938 g939
                refine F_val rfl rfl rfl (O_loadElD (D := D_valiseref6_Node) rfl rfl wide61 (HS941.cells_rd (i := 0) rfl) (HS941.dze (i := 1) rfl) g938 g939 (by decide)) ?_
                refine F_litE (E := E_valiseref6_Node) (e := 61) [(0, .agg (E_valiseref6_Node.enc (rdx E_valiseref6_Node ds_first_0 i_824)).toArray)] [(rdx E_valiseref6_Node ds_first_0 i_824)] rfl rfl rfl rfl rfl rfl rfl (by decide) (fun w => by kernel_rfl) HS941 (fun w942 A944 c945 HS943 => ?_)
                have HS943 : Hp S0 w0 w942 [.rd A_first_0 (rowC E_valiseref6_Node ds_first_0), Dz D_valiseref6_Node (orB (orB S0 B_first_0) B_packs_1) w0.heap.size B_first_0 ds_first_0 l_first_0, .rd A_packs_1 (rowC E_valiseref6_Node ds_packs_1), Dz D_valiseref6_Node (orB (orB S0 B_first_0) B_packs_1) w0.heap.size B_packs_1 ds_packs_1 l_packs_1, .own A819 c820 (rowC E_valiseref6_Node ds821) 61 E_valiseref6_Node.sz, Dz D_valiseref6_Node (orB (orB S0 B_first_0) B_packs_1) w0.heap.size B822 ds821 l823, Dz D_valiseref6_Node (orB (orB S0 B_first_0) B_packs_1) w0.heap.size B_first_0 [(rdx E_valiseref6_Node ds_first_0 i_824)] ([(rdp ((0, []) : (Int × List Int)) l_first_0 i_824)]), .own A944 c945 (rowC E_valiseref6_Node [(rdx E_valiseref6_Node ds_first_0 i_824)]) 61 E_valiseref6_Node.sz] := HS943
                have HS948 : Hp S0 w0 w942 [.rd A_first_0 (rowC E_valiseref6_Node ds_first_0), Dz D_valiseref6_Node (orB (orB S0 B_first_0) B_packs_1) w0.heap.size B_first_0 ds_first_0 l_first_0, .rd A_packs_1 (rowC E_valiseref6_Node ds_packs_1), Dz D_valiseref6_Node (orB (orB S0 B_first_0) B_packs_1) w0.heap.size B_packs_1 ds_packs_1 l_packs_1, .own A819 c820 (rowC E_valiseref6_Node ds821) 61 E_valiseref6_Node.sz, Dz D_valiseref6_Node (orB (orB S0 B_first_0) B_packs_1) w0.heap.size B822 ds821 l823, Dz D_valiseref6_Node (orB (orB S0 B_first_0) B_packs_1) w0.heap.size B_first_0 [(rdx E_valiseref6_Node ds_first_0 i_824)] ([(rdp ((0, []) : (Int × List Int)) l_first_0 i_824)]), .own A944 c945 (rowC E_valiseref6_Node [(rdx E_valiseref6_Node ds_first_0 i_824)]) 61 E_valiseref6_Node.sz, Dz D_valiseref6_Node (orB (orB S0 B_first_0) B_packs_1) w0.heap.size B_first_0 [(rdx E_valiseref6_Node ds_first_0 i_824)] ([(rdp ((0, []) : (Int × List Int)) l_first_0 i_824)])] := HS943.dzSub (i := 6) rfl dz_self (HS943.dze (i := 6) rfl)
                obtain ⟨l951, h952, H⟩ := of_bnd H
                obtain ⟨g953, H⟩ := of_gd H
                refine F_appD (D := D_valiseref6_Node) (ds := ds821) (ds' := [(rdx E_valiseref6_Node ds_first_0 i_824)]) (xs := l823) (ys := ([(rdp ((0, []) : (Int × List Int)) l_first_0 i_824)])) (i := 4) rfl rfl rfl rfl Try.underlying59 info61 rfl (by decide) (by decide) rfl rfl HS948 rfl (HS948.dze (i := 5) rfl) (HS948.dze (i := 8) rfl) (HS948.cells_own (i := 7) rfl) h952 g953 (fun w949 A954 c955 HS950 => ?_)
                have HS950 : Hp S0 w0 w949 [.rd A_first_0 (rowC E_valiseref6_Node ds_first_0), Dz D_valiseref6_Node (orB (orB S0 B_first_0) B_packs_1) w0.heap.size B_first_0 ds_first_0 l_first_0, .rd A_packs_1 (rowC E_valiseref6_Node ds_packs_1), Dz D_valiseref6_Node (orB (orB S0 B_first_0) B_packs_1) w0.heap.size B_packs_1 ds_packs_1 l_packs_1, .own A954 c955 (rowC E_valiseref6_Node (ds821 ++ [(rdx E_valiseref6_Node ds_first_0 i_824)])) 61 E_valiseref6_Node.sz, Dz D_valiseref6_Node (orB (orB S0 B_first_0) B_packs_1) w0.heap.size B822 ds821 l823, Dz D_valiseref6_Node (orB (orB S0 B_first_0) B_packs_1) w0.heap.size B_first_0 [(rdx E_valiseref6_Node ds_first_0 i_824)] ([(rdp ((0, []) : (Int × List Int)) l_first_0 i_824)]), .own A944 c945 (rowC E_valiseref6_Node [(rdx E_valiseref6_Node ds_first_0 i_824)]) 61 E_valiseref6_Node.sz, Dz D_valiseref6_Node (orB (orB S0 B_first_0) B_packs_1) w0.heap.size B_first_0 [(rdx E_valiseref6_Node ds_first_0 i_824)] ([(rdp ((0, []) : (Int × List Int)) l_first_0 i_824)])] := HS950
                have HS956 : Hp S0 w0 w949 [.rd A_first_0 (rowC E_valiseref6_Node ds_first_0), Dz D_valiseref6_Node (orB (orB S0 B_first_0) B_packs_1) w0.heap.size B_first_0 ds_first_0 l_first_0, .rd A_packs_1 (rowC E_valiseref6_Node ds_packs_1), Dz D_valiseref6_Node (orB (orB S0 B_first_0) B_packs_1) w0.heap.size B_packs_1 ds_packs_1 l_packs_1, .own A954 c955 (rowC E_valiseref6_Node (ds821 ++ [(rdx E_valiseref6_Node ds_first_0 i_824)])) 61 E_valiseref6_Node.sz, Dz D_valiseref6_Node (orB (orB S0 B_first_0) B_packs_1) w0.heap.size (orB B822 B_first_0) (ds821 ++ [(rdx E_valiseref6_Node ds_first_0 i_824)]) l951, Dz D_valiseref6_Node (orB (orB S0 B_first_0) B_packs_1) w0.heap.size B_first_0 [(rdx E_valiseref6_Node ds_first_0 i_824)] ([(rdp ((0, []) : (Int × List Int)) l_first_0 i_824)]), .own A944 c945 (rowC E_valiseref6_Node [(rdx E_valiseref6_Node ds_first_0 i_824)]) 61 E_valiseref6_Node.sz, Dz D_valiseref6_Node (orB (orB S0 B_first_0) B_packs_1) w0.heap.size B_first_0 [(rdx E_valiseref6_Node ds_first_0 i_824)] ([(rdp ((0, []) : (Int × List Int)) l_first_0 i_824)])] := HS950.dzApp (i := 5) (j := 8) rfl rfl h952
                refine F_val rfl rfl rfl (O_assign rfl rfl) ?_
                refine F_nil ?_
                have HS957 : Hp S0 w0 w949 [.rd A_first_0 (rowC E_valiseref6_Node ds_first_0), Dz D_valiseref6_Node (orB (orB S0 B_first_0) B_packs_1) w0.heap.size B_first_0 ds_first_0 l_first_0, .rd A_packs_1 (rowC E_valiseref6_Node ds_packs_1), Dz D_valiseref6_Node (orB (orB S0 B_first_0) B_packs_1) w0.heap.size B_packs_1 ds_packs_1 l_packs_1, .own A954 c955 (rowC E_valiseref6_Node (ds821 ++ [(rdx E_valiseref6_Node ds_first_0 i_824)])) 61 E_valiseref6_Node.sz, Dz D_valiseref6_Node (orB (orB S0 B_first_0) B_packs_1) w0.heap.size (orB B822 B_first_0) (ds821 ++ [(rdx E_valiseref6_Node ds_first_0 i_824)]) l951] := HS956.sel [0, 1, 2, 3, 4, 5] rfl
                refine L_region ?_
                refine F_val rfl rfl rfl (O_move rfl rfl) ?_
                refine F_val rfl rfl rfl (O_add rfl rfl rfl) ?_
                obtain ⟨x958, h959, H⟩ := of_bnd H
                refine F_val rfl rfl rfl (O_assign' rfl rfl (congrArg (Value.int .i64) h959)) ?_
                refine F_nil ?_
                refine L_nil (fun a ha => hNj884 a _ ⟨_, _, _, _, _, _, _, (Option.some.inj H).symm, Is.cons ha (Is.cons ha (Is.cons ha (Is.cons ha (Is.cons ha (Is.nil ha) rfl) rfl) rfl) rfl) rfl, HS957.sel [0, 1, 2, 3, 4, 5] rfl⟩)
              · have H := of_neg H (by rw [c937]; exact Bool.false_ne_true)
                refine L_seq ?_
                refine L_region ?_
                refine F_val rfl rfl rfl (O_move rfl rfl) ?_
                refine F_val rfl rfl rfl (O_move rfl rfl) ?_
                refine F_val rfl rfl rfl (O_move rfl rfl) ?_
                obtain ⟨⟨g960, g961⟩, H⟩ := of_gd H
                refine F_val rfl rfl rfl (O_idx rfl rfl rfl Try.underlying59 size61 g960 g961 (Cells.isA (HS883.cells_rd (i := 2) rfl) (dz_ne (D := D_valiseref6_Node) (HS883.dze (i := 3) rfl) g960 g961 (by decide)))) ?_
                have HS963 : Hp S0 w0 w881 [.rd A_first_0 (rowC E_valiseref6_Node ds_first_0), Dz D_valiseref6_Node (orB (orB S0 B_first_0) B_packs_1) w0.heap.size B_first_0 ds_first_0 l_first_0, .rd A_packs_1 (rowC E_valiseref6_Node ds_packs_1), Dz D_valiseref6_Node (orB (orB S0 B_first_0) B_packs_1) w0.heap.size B_packs_1 ds_packs_1 l_packs_1, .own A819 c820 (rowC E_valiseref6_Node ds821) 61 E_valiseref6_Node.sz, Dz D_valiseref6_Node (orB (orB S0 B_first_0) B_packs_1) w0.heap.size B822 ds821 l823, Dz D_valiseref6_Node (orB (orB S0 B_first_0) B_packs_1) w0.heap.size B_packs_1 [(rdx E_valiseref6_Node ds_packs_1 j_825)] ([(rdp ((0, []) : (Int × List Int)) l_packs_1 j_825)])] := HS883.dzOne (i := 3) rfl dz_self (HS883.dze (i := 3) rfl) g960 g961
                refine F_val rfl rfl rfl (O_loadElD (D := D_valiseref6_Node) rfl rfl wide61 (HS963.cells_rd (i := 2) rfl) (HS963.dze (i := 3) rfl) g960 g961 (by decide)) ?_
                refine F_litE (E := E_valiseref6_Node) (e := 61) [(0, .agg (E_valiseref6_Node.enc (rdx E_valiseref6_Node ds_packs_1 j_825)).toArray)] [(rdx E_valiseref6_Node ds_packs_1 j_825)] rfl rfl rfl rfl rfl rfl rfl (by decide) (fun w => by kernel_rfl) HS963 (fun w964 A966 c967 HS965 => ?_)
                have HS965 : Hp S0 w0 w964 [.rd A_first_0 (rowC E_valiseref6_Node ds_first_0), Dz D_valiseref6_Node (orB (orB S0 B_first_0) B_packs_1) w0.heap.size B_first_0 ds_first_0 l_first_0, .rd A_packs_1 (rowC E_valiseref6_Node ds_packs_1), Dz D_valiseref6_Node (orB (orB S0 B_first_0) B_packs_1) w0.heap.size B_packs_1 ds_packs_1 l_packs_1, .own A819 c820 (rowC E_valiseref6_Node ds821) 61 E_valiseref6_Node.sz, Dz D_valiseref6_Node (orB (orB S0 B_first_0) B_packs_1) w0.heap.size B822 ds821 l823, Dz D_valiseref6_Node (orB (orB S0 B_first_0) B_packs_1) w0.heap.size B_packs_1 [(rdx E_valiseref6_Node ds_packs_1 j_825)] ([(rdp ((0, []) : (Int × List Int)) l_packs_1 j_825)]), .own A966 c967 (rowC E_valiseref6_Node [(rdx E_valiseref6_Node ds_packs_1 j_825)]) 61 E_valiseref6_Node.sz] := HS965
                have HS970 : Hp S0 w0 w964 [.rd A_first_0 (rowC E_valiseref6_Node ds_first_0), Dz D_valiseref6_Node (orB (orB S0 B_first_0) B_packs_1) w0.heap.size B_first_0 ds_first_0 l_first_0, .rd A_packs_1 (rowC E_valiseref6_Node ds_packs_1), Dz D_valiseref6_Node (orB (orB S0 B_first_0) B_packs_1) w0.heap.size B_packs_1 ds_packs_1 l_packs_1, .own A819 c820 (rowC E_valiseref6_Node ds821) 61 E_valiseref6_Node.sz, Dz D_valiseref6_Node (orB (orB S0 B_first_0) B_packs_1) w0.heap.size B822 ds821 l823, Dz D_valiseref6_Node (orB (orB S0 B_first_0) B_packs_1) w0.heap.size B_packs_1 [(rdx E_valiseref6_Node ds_packs_1 j_825)] ([(rdp ((0, []) : (Int × List Int)) l_packs_1 j_825)]), .own A966 c967 (rowC E_valiseref6_Node [(rdx E_valiseref6_Node ds_packs_1 j_825)]) 61 E_valiseref6_Node.sz, Dz D_valiseref6_Node (orB (orB S0 B_first_0) B_packs_1) w0.heap.size B_packs_1 [(rdx E_valiseref6_Node ds_packs_1 j_825)] ([(rdp ((0, []) : (Int × List Int)) l_packs_1 j_825)])] := HS965.dzSub (i := 6) rfl dz_self (HS965.dze (i := 6) rfl)
                obtain ⟨l973, h974, H⟩ := of_bnd H
                obtain ⟨g975, H⟩ := of_gd H
                refine F_appD (D := D_valiseref6_Node) (ds := ds821) (ds' := [(rdx E_valiseref6_Node ds_packs_1 j_825)]) (xs := l823) (ys := ([(rdp ((0, []) : (Int × List Int)) l_packs_1 j_825)])) (i := 4) rfl rfl rfl rfl Try.underlying59 info61 rfl (by decide) (by decide) rfl rfl HS970 rfl (HS970.dze (i := 5) rfl) (HS970.dze (i := 8) rfl) (HS970.cells_own (i := 7) rfl) h974 g975 (fun w971 A976 c977 HS972 => ?_)
                have HS972 : Hp S0 w0 w971 [.rd A_first_0 (rowC E_valiseref6_Node ds_first_0), Dz D_valiseref6_Node (orB (orB S0 B_first_0) B_packs_1) w0.heap.size B_first_0 ds_first_0 l_first_0, .rd A_packs_1 (rowC E_valiseref6_Node ds_packs_1), Dz D_valiseref6_Node (orB (orB S0 B_first_0) B_packs_1) w0.heap.size B_packs_1 ds_packs_1 l_packs_1, .own A976 c977 (rowC E_valiseref6_Node (ds821 ++ [(rdx E_valiseref6_Node ds_packs_1 j_825)])) 61 E_valiseref6_Node.sz, Dz D_valiseref6_Node (orB (orB S0 B_first_0) B_packs_1) w0.heap.size B822 ds821 l823, Dz D_valiseref6_Node (orB (orB S0 B_first_0) B_packs_1) w0.heap.size B_packs_1 [(rdx E_valiseref6_Node ds_packs_1 j_825)] ([(rdp ((0, []) : (Int × List Int)) l_packs_1 j_825)]), .own A966 c967 (rowC E_valiseref6_Node [(rdx E_valiseref6_Node ds_packs_1 j_825)]) 61 E_valiseref6_Node.sz, Dz D_valiseref6_Node (orB (orB S0 B_first_0) B_packs_1) w0.heap.size B_packs_1 [(rdx E_valiseref6_Node ds_packs_1 j_825)] ([(rdp ((0, []) : (Int × List Int)) l_packs_1 j_825)])] := HS972
                have HS978 : Hp S0 w0 w971 [.rd A_first_0 (rowC E_valiseref6_Node ds_first_0), Dz D_valiseref6_Node (orB (orB S0 B_first_0) B_packs_1) w0.heap.size B_first_0 ds_first_0 l_first_0, .rd A_packs_1 (rowC E_valiseref6_Node ds_packs_1), Dz D_valiseref6_Node (orB (orB S0 B_first_0) B_packs_1) w0.heap.size B_packs_1 ds_packs_1 l_packs_1, .own A976 c977 (rowC E_valiseref6_Node (ds821 ++ [(rdx E_valiseref6_Node ds_packs_1 j_825)])) 61 E_valiseref6_Node.sz, Dz D_valiseref6_Node (orB (orB S0 B_first_0) B_packs_1) w0.heap.size (orB B822 B_packs_1) (ds821 ++ [(rdx E_valiseref6_Node ds_packs_1 j_825)]) l973, Dz D_valiseref6_Node (orB (orB S0 B_first_0) B_packs_1) w0.heap.size B_packs_1 [(rdx E_valiseref6_Node ds_packs_1 j_825)] ([(rdp ((0, []) : (Int × List Int)) l_packs_1 j_825)]), .own A966 c967 (rowC E_valiseref6_Node [(rdx E_valiseref6_Node ds_packs_1 j_825)]) 61 E_valiseref6_Node.sz, Dz D_valiseref6_Node (orB (orB S0 B_first_0) B_packs_1) w0.heap.size B_packs_1 [(rdx E_valiseref6_Node ds_packs_1 j_825)] ([(rdp ((0, []) : (Int × List Int)) l_packs_1 j_825)])] := HS972.dzApp (i := 5) (j := 8) rfl rfl h974
                refine F_val rfl rfl rfl (O_assign rfl rfl) ?_
                refine F_nil ?_
                have HS979 : Hp S0 w0 w971 [.rd A_first_0 (rowC E_valiseref6_Node ds_first_0), Dz D_valiseref6_Node (orB (orB S0 B_first_0) B_packs_1) w0.heap.size B_first_0 ds_first_0 l_first_0, .rd A_packs_1 (rowC E_valiseref6_Node ds_packs_1), Dz D_valiseref6_Node (orB (orB S0 B_first_0) B_packs_1) w0.heap.size B_packs_1 ds_packs_1 l_packs_1, .own A976 c977 (rowC E_valiseref6_Node (ds821 ++ [(rdx E_valiseref6_Node ds_packs_1 j_825)])) 61 E_valiseref6_Node.sz, Dz D_valiseref6_Node (orB (orB S0 B_first_0) B_packs_1) w0.heap.size (orB B822 B_packs_1) (ds821 ++ [(rdx E_valiseref6_Node ds_packs_1 j_825)]) l973] := HS978.sel [0, 1, 2, 3, 4, 5] rfl
                refine L_region ?_
                refine F_val rfl rfl rfl (O_move rfl rfl) ?_
                refine F_val rfl rfl rfl (O_add rfl rfl rfl) ?_
                obtain ⟨x980, h981, H⟩ := of_bnd H
                refine F_val rfl rfl rfl (O_assign' rfl rfl (congrArg (Value.int .i64) h981)) ?_
                refine F_nil ?_
                refine L_nil (fun a ha => hNj884 a _ ⟨_, _, _, _, _, _, _, (Option.some.inj H).symm, Is.cons ha (Is.cons ha (Is.cons ha (Is.cons ha (Is.cons ha (Is.nil ha) rfl) rfl) rfl) rfl) rfl, HS979.sel [0, 1, 2, 3, 4, 5] rfl⟩)
            · obtain ⟨l934, i_935, j_936, A930, c931, ds932, B933, rfl, ha, HS983⟩ := hR
              refine wpLF_app ?_ ha
              refine L_endB hN833 ?_
              refine L_nil (fun a ha => hNp818 _ a _ (Nat.lt_succ_self _) ⟨_, _, _, _, _, _, _, Is.cons ha (Is.cons ha (Is.cons ha (Is.cons ha (Is.cons ha (Is.nil ha) rfl) rfl) rfl) rfl) rfl, HS983.sel [0, 1, 2, 3, 4, 5] rfl, H⟩)
        · have H := of_neg H c832
          refine L_exitB (fun a w h => hOp818 (.exit 0) a w rfl (hXb498 a w h)) ?_
          refine L_nil (fun a ha => hNj6 a _ ⟨_, _, _, _, _, (Option.some.inj H).symm, Is.cons ha (Is.nil ha) rfl, HS827.sel [0, 1, 2, 3, 4, 5] rfl⟩)
  · obtain ⟨l497, A493, c494, ds495, B496, ej, ha, HS985⟩ := hR
    obtain rfl := ej.symm
    refine wpLF_app ?_ ha
    refine L_seq ?_
    refine L_region ?_
    refine F_val rfl rfl rfl (O_move rfl rfl) ?_
    refine F_val rfl rfl rfl (O_assign rfl rfl) ?_
    refine F_nil ?_
    refine L_ret (fun a ha => (post_ret1 ha rfl rfl ?_))
    obtain rfl := Option.some.inj H
    exact ⟨_, _, _, _, rfl, HS985.sel [4, 5] rfl⟩

/-! function 29: valise/valiseref6.Limited -/
theorem valiseref6_Limited.calls {S0 : Nat → Prop} {w0 : World} {A_freq_0 : Option Addr} {c_freq_0 : Nat} {l_freq_0 : List Int} {limit_1 : Int} {r : List Int × Int} (HS0 : Hp S0 w0 w0 [.rd A_freq_0 (rowC (Eint .i64) l_freq_0)]) (hc_freq_0 : l_freq_0.length ≤ c_freq_0) (h : valiseref6_Limited.f l_freq_0 limit_1 = some r) :
    Calls Try.prog 29 ([.slice A_freq_0 l_freq_0.length c_freq_0, .int .i64 limit_1] : List Value).toArray w0 (fun e w => ∃ (A1 : Option Addr), ∃ (c1 : Nat), e = .returned (.tuple #[.slice A1 r.1.length c1, .int .i64 r.2]) ∧ Hp S0 w0 w [.own A1 c1 (rowC (Eint .i64) r.1) 3 (Eint .i64).sz]) := by
  have H : ((if ((288 < (l_freq_0.length : Int)) ∨ (limit_1 < 1)) ∨ (15 < limit_1) then (some (([] : List Int), 1)) else ((valiseref6_weighs.f l_freq_0).bind fun z14 => if (!z14) = true then (some (([] : List Int), 61)) else ((valiseref6_leaves.f l_freq_0).bind fun z25 => bnd ((z25.length : Int)) fun x34 => gd (¬ (IntKind.u64.wrap limit_1) < 0) (if shl .i64 1 (IntKind.u64.wrap limit_1) < x34 then (some (([] : List Int), 60)) else ((valiseref6_zeros.f (l_freq_0.length : Int)).bind fun z45 => if x34 = 1 then (gd ((0 : Int) ≤ 0 ∧ 0 < (z25.length : Int)) (gd ((0 : Int) ≤ 0 ∧ 0 < (((rdp ((0, []) : (Int × List Int)) z25 0).2).length : Int)) (gd ((0 : Int) ≤ (rd ((rdp ((0, []) : (Int × List Int)) z25 0).2) 0) ∧ (rd ((rdp ((0, []) : (Int × List Int)) z25 0).2) 0) < (z45.length : Int)) (bnd (z45.set (rd ((rdp ((0, []) : (Int × List Int)) z25 0).2) 0 : Int).toNat 1) fun l65 => some (l65, 0))))) else ((valiseref6_Limited.l1 FU z25 2 limit_1 z25).bind fun l224 => (valiseref6_Limited.l13 FU z45 0 x34 l224).bind fun l981 => some (l981, 0))))))) : Option (List Int × Int)) = some r := h
  refine calls_start Try.func29 rfl rfl ?_
  have hSF : ∀ b, S0 b → S0 b ∨ w0.heap.size ≤ b := (fun b hb => .inl hb)
  refine L_seq ?_
  refine L_region ?_
  refine F_val rfl rfl rfl (O_assign rfl rfl) ?_
  refine F_val rfl rfl rfl (O_assign rfl rfl) ?_
  refine F_nil ?_
  refine L_seq ?_
  refine L_seq ?_
  refine L_region ?_
  refine F_val rfl rfl rfl (O_move rfl rfl) ?_
  refine F_val rfl rfl rfl (O_len rfl rfl Try.underlying22) ?_
  refine F_val rfl rfl rfl (O_gt rfl rfl rfl) ?_
  refine F_val rfl rfl rfl (O_move rfl rfl) ?_
  refine F_grp 3 [(22, .bool (decide ((288 < (l_freq_0.length : Int)) ∨ (limit_1 < 1)))), (0, .slice A_freq_0 l_freq_0.length c_freq_0), (1, .int .i64 limit_1)] ?_ ?_
  · rcases Decidable.em (288 < (l_freq_0.length : Int)) with c4 | c4
    · refine F_know (i := 19) rfl (dec_t c4) ?_
      refine F_gskip rfl rfl rfl rfl rfl rfl rfl ?_
      refine F_gskip rfl rfl rfl rfl rfl rfl rfl ?_
      refine F_val rfl rfl rfl (O_pickT rfl rfl rfl) ?_
      refine F_know (i := 22) rfl (dec_or_t (q := limit_1 < 1) c4) ?_
      exact F_grpE (fun a ha => Is.cons ha (Is.cons ha (Is.cons ha (Is.nil ha) rfl) rfl) rfl)
    · refine F_know (i := 19) rfl (dec_f c4) ?_
      refine F_gval rfl rfl rfl rfl rfl rfl (O_move rfl rfl) ?_
      refine F_gval rfl rfl rfl rfl rfl rfl (O_lt rfl rfl rfl) ?_
      refine F_val rfl rfl rfl (O_pickF rfl rfl rfl) ?_
      refine F_know (i := 22) rfl (dec_or_f (q := limit_1 < 1) c4) ?_
      exact F_grpE (fun a ha => Is.cons ha (Is.cons ha (Is.cons ha (Is.nil ha) rfl) rfl) rfl)
  · skip
    refine F_val rfl rfl rfl (O_move rfl rfl) ?_
    refine F_grp 3 [(26, .bool (decide (((288 < (l_freq_0.length : Int)) ∨ (limit_1 < 1)) ∨ (15 < limit_1)))), (0, .slice A_freq_0 l_freq_0.length c_freq_0), (1, .int .i64 limit_1)] ?_ ?_
    · rcases Decidable.em ((288 < (l_freq_0.length : Int)) ∨ (limit_1 < 1)) with c8 | c8
      · refine F_know (i := 23) rfl (dec_t c8) ?_
        refine F_gskip rfl rfl rfl rfl rfl rfl rfl ?_
        refine F_gskip rfl rfl rfl rfl rfl rfl rfl ?_
        refine F_val rfl rfl rfl (O_pickT rfl rfl rfl) ?_
        refine F_know (i := 26) rfl (dec_or_t (q := 15 < limit_1) c8) ?_
        exact F_grpE (fun a ha => Is.cons ha (Is.cons ha (Is.cons ha (Is.nil ha) rfl) rfl) rfl)
      · refine F_know (i := 23) rfl (dec_f c8) ?_
        refine F_gval rfl rfl rfl rfl rfl rfl (O_move rfl rfl) ?_
        refine F_gval rfl rfl rfl rfl rfl rfl (O_gt rfl rfl rfl) ?_
        refine F_val rfl rfl rfl (O_pickF rfl rfl rfl) ?_
        refine F_know (i := 26) rfl (dec_or_f (q := 15 < limit_1) c8) ?_
        exact F_grpE (fun a ha => Is.cons ha (Is.cons ha (Is.cons ha (Is.nil ha) rfl) rfl) rfl)
    · skip
      refine F_nil ?_
      refine L_condP rfl (fun c9 => ?_) (fun c9 => ?_)
      · have H := of_pos H c9
        refine L_seq ?_
        refine L_region ?_
        refine F_val rfl rfl rfl (O_assign rfl rfl) ?_
        refine F_val rfl rfl rfl (O_assign rfl rfl) ?_
        refine F_nil ?_
        have HS10 := HS0.addNil 3 (Eint .i64).sz
        refine L_ret (fun a ha => (post_ret2 ha rfl rfl rfl ?_))
        obtain rfl := Option.some.inj H
        exact ⟨_, _, rfl, HS10.sel [1] rfl⟩
      · have H := of_neg H c9
        refine L_skip ?_
        refine L_seq ?_
        refine L_region ?_
        refine F_val rfl rfl rfl (O_move rfl rfl) ?_
        obtain ⟨z14, h13, H⟩ := of_bind H
        refine F_qcall (v := .bool z14) (xs := [.tmp 27]) rfl rfl rfl rfl Try.func36 nm36 rfl rfl ((valiseref6_weighs.calls (HS0.give [] rfl (Lent.rd HS0 (Lent.nil) (i := 0) rfl ((HS0.cells_rd (i := 0) rfl).self))) hc_freq_0 h13).mono (fun e w hc => ?_)) (fun w15 hw16 => ?_)
        · obtain ⟨rfl, h⟩ := hc
          exact ⟨rfl, h.chg0⟩
        have HS17 := HS0.keep hw16
        refine F_val rfl rfl rfl (O_assign rfl rfl) ?_
        refine F_nil ?_
        refine L_seq ?_
        refine L_seq ?_
        refine L_region ?_
        refine F_val rfl rfl rfl (O_move rfl rfl) ?_
        refine F_val rfl rfl rfl (O_notb rfl rfl) ?_
        refine F_nil ?_
        refine L_cond rfl (fun c18 => ?_) (fun c18 => ?_)
        · have H := of_pos H c18
          refine L_seq ?_
          refine L_region ?_
          refine F_val rfl rfl rfl (O_assign rfl rfl) ?_
          refine F_val rfl rfl rfl (O_assign rfl rfl) ?_
          refine F_nil ?_
          have HS19 := HS17.addNil 3 (Eint .i64).sz
          refine L_ret (fun a ha => (post_ret2 ha rfl rfl rfl ?_))
          obtain rfl := Option.some.inj H
          exact ⟨_, _, rfl, HS19.sel [1] rfl⟩
        · have H := of_neg H (by rw [c18]; exact Bool.false_ne_true)
          refine L_skip ?_
          refine L_seq ?_
          refine L_region ?_
          refine F_val rfl rfl rfl (O_move rfl rfl) ?_
          obtain ⟨z25, h24, H⟩ := of_bind H
          refine F_call (xs := [.tmp 31]) rfl rfl rfl rfl Try.func53 nm53 rfl rfl ((valiseref6_leaves.calls (HS17.give [] rfl (Lent.rd HS17 (Lent.nil) (i := 0) rfl ((HS17.cells_rd (i := 0) rfl).self))) hc_freq_0 h24).mono (fun e w hc => ?_))
          obtain ⟨A28, c29, ds31, B32, rfl, HSo⟩ := hc
          refine ⟨.slice A28 z25.length c29, rfl, ?_⟩
          have HS27 : Hp S0 w0 w [.rd A_freq_0 (rowC (Eint .i64) l_freq_0), .own A28 c29 (rowC E_valiseref6_Node ds31) 61 E_valiseref6_Node.sz, Dz D_valiseref6_Node S0 w0.heap.size B32 ds31 z25] := ((HS17.backD [] HSo (Pv.backG (Pv.own (Pv.per (HSo.dz (i := 1) rfl).1 Pv.nil)) (fun b => (fun hb => .inl hb)))).sel [0, 1, 2] rfl).dzProv (i := 2) rfl (fun b hb _ => Or.elim hb (fun hb => (HS17.mine _ (feet_pick_le hb)).elim (hSF _) .inr) (fun h => .inr (Nat.le_trans HS17.chg.size h)))
          refine F_val rfl rfl rfl (O_assign rfl rfl) ?_
          refine F_nil ?_
          refine L_seq ?_
          refine L_region ?_
          refine F_val rfl rfl rfl (O_move rfl rfl) ?_
          refine F_val rfl rfl rfl (O_len rfl rfl Try.underlying59) ?_
          obtain ⟨x34, h35, H⟩ := of_bnd H
          refine F_val rfl rfl rfl (O_assign' rfl rfl (congrArg (Value.int .i64) h35)) ?_
          refine F_nil ?_
          refine L_seq ?_
          refine L_seq ?_
          refine L_region ?_
          refine F_val rfl rfl rfl (O_move rfl rfl) ?_
          refine F_val rfl rfl rfl (O_move rfl rfl) ?_
          refine F_val rfl rfl rfl (O_conv rfl rfl ⟨_, Try.underlying3⟩ Try.underlying43) ?_
          obtain ⟨g36, H⟩ := of_gd H
          refine F_val rfl rfl rfl (O_shl rfl rfl rfl g36) ?_
          refine F_val rfl rfl rfl (O_gt rfl rfl rfl) ?_
          refine F_nil ?_
          refine L_condP rfl (fun c37 => ?_) (fun c37 => ?_)
          · have H := of_pos H c37
            refine L_seq ?_
            have HS38 : Hp S0 w0 w [.rd A_freq_0 (rowC (Eint .i64) l_freq_0)] := HS27.sel [0] rfl
            refine L_region ?_
            refine F_val rfl rfl rfl (O_assign rfl rfl) ?_
            refine F_val rfl rfl rfl (O_assign rfl rfl) ?_
            refine F_nil ?_
            have HS39 := HS38.addNil 3 (Eint .i64).sz
            refine L_ret (fun a ha => (post_ret2 ha rfl rfl rfl ?_))
            obtain rfl := Option.some.inj H
            exact ⟨_, _, rfl, HS39.sel [1] rfl⟩
          · have H := of_neg H c37
            refine L_skip ?_
            refine L_seq ?_
            refine L_region ?_
            refine F_val rfl rfl rfl (O_move rfl rfl) ?_
            refine F_val rfl rfl rfl (O_len rfl rfl Try.underlying22) ?_
            obtain ⟨z45, h44, H⟩ := of_bind H
            refine F_call (xs := [.tmp 41]) rfl rfl rfl rfl Try.func42 nm42 rfl rfl ((valiseref6_zeros.calls (HS27.give [] rfl (Lent.nil)) h44).mono (fun e w hc => ?_))
            obtain ⟨A48, c49, rfl, HSo⟩ := hc
            refine ⟨.slice A48 z45.length c49, rfl, ?_⟩
            have HS47 : Hp S0 w0 w [.rd A_freq_0 (rowC (Eint .i64) l_freq_0), .own A28 c29 (rowC E_valiseref6_Node ds31) 61 E_valiseref6_Node.sz, Dz D_valiseref6_Node S0 w0.heap.size B32 ds31 z25, .own A48 c49 (rowC (Eint .i64) z45) 3 (Eint .i64).sz] := (HS27.back [] HSo rfl).sel [0, 1, 2, 3] rfl
            refine F_val rfl rfl rfl (O_assign rfl rfl) ?_
            refine F_nil ?_
            refine L_seq ?_
            refine L_seq ?_
            refine L_region ?_
            refine F_val rfl rfl rfl (O_move rfl rfl) ?_
            refine F_val rfl rfl rfl (O_eq rfl rfl rfl) ?_
            refine F_nil ?_
            refine L_condP rfl (fun c51 => ?_) (fun c51 => ?_)
            · have H := of_pos H c51
              refine L_seq ?_
              refine L_region ?_
              refine F_val rfl rfl rfl (O_move rfl rfl) ?_
              refine F_val rfl rfl rfl (O_move rfl rfl) ?_
              obtain ⟨⟨g52, g53⟩, H⟩ := of_gd H
              refine F_val rfl rfl rfl (O_idx rfl rfl rfl Try.underlying59 size61 g52 g53 (Cells.isA (HS47.cells_own (i := 1) rfl) (dz_ne (D := D_valiseref6_Node) (HS47.dze (i := 2) rfl) g52 g53 (by decide)))) ?_
              refine F_val rfl rfl rfl (O_fieldC rfl rfl (Cells.isA (HS47.cells_own (i := 1) rfl) (dz_ne (D := D_valiseref6_Node) (HS47.dze (i := 2) rfl) g52 g53 (by decide))) field61_1) ?_
              have HS55 : Hp S0 w0 w [.rd A_freq_0 (rowC (Eint .i64) l_freq_0), .own A28 c29 (rowC E_valiseref6_Node ds31) 61 E_valiseref6_Node.sz, Dz D_valiseref6_Node S0 w0.heap.size B32 ds31 z25, .own A48 c49 (rowC (Eint .i64) z45) 3 (Eint .i64).sz, Dz D_valiseref6_Node S0 w0.heap.size B32 [(rdx E_valiseref6_Node ds31 0)] ([(rdp ((0, []) : (Int × List Int)) z25 0)])] := HS47.dzOne (i := 2) rfl dz_self (HS47.dze (i := 2) rfl) g52 g53
              have hc56 := HS55.ndCap (i := 4) rfl (rfl : _ = (rdp ((0, []) : (Int × List Int)) z25 0).2)
              have HS58 : Hp S0 w0 w [.rd A_freq_0 (rowC (Eint .i64) l_freq_0), .own A28 c29 (rowC E_valiseref6_Node ds31) 61 E_valiseref6_Node.sz, Dz D_valiseref6_Node S0 w0.heap.size B32 ds31 z25, .own A48 c49 (rowC (Eint .i64) z45) 3 (Eint .i64).sz, Dz D_valiseref6_Node S0 w0.heap.size B32 [(rdx E_valiseref6_Node ds31 0)] ([(rdp ((0, []) : (Int × List Int)) z25 0)]), .rd ((rdx E_valiseref6_Node ds31 0).2.1) (rowC (Eint .i64) ((rdp ((0, []) : (Int × List Int)) z25 0).2))] := HS55.ndRd (i := 4) rfl rfl
              refine F_val rfl rfl rfl (O_loadC rfl rfl flat22 (HS58.cells_own (i := 1) rfl) (dz_cellS (D := D_valiseref6_Node) (f := fun x A c => .slice A x.2.length c) 1 (fun d => rfl) rfl (HS58.dze (i := 2) rfl) g52 g53)) ?_
              obtain ⟨⟨g59, g60⟩, H⟩ := of_gd H
              refine F_val rfl rfl rfl (O_idx rfl rfl rfl Try.underlying22 size3 g59 g60 (Cells.isA (HS58.cells_rd (i := 5) rfl) (rowC_ne (E := (Eint .i64)) g59 g60 (by decide)))) ?_
              refine F_val rfl rfl rfl (O_loadC rfl rfl flat3 (HS58.cells_rd (i := 5) rfl) (int_cell g59 g60)) ?_
              obtain ⟨⟨g61, g62⟩, H⟩ := of_gd H
              refine F_val rfl rfl rfl (O_idx rfl rfl rfl Try.underlying22 size3 g61 g62 (Cells.isA (HS58.cells_own (i := 3) rfl) (rowC_ne (E := (Eint .i64)) g61 g62 (by decide)))) ?_
              obtain ⟨l65, h66, H⟩ := of_bnd H
              refine F_setE (E := (Eint .i64)) (i := 3) (a := 1) (q := rd ((rdp ((0, []) : (Int × List Int)) z25 0).2) 0) rfl rfl rfl rfl rfl rfl size3 HS58 rfl (by decide) g61 g62 h66 (fun w63 HS64 => ?_)
              have e67 : z45.length = l65.length := by rw [← h66, List.length_set]
              refine F_know (i := 9) rfl (congrArg (fun n => Value.slice A48 n c49) e67) ?_
              have HS64 : Hp S0 w0 w63 [.rd A_freq_0 (rowC (Eint .i64) l_freq_0), .own A28 c29 (rowC E_valiseref6_Node ds31) 61 E_valiseref6_Node.sz, Dz D_valiseref6_Node S0 w0.heap.size B32 ds31 z25, .own A48 c49 (rowC (Eint .i64) l65) 3 (Eint .i64).sz, Dz D_valiseref6_Node S0 w0.heap.size B32 [(rdx E_valiseref6_Node ds31 0)] ([(rdp ((0, []) : (Int × List Int)) z25 0)]), .rd ((rdx E_valiseref6_Node ds31 0).2.1) (rowC (Eint .i64) ((rdp ((0, []) : (Int × List Int)) z25 0).2))] := HS64
              refine F_nil ?_
              refine L_seq ?_
              have HS68 : Hp S0 w0 w63 [.rd A_freq_0 (rowC (Eint .i64) l_freq_0), .own A48 c49 (rowC (Eint .i64) l65) 3 (Eint .i64).sz] := HS64.sel [0, 3] rfl
              refine L_region ?_
              refine F_val rfl rfl rfl (O_move rfl rfl) ?_
              refine F_val rfl rfl rfl (O_assign rfl rfl) ?_
              refine F_val rfl rfl rfl (O_assign rfl rfl) ?_
              refine F_nil ?_
              refine L_ret (fun a ha => (post_ret2 ha rfl rfl rfl ?_))
              obtain rfl := Option.some.inj H
              exact ⟨_, _, rfl, HS68.sel [1] rfl⟩
            · have H := of_neg H c51
              refine L_skip ?_
              refine L_seq ?_
              refine L_region ?_
              refine F_val rfl rfl rfl (O_move rfl rfl) ?_
              refine F_val rfl rfl rfl (O_assign rfl rfl) ?_
              refine F_nil ?_
              refine L_seq ?_
              refine L_seq ?_
              refine L_region ?_
              refine F_val rfl rfl rfl (O_assign rfl rfl) ?_
              refine F_nil ?_
              obtain ⟨yj69, Hyj69, H⟩ := of_bind H
              refine L_join (fun a w => ∃ (l224 : List (Int × List Int)), ∃ (A220 : Option Addr), ∃ (c221 : Nat), ∃ (ds222 : List ((Int × List Int) × Option Addr × Nat)), ∃ (B223 : Nat → Prop), yj69 = l224 ∧ Is Try.f29.ntmps a [(8, .int .i64 x34), (9, .slice A48 z45.length c49), (10, .slice A220 l224.length c221)] ∧ Hp S0 w0 w [.rd A_freq_0 (rowC (Eint .i64) l_freq_0), .own A48 c49 (rowC (Eint .i64) z45) 3 (Eint .i64).sz, Rdc l224.length c221 A220 (rowC E_valiseref6_Node ds222), Dz D_valiseref6_Node S0 w0.heap.size B223 ds222 l224]) (fun Qj69 hNj69 hOj69 => ?_) (fun a w hR => ?_)
              · skip
                have H := Hyj69
                refine L_blk (fun Qb225 hNb225 hXb225 hOb225 => ?_)
                have HS258 : Hp S0 w0 w [.rd A_freq_0 (rowC (Eint .i64) l_freq_0), Rdc z25.length c29 A28 (rowC E_valiseref6_Node ds31), Dz D_valiseref6_Node S0 w0.heap.size B32 ds31 z25, .own A48 c49 (rowC (Eint .i64) z45) 3 (Eint .i64).sz] := HS47.ownRdc (i := 1) rfl (dz_capx (HS47.dze (i := 2) rfl) (HS47.own_capE (i := 1) rfl (by decide)))
                have HS260 : Hp S0 w0 w [.rd A_freq_0 (rowC (Eint .i64) l_freq_0), Rdc z25.length c29 A28 (rowC E_valiseref6_Node ds31), Dz D_valiseref6_Node S0 w0.heap.size B32 ds31 z25, .own A48 c49 (rowC (Eint .i64) z45) 3 (Eint .i64).sz, Rdc z25.length c29 A28 (rowC E_valiseref6_Node ds31)] := HS258.rdcSub (i := 1) rfl ((HS258.cells_rdc (i := 1) rfl).self) (HS258.rdc_cap (i := 1) rfl)
                have HS262 : Hp S0 w0 w [.rd A_freq_0 (rowC (Eint .i64) l_freq_0), Rdc z25.length c29 A28 (rowC E_valiseref6_Node ds31), Dz D_valiseref6_Node S0 w0.heap.size B32 ds31 z25, .own A48 c49 (rowC (Eint .i64) z45) 3 (Eint .i64).sz, Rdc z25.length c29 A28 (rowC E_valiseref6_Node ds31), Dz D_valiseref6_Node S0 w0.heap.size B32 ds31 z25] := HS260.dzSub (i := 2) rfl dz_self (HS258.dze (i := 2) rfl)
                refine L_lp (fun k a w => ∃ (l340 : List (Int × List Int)), ∃ (k_341 : Int), ∃ (A336 : Option Addr), ∃ (c337 : Nat), ∃ (ds338 : List ((Int × List Int) × Option Addr × Nat)), ∃ (B339 : Nat → Prop), Is Try.f29.ntmps a [(1, .int .i64 limit_1), (7, .slice A28 z25.length c29), (8, .int .i64 x34), (9, .slice A48 z45.length c49), (10, .slice A336 l340.length c337), (11, .int .i64 k_341)] ∧ Hp S0 w0 w [.rd A_freq_0 (rowC (Eint .i64) l_freq_0), Rdc z25.length c29 A28 (rowC E_valiseref6_Node ds31), Dz D_valiseref6_Node S0 w0.heap.size B32 ds31 z25, .own A48 c49 (rowC (Eint .i64) z45) 3 (Eint .i64).sz, Rdc l340.length c337 A336 (rowC E_valiseref6_Node ds338), Dz D_valiseref6_Node S0 w0.heap.size B339 ds338 l340] ∧ valiseref6_Limited.l1 k l340 k_341 limit_1 z25 = some yj69) FU (fun a ha => ⟨_, _, _, _, _, _, Is.cons ha (Is.cons ha (Is.cons ha (Is.cons ha (Is.cons ha (Is.cons ha (Is.nil ha) rfl) rfl) rfl) rfl) rfl) rfl, HS262.sel [0, 1, 2, 3, 4, 5] rfl, H⟩) (fun kp335 a w342 hI Qp335 hNp335 hOp335 => ?_)
                obtain ⟨l340, k_341, A336, c337, ds338, B339, ha, HS343, HAp335⟩ := hI
                cases kp335 with
                | zero => cases (show (none : Option _) = some _ from HAp335)
                | succ kp335 =>
                  have H := (valiseref6_Limited.l1.eq_2 ..).symm.trans HAp335
                  refine wpLF_app ?_ ha
                  refine L_seq ?_
                  refine L_seq ?_
                  refine L_region ?_
                  refine F_val rfl rfl rfl (O_move rfl rfl) ?_
                  refine F_val rfl rfl rfl (O_move rfl rfl) ?_
                  refine F_val rfl rfl rfl (O_le rfl rfl rfl) ?_
                  refine F_nil ?_
                  refine L_condP rfl (fun c344 => ?_) (fun c344 => ?_)
                  · have H := of_pos H c344
                    refine L_skip ?_
                    refine L_seq ?_
                    refine L_blk (fun Q345 hN345 hX345 hO345 => ?_)
                    refine L_seq ?_
                    refine L_region ?_
                    refine F_val rfl rfl rfl (O_move rfl rfl) ?_
                    obtain ⟨z350, h349, H⟩ := of_bind H
                    refine F_call (xs := [.tmp 60]) rfl rfl rfl rfl Try.func54 nm54 rfl rfl ((valiseref6_packages.calls (HS343.give [] rfl (Lent.rdc HS343 (Lent.dz HS343 (Lent.nil) (i := 5) rfl dz_self (HS343.dze (i := 5) rfl)) (i := 4) rfl ((HS343.cells_rdc (i := 4) rfl).self))) (HS343.rdc_cap (i := 4) rfl) h349).mono (fun e w hc => ?_))
                    obtain ⟨A353, c354, ds356, B357, rfl, HSo⟩ := hc
                    refine ⟨.slice A353 z350.length c354, rfl, ?_⟩
                    have HS352 : Hp S0 w0 w [.rd A_freq_0 (rowC (Eint .i64) l_freq_0), Rdc z25.length c29 A28 (rowC E_valiseref6_Node ds31), Dz D_valiseref6_Node S0 w0.heap.size B32 ds31 z25, .own A48 c49 (rowC (Eint .i64) z45) 3 (Eint .i64).sz, Rdc l340.length c337 A336 (rowC E_valiseref6_Node ds338), Dz D_valiseref6_Node S0 w0.heap.size B339 ds338 l340, .own A353 c354 (rowC E_valiseref6_Node ds356) 61 E_valiseref6_Node.sz, Dz D_valiseref6_Node S0 w0.heap.size B357 ds356 z350] := ((HS343.backD [] HSo (Pv.backG (Pv.own (Pv.per (HSo.dz (i := 1) rfl).1 Pv.nil)) (fun b => (fun hb => Or.elim hb (fun hb => .inl hb) (fun hb => .inr ⟨_, _, nth_mem (i := 5) rfl, hb⟩))))).sel [0, 1, 2, 3, 4, 5, 6, 7] rfl).dzProv (i := 7) rfl (fun b hb _ => Or.elim hb (fun hb => Or.elim hb (fun hb => (HS343.mine _ (feet_pick_le hb)).elim (hSF _) .inr) (fun hb => (HS343.dz (i := 5) rfl).1 _ hb)) (fun h => .inr (Nat.le_trans HS343.chg.size h)))
                    refine F_val rfl rfl rfl (O_assign rfl rfl) ?_
                    refine F_nil ?_
                    refine L_region ?_
                    refine F_val rfl rfl rfl (O_move rfl rfl) ?_
                    refine F_val rfl rfl rfl (O_move rfl rfl) ?_
                    obtain ⟨z363, h362, H⟩ := of_bind H
                    refine F_call (xs := [.tmp 62, .tmp 63]) rfl rfl rfl rfl Try.func55 nm55 rfl rfl ((valiseref6_merged.calls (HS352.give [] rfl (Lent.rdc HS352 (Lent.dz HS352 (Lent.own HS352 (Lent.dz HS352 (Lent.nil) (i := 7) rfl dz_self (HS352.dze (i := 7) rfl)) (i := 6) rfl rfl ((HS352.cells_own (i := 6) rfl).self)) (i := 2) rfl dz_self (HS352.dze (i := 2) rfl)) (i := 1) rfl ((HS352.cells_rdc (i := 1) rfl).self))) (HS352.rdc_cap (i := 1) rfl) (dz_capx (HS352.dze (i := 7) rfl) (HS352.own_capE (i := 6) rfl (by decide))) h362).mono (fun e w hc => ?_))
                    obtain ⟨A366, c367, ds369, B370, rfl, HSo⟩ := hc
                    refine ⟨.slice A366 z363.length c367, rfl, ?_⟩
                    have HS365 : Hp S0 w0 w [.rd A_freq_0 (rowC (Eint .i64) l_freq_0), Rdc z25.length c29 A28 (rowC E_valiseref6_Node ds31), Dz D_valiseref6_Node S0 w0.heap.size B32 ds31 z25, .own A48 c49 (rowC (Eint .i64) z45) 3 (Eint .i64).sz, Rdc l340.length c337 A336 (rowC E_valiseref6_Node ds338), Dz D_valiseref6_Node S0 w0.heap.size B339 ds338 l340, .own A353 c354 (rowC E_valiseref6_Node ds356) 61 E_valiseref6_Node.sz, Dz D_valiseref6_Node S0 w0.heap.size B357 ds356 z350, .own A366 c367 (rowC E_valiseref6_Node ds369) 61 E_valiseref6_Node.sz, Dz D_valiseref6_Node S0 w0.heap.size B370 ds369 z363] := ((HS352.backD [] HSo (Pv.backG (Pv.own (Pv.per (HSo.dz (i := 1) rfl).1 Pv.nil)) (fun b => (fun hb => Or.elim hb (fun hb => Or.elim hb (fun hb => .inl hb) (fun hb => .inr ⟨_, _, nth_mem (i := 2) rfl, hb⟩)) (fun hb => .inr ⟨_, _, nth_mem (i := 7) rfl, hb⟩))))).sel [0, 1, 2, 3, 4, 5, 6, 7, 8, 9] rfl).dzProv (i := 9) rfl (fun b hb _ => Or.elim hb (fun hb => Or.elim hb (fun hb => Or.elim hb (fun hb => (HS352.mine _ (feet_pick_le hb)).elim (hSF _) .inr) (fun hb => (HS352.dz (i := 2) rfl).1 _ hb)) (fun hb => (HS352.dz (i := 7) rfl).1 _ hb)) (fun h => .inr (Nat.le_trans HS352.chg.size h)))
                    refine F_val rfl rfl rfl (O_assign rfl rfl) ?_
                    refine F_nil ?_
                    refine L_endB hN345 ?_
                    have HS372 : Hp S0 w0 w [.rd A_freq_0 (rowC (Eint .i64) l_freq_0), Rdc z25.length c29 A28 (rowC E_valiseref6_Node ds31), Dz D_valiseref6_Node S0 w0.heap.size B32 ds31 z25, .own A48 c49 (rowC (Eint .i64) z45) 3 (Eint .i64).sz, Rdc l340.length c337 A336 (rowC E_valiseref6_Node ds338), Dz D_valiseref6_Node S0 w0.heap.size B339 ds338 l340, .own A366 c367 (rowC E_valiseref6_Node ds369) 61 E_valiseref6_Node.sz, Dz D_valiseref6_Node S0 w0.heap.size B370 ds369 z363] := HS365.sel [0, 1, 2, 3, 4, 5, 8, 9] rfl
                    refine L_region ?_
                    refine F_val rfl rfl rfl (O_move rfl rfl) ?_
                    refine F_val rfl rfl rfl (O_add rfl rfl rfl) ?_
                    obtain ⟨x373, h374, H⟩ := of_bnd H
                    refine F_val rfl rfl rfl (O_assign' rfl rfl (congrArg (Value.int .i64) h374)) ?_
                    refine F_nil ?_
                    have HS375 : Hp S0 w0 w [.rd A_freq_0 (rowC (Eint .i64) l_freq_0), Rdc z25.length c29 A28 (rowC E_valiseref6_Node ds31), Dz D_valiseref6_Node S0 w0.heap.size B32 ds31 z25, .own A48 c49 (rowC (Eint .i64) z45) 3 (Eint .i64).sz, Rdc l340.length c337 A336 (rowC E_valiseref6_Node ds338), Dz D_valiseref6_Node S0 w0.heap.size B339 ds338 l340, Rdc z363.length c367 A366 (rowC E_valiseref6_Node ds369), Dz D_valiseref6_Node S0 w0.heap.size B370 ds369 z363] := HS372.ownRdc (i := 6) rfl (dz_capx (HS372.dze (i := 7) rfl) (HS372.own_capE (i := 6) rfl (by decide)))
                    refine L_nil (fun a ha => hNp335 _ a _ (Nat.lt_succ_self _) ⟨_, _, _, _, _, _, Is.cons ha (Is.cons ha (Is.cons ha (Is.cons ha (Is.cons ha (Is.cons ha (Is.nil ha) rfl) rfl) rfl) rfl) rfl) rfl, HS375.sel [0, 1, 2, 3, 6, 7] rfl, H⟩)
                  · have H := of_neg H c344
                    refine L_exitB (fun a w h => hOp335 (.exit 0) a w rfl (hXb225 a w h)) ?_
                    refine L_nil (fun a ha => hNj69 a _ ⟨_, _, _, _, _, (Option.some.inj H).symm, Is.cons ha (Is.cons ha (Is.cons ha (Is.nil ha) rfl) rfl) rfl, HS343.sel [0, 3, 4, 5] rfl⟩)
              · obtain ⟨l224, A220, c221, ds222, B223, ej, ha, HS377⟩ := hR
                obtain rfl := ej.symm
                refine wpLF_app ?_ ha
                refine L_seq ?_
                refine L_seq ?_
                refine L_region ?_
                refine F_val rfl rfl rfl (O_assign rfl rfl) ?_
                refine F_nil ?_
                obtain ⟨yj378, Hyj378, H⟩ := of_bind H
                refine L_join (fun a w => ∃ (l981 : List Int), yj378 = l981 ∧ Is Try.f29.ntmps a [(9, .slice A48 l981.length c49)] ∧ Hp S0 w0 w [.rd A_freq_0 (rowC (Eint .i64) l_freq_0), .own A48 c49 (rowC (Eint .i64) l981) 3 (Eint .i64).sz]) (fun Qj378 hNj378 hOj378 => ?_) (fun a w hR => ?_)
                · skip
                  have H := Hyj378
                  refine L_blk (fun Qb982 hNb982 hXb982 hOb982 => ?_)
                  refine L_lp (fun k a w => ∃ (l1382 : List Int), ∃ (i_1383 : Int), Is Try.f29.ntmps a [(8, .int .i64 x34), (9, .slice A48 l1382.length c49), (10, .slice A220 l224.length c221), (13, .int .i64 i_1383)] ∧ Hp S0 w0 w [.rd A_freq_0 (rowC (Eint .i64) l_freq_0), .own A48 c49 (rowC (Eint .i64) l1382) 3 (Eint .i64).sz, Rdc l224.length c221 A220 (rowC E_valiseref6_Node ds222), Dz D_valiseref6_Node S0 w0.heap.size B223 ds222 l224] ∧ valiseref6_Limited.l13 k l1382 i_1383 x34 l224 = some yj378) FU (fun a ha => ⟨_, _, Is.cons ha (Is.cons ha (Is.cons ha (Is.cons ha (Is.nil ha) rfl) rfl) rfl) rfl, HS377.sel [0, 1, 2, 3] rfl, H⟩) (fun kp1381 a w1384 hI Qp1381 hNp1381 hOp1381 => ?_)
                  obtain ⟨l1382, i_1383, ha, HS1385, HAp1381⟩ := hI
                  cases kp1381 with
                  | zero => cases (show (none : Option _) = some _ from HAp1381)
                  | succ kp1381 =>
                    have H := (valiseref6_Limited.l13.eq_2 ..).symm.trans HAp1381
                    refine wpLF_app ?_ ha
                    refine L_seq ?_
                    refine L_seq ?_
                    refine L_region ?_
                    refine F_val rfl rfl rfl (O_move rfl rfl) ?_
                    refine F_val rfl rfl rfl (O_move rfl rfl) ?_
                    refine F_val rfl rfl rfl (O_mul rfl rfl rfl) ?_
                    refine F_val rfl rfl rfl (O_sub rfl rfl rfl) ?_
                    refine F_val rfl rfl rfl (O_lt rfl rfl rfl) ?_
                    refine F_nil ?_
                    refine L_condP rfl (fun c1386 => ?_) (fun c1386 => ?_)
                    · have H := of_pos H c1386
                      refine L_skip ?_
                      refine L_seq ?_
                      refine L_blk (fun Q1387 hN1387 hX1387 hO1387 => ?_)
                      refine L_seq ?_
                      refine L_region ?_
                      refine F_val rfl rfl rfl (O_assign rfl rfl) ?_
                      refine F_nil ?_
                      obtain ⟨yj1388, Hyj1388, H⟩ := of_bind H
                      refine L_join (fun a w => ∃ (l1484 : List Int), yj1388 = l1484 ∧ Is Try.f29.ntmps a [(8, .int .i64 x34), (9, .slice A48 l1484.length c49), (10, .slice A220 l224.length c221), (13, .int .i64 i_1383)] ∧ Hp S0 w0 w [.rd A_freq_0 (rowC (Eint .i64) l_freq_0), .own A48 c49 (rowC (Eint .i64) l1484) 3 (Eint .i64).sz, Rdc l224.length c221 A220 (rowC E_valiseref6_Node ds222), Dz D_valiseref6_Node S0 w0.heap.size B223 ds222 l224]) (fun Qj1388 hNj1388 hOj1388 => ?_) (fun a w hR => ?_)
                      · skip
                        have H := Hyj1388
                        refine L_blk (fun Qb1485 hNb1485 hXb1485 hOb1485 => ?_)
                        refine L_lp (fun k a w => ∃ (l1547 : List Int), ∃ (k_1548 : Int), Is Try.f29.ntmps a [(8, .int .i64 x34), (9, .slice A48 l1547.length c49), (10, .slice A220 l224.length c221), (13, .int .i64 i_1383), (14, .int .i64 k_1548)] ∧ Hp S0 w0 w [.rd A_freq_0 (rowC (Eint .i64) l_freq_0), .own A48 c49 (rowC (Eint .i64) l1547) 3 (Eint .i64).sz, Rdc l224.length c221 A220 (rowC E_valiseref6_Node ds222), Dz D_valiseref6_Node S0 w0.heap.size B223 ds222 l224] ∧ valiseref6_Limited.l15 k l1547 k_1548 l224 i_1383 = some yj1388) FU (fun a ha => ⟨_, _, Is.cons ha (Is.cons ha (Is.cons ha (Is.cons ha (Is.cons ha (Is.nil ha) rfl) rfl) rfl) rfl) rfl, HS1385.sel [0, 1, 2, 3] rfl, H⟩) (fun kp1546 a w1549 hI Qp1546 hNp1546 hOp1546 => ?_)
                        obtain ⟨l1547, k_1548, ha, HS1550, HAp1546⟩ := hI
                        cases kp1546 with
                        | zero => cases (show (none : Option _) = some _ from HAp1546)
                        | succ kp1546 =>
                          have H := (valiseref6_Limited.l15.eq_2 ..).symm.trans HAp1546
                          refine wpLF_app ?_ ha
                          refine L_seq ?_
                          refine L_seq ?_
                          refine L_region ?_
                          refine F_val rfl rfl rfl (O_move rfl rfl) ?_
                          refine F_val rfl rfl rfl (O_move rfl rfl) ?_
                          refine F_val rfl rfl rfl (O_move rfl rfl) ?_
                          obtain ⟨⟨g1551, g1552⟩, H⟩ := of_gd H
                          refine F_val rfl rfl rfl (O_idx rfl rfl rfl Try.underlying59 size61 g1551 g1552 (Cells.isA (HS1550.cells_rdc (i := 2) rfl) (dz_ne (D := D_valiseref6_Node) (HS1550.dze (i := 3) rfl) g1551 g1552 (by decide)))) ?_
                          refine F_val rfl rfl rfl (O_fieldC rfl rfl (Cells.isA (HS1550.cells_rdc (i := 2) rfl) (dz_ne (D := D_valiseref6_Node) (HS1550.dze (i := 3) rfl) g1551 g1552 (by decide))) field61_1) ?_
                          have HS1554 : Hp S0 w0 w1549 [.rd A_freq_0 (rowC (Eint .i64) l_freq_0), .own A48 c49 (rowC (Eint .i64) l1547) 3 (Eint .i64).sz, Rdc l224.length c221 A220 (rowC E_valiseref6_Node ds222), Dz D_valiseref6_Node S0 w0.heap.size B223 ds222 l224, Dz D_valiseref6_Node S0 w0.heap.size B223 [(rdx E_valiseref6_Node ds222 i_1383)] ([(rdp ((0, []) : (Int × List Int)) l224 i_1383)])] := HS1550.dzOne (i := 3) rfl dz_self (HS1550.dze (i := 3) rfl) g1551 g1552
                          have hc1555 := HS1554.ndCap (i := 4) rfl (rfl : _ = (rdp ((0, []) : (Int × List Int)) l224 i_1383).2)
                          have HS1557 : Hp S0 w0 w1549 [.rd A_freq_0 (rowC (Eint .i64) l_freq_0), .own A48 c49 (rowC (Eint .i64) l1547) 3 (Eint .i64).sz, Rdc l224.length c221 A220 (rowC E_valiseref6_Node ds222), Dz D_valiseref6_Node S0 w0.heap.size B223 ds222 l224, Dz D_valiseref6_Node S0 w0.heap.size B223 [(rdx E_valiseref6_Node ds222 i_1383)] ([(rdp ((0, []) : (Int × List Int)) l224 i_1383)]), .rd ((rdx E_valiseref6_Node ds222 i_1383).2.1) (rowC (Eint .i64) ((rdp ((0, []) : (Int × List Int)) l224 i_1383).2))] := HS1554.ndRd (i := 4) rfl rfl
                          refine F_val rfl rfl rfl (O_loadC rfl rfl flat22 (HS1557.cells_rdc (i := 2) rfl) (dz_cellS (D := D_valiseref6_Node) (f := fun x A c => .slice A x.2.length c) 1 (fun d => rfl) rfl (HS1557.dze (i := 3) rfl) g1551 g1552)) ?_
                          refine F_val rfl rfl rfl (O_len rfl rfl Try.underlying22) ?_
                          refine F_val rfl rfl rfl (O_lt rfl rfl rfl) ?_
                          refine F_nil ?_
                          refine L_condP rfl (fun c1558 => ?_) (fun c1558 => ?_)
                          · have H := of_pos H c1558
                            refine L_skip ?_
                            refine L_seq ?_
                            refine L_blk (fun Q1559 hN1559 hX1559 hO1559 => ?_)
                            refine L_seq ?_
                            have HS1560 : Hp S0 w0 w1549 [.rd A_freq_0 (rowC (Eint .i64) l_freq_0), .own A48 c49 (rowC (Eint .i64) l1547) 3 (Eint .i64).sz, Rdc l224.length c221 A220 (rowC E_valiseref6_Node ds222), Dz D_valiseref6_Node S0 w0.heap.size B223 ds222 l224] := HS1557.sel [0, 1, 2, 3] rfl
                            refine L_region ?_
                            refine F_val rfl rfl rfl (O_move rfl rfl) ?_
                            refine F_val rfl rfl rfl (O_move rfl rfl) ?_
                            refine F_val rfl rfl rfl (O_idx rfl rfl rfl Try.underlying59 size61 g1551 g1552 (Cells.isA (HS1560.cells_rdc (i := 2) rfl) (dz_ne (D := D_valiseref6_Node) (HS1560.dze (i := 3) rfl) g1551 g1552 (by decide)))) ?_
                            refine F_val rfl rfl rfl (O_fieldC rfl rfl (Cells.isA (HS1560.cells_rdc (i := 2) rfl) (dz_ne (D := D_valiseref6_Node) (HS1560.dze (i := 3) rfl) g1551 g1552 (by decide))) field61_1) ?_
                            have HS1562 : Hp S0 w0 w1549 [.rd A_freq_0 (rowC (Eint .i64) l_freq_0), .own A48 c49 (rowC (Eint .i64) l1547) 3 (Eint .i64).sz, Rdc l224.length c221 A220 (rowC E_valiseref6_Node ds222), Dz D_valiseref6_Node S0 w0.heap.size B223 ds222 l224, Dz D_valiseref6_Node S0 w0.heap.size B223 [(rdx E_valiseref6_Node ds222 i_1383)] ([(rdp ((0, []) : (Int × List Int)) l224 i_1383)])] := HS1560.dzOne (i := 3) rfl dz_self (HS1560.dze (i := 3) rfl) g1551 g1552
                            have hc1563 := HS1562.ndCap (i := 4) rfl (rfl : _ = (rdp ((0, []) : (Int × List Int)) l224 i_1383).2)
                            have HS1565 : Hp S0 w0 w1549 [.rd A_freq_0 (rowC (Eint .i64) l_freq_0), .own A48 c49 (rowC (Eint .i64) l1547) 3 (Eint .i64).sz, Rdc l224.length c221 A220 (rowC E_valiseref6_Node ds222), Dz D_valiseref6_Node S0 w0.heap.size B223 ds222 l224, Dz D_valiseref6_Node S0 w0.heap.size B223 [(rdx E_valiseref6_Node ds222 i_1383)] ([(rdp ((0, []) : (Int × List Int)) l224 i_1383)]), .rd ((rdx E_valiseref6_Node ds222 i_1383).2.1) (rowC (Eint .i64) ((rdp ((0, []) : (Int × List Int)) l224 i_1383).2))] := HS1562.ndRd (i := 4) rfl rfl
                            refine F_val rfl rfl rfl (O_loadC rfl rfl flat22 (HS1565.cells_rdc (i := 2) rfl) (dz_cellS (D := D_valiseref6_Node) (f := fun x A c => .slice A x.2.length c) 1 (fun d => rfl) rfl (HS1565.dze (i := 3) rfl) g1551 g1552)) ?_
                            refine F_val rfl rfl rfl (O_move rfl rfl) ?_
                            obtain ⟨⟨g1566, g1567⟩, H⟩ := of_gd H
                            refine F_val rfl rfl rfl (O_idx rfl rfl rfl Try.underlying22 size3 g1566 g1567 (Cells.isA (HS1565.cells_rd (i := 5) rfl) (rowC_ne (E := (Eint .i64)) g1566 g1567 (by decide)))) ?_
                            refine F_val rfl rfl rfl (O_loadC rfl rfl flat3 (HS1565.cells_rd (i := 5) rfl) (int_cell g1566 g1567)) ?_
                            obtain ⟨x1568, h1569, H⟩ := of_bnd H
                            refine F_val rfl rfl rfl (O_assign' rfl rfl (congrArg (Value.int .i64) h1569)) ?_
                            refine F_nil ?_
                            have HS1570 : Hp S0 w0 w1549 [.rd A_freq_0 (rowC (Eint .i64) l_freq_0), .own A48 c49 (rowC (Eint .i64) l1547) 3 (Eint .i64).sz, Rdc l224.length c221 A220 (rowC E_valiseref6_Node ds222), Dz D_valiseref6_Node S0 w0.heap.size B223 ds222 l224] := HS1565.sel [0, 1, 2, 3] rfl
                            refine L_region ?_
                            refine F_val rfl rfl rfl (O_move rfl rfl) ?_
                            refine F_val rfl rfl rfl (O_move rfl rfl) ?_
                            refine F_val rfl rfl rfl (O_move rfl rfl) ?_
                            refine F_val rfl rfl rfl (O_move rfl rfl) ?_
                            obtain ⟨⟨g1571, g1572⟩, H⟩ := of_gd H
                            refine F_val rfl rfl rfl (O_idx rfl rfl rfl Try.underlying22 size3 g1571 g1572 (Cells.isA (HS1570.cells_own (i := 1) rfl) (rowC_ne (E := (Eint .i64)) g1571 g1572 (by decide)))) ?_
                            refine F_val rfl rfl rfl (O_loadC rfl rfl flat3 (HS1570.cells_own (i := 1) rfl) (int_cell g1571 g1572)) ?_
                            refine F_val rfl rfl rfl (O_add rfl rfl rfl) ?_
                            refine F_val rfl rfl rfl (O_idx rfl rfl rfl Try.underlying22 size3 g1571 g1572 (Cells.isA (HS1570.cells_own (i := 1) rfl) (rowC_ne (E := (Eint .i64)) g1571 g1572 (by decide)))) ?_
                            obtain ⟨l1575, h1576, H⟩ := of_bnd H
                            refine F_setE (E := (Eint .i64)) (i := 1) (a := IntKind.i64.wrap ((rd l1547 x1568) + 1)) (q := x1568) rfl rfl rfl rfl rfl rfl size3 HS1570 rfl (by decide) g1571 g1572 h1576 (fun w1573 HS1574 => ?_)
                            have e1577 : l1547.length = l1575.length := by rw [← h1576, List.length_set]
                            refine F_know (i := 9) rfl (congrArg (fun n => Value.slice A48 n c49) e1577) ?_
                            have HS1574 : Hp S0 w0 w1573 [.rd A_freq_0 (rowC (Eint .i64) l_freq_0), .own A48 c49 (rowC (Eint .i64) l1575) 3 (Eint .i64).sz, Rdc l224.length c221 A220 (rowC E_valiseref6_Node ds222), Dz D_valiseref6_Node S0 w0.heap.size B223 ds222 l224] := HS1574
                            refine F_nil ?_
                            refine L_endB hN1559 ?_
                            refine L_region ?_
                            refine F_val rfl rfl rfl (O_move rfl rfl) ?_
                            refine F_val rfl rfl rfl (O_add rfl rfl rfl) ?_
                            obtain ⟨x1578, h1579, H⟩ := of_bnd H
                            refine F_val rfl rfl rfl (O_assign' rfl rfl (congrArg (Value.int .i64) h1579)) ?_
                            refine F_nil ?_
                            refine L_nil (fun a ha => hNp1546 _ a _ (Nat.lt_succ_self _) ⟨_, _, Is.cons ha (Is.cons ha (Is.cons ha (Is.cons ha (Is.cons ha (Is.nil ha) rfl) rfl) rfl) rfl) rfl, HS1574.sel [0, 1, 2, 3] rfl, H⟩)
                          · have H := of_neg H c1558
                            refine L_exitB (fun a w h => hOp1546 (.exit 4) a w rfl (hXb1485 a w h)) ?_
                            refine L_nil (fun a ha => hNj1388 a _ ⟨_, (Option.some.inj H).symm, Is.cons ha (Is.cons ha (Is.cons ha (Is.cons ha (Is.nil ha) rfl) rfl) rfl) rfl, HS1557.sel [0, 1, 2, 3] rfl⟩)
                      · obtain ⟨l1484, ej, ha, HS1581⟩ := hR
                        obtain rfl := ej.symm
                        refine wpLF_app ?_ ha
                        refine L_endB hN1387 ?_
                        refine L_region ?_
                        refine F_val rfl rfl rfl (O_move rfl rfl) ?_
                        refine F_val rfl rfl rfl (O_add rfl rfl rfl) ?_
                        obtain ⟨x1582, h1583, H⟩ := of_bnd H
                        refine F_val rfl rfl rfl (O_assign' rfl rfl (congrArg (Value.int .i64) h1583)) ?_
                        refine F_nil ?_
                        refine L_nil (fun a ha => hNp1381 _ a _ (Nat.lt_succ_self _) ⟨_, _, Is.cons ha (Is.cons ha (Is.cons ha (Is.cons ha (Is.nil ha) rfl) rfl) rfl) rfl, HS1581.sel [0, 1, 2, 3] rfl, H⟩)
                    · have H := of_neg H c1386
                      refine L_exitB (fun a w h => hOp1381 (.exit 2) a w rfl (hXb982 a w h)) ?_
                      refine L_nil (fun a ha => hNj378 a _ ⟨_, (Option.some.inj H).symm, Is.cons ha (Is.nil ha) rfl, HS1385.sel [0, 1] rfl⟩)
                · obtain ⟨l981, ej, ha, HS1585⟩ := hR
                  obtain rfl := ej.symm
                  refine wpLF_app ?_ ha
                  refine L_seq ?_
                  refine L_region ?_
                  refine F_val rfl rfl rfl (O_move rfl rfl) ?_
                  refine F_val rfl rfl rfl (O_assign rfl rfl) ?_
                  refine F_val rfl rfl rfl (O_assign rfl rfl) ?_
                  refine F_nil ?_
                  refine L_ret (fun a ha => (post_ret2 ha rfl rfl rfl ?_))
                  obtain rfl := Option.some.inj H
                  exact ⟨_, _, rfl, HS1585.sel [1] rfl⟩

/-! function 18: valise/valiselaw6.num -/
theorem valiselaw6_num.calls {S0 : Nat → Prop} {w0 : World} {e_0 : Int} {r : Int} (HS0 : Hp S0 w0 w0 []) (h : valiselaw6_num.f e_0 = some r) :
    Calls Try.prog 18 ([.int .i64 e_0] : List Value).toArray w0 (fun e w => e = .returned (.int .i64 r) ∧ Hp S0 w0 w []) := by
  have H : ((some e_0) : Option (Int)) = some r := h
  refine calls_start Try.func18 rfl rfl ?_
  refine L_seq ?_
  refine L_region ?_
  refine F_val rfl rfl rfl (O_assign rfl rfl) ?_
  refine F_nil ?_
  refine L_seq ?_
  refine L_region ?_
  refine F_val rfl rfl rfl (O_move rfl rfl) ?_
  refine F_val rfl rfl rfl (O_assign rfl rfl) ?_
  refine F_nil ?_
  refine L_ret (fun a ha => (post_ret1 ha rfl rfl ?_))
  obtain rfl := Option.some.inj H
  exact ⟨rfl, HS0.sel [] rfl⟩

/-! function 22: valise/valiselaw6.same -/
theorem valiselaw6_same.calls {S0 : Nat → Prop} {w0 : World} {A_a_0 : Option Addr} {c_a_0 : Nat} {A_b_1 : Option Addr} {c_b_1 : Nat} {l_a_0 : List Int} {l_b_1 : List Int} {r : Bool} (HS0 : Hp S0 w0 w0 [.rd A_a_0 (rowC (Eint .i64) l_a_0), .rd A_b_1 (rowC (Eint .i64) l_b_1)]) (hc_a_0 : l_a_0.length ≤ c_a_0) (hc_b_1 : l_b_1.length ≤ c_b_1) (h : valiselaw6_same.f l_a_0 l_b_1 = some r) :
    Calls Try.prog 22 ([.slice A_a_0 l_a_0.length c_a_0, .slice A_b_1 l_b_1.length c_b_1] : List Value).toArray w0 (fun e w => e = .returned (.bool r) ∧ Hp S0 w0 w []) := by
  have H : ((if (l_a_0.length : Int) ≠ (l_b_1.length : Int) then (some false) else ((valiselaw6_same.l1 FU 0 l_a_0 l_b_1).bind fun (yj2 : Sum (Bool) (Unit)) => onR yj2 (fun r => some r) fun () => some true)) : Option (Bool)) = some r := h
  refine calls_start Try.func22 rfl rfl ?_
  refine L_seq ?_
  refine L_region ?_
  refine F_val rfl rfl rfl (O_assign rfl rfl) ?_
  refine F_nil ?_
  refine L_seq ?_
  refine L_seq ?_
  refine L_region ?_
  refine F_val rfl rfl rfl (O_move rfl rfl) ?_
  refine F_val rfl rfl rfl (O_len rfl rfl Try.underlying22) ?_
  refine F_val rfl rfl rfl (O_move rfl rfl) ?_
  refine F_val rfl rfl rfl (O_len rfl rfl Try.underlying22) ?_
  refine F_val rfl rfl rfl (O_ne rfl rfl rfl) ?_
  refine F_nil ?_
  refine L_condP rfl (fun c1 => ?_) (fun c1 => ?_)
  · have H := of_pos H c1
    refine L_seq ?_
    refine L_region ?_
    refine F_val rfl rfl rfl (O_assign rfl rfl) ?_
    refine F_nil ?_
    refine L_ret (fun a ha => (post_ret1 ha rfl rfl ?_))
    obtain rfl := Option.some.inj H
    exact ⟨rfl, HS0.sel [] rfl⟩
  · have H := of_neg H c1
    refine L_skip ?_
    refine L_seq ?_
    refine L_seq ?_
    refine L_region ?_
    refine F_val rfl rfl rfl (O_assign rfl rfl) ?_
    refine F_nil ?_
    obtain ⟨yj2, Hyj2, H⟩ := of_bind H
    refine L_join (fun a w => yj2 = Sum.inr () ∧ Is Try.f22.ntmps a [] ∧ Hp S0 w0 w [.rd A_a_0 (rowC (Eint .i64) l_a_0), .rd A_b_1 (rowC (Eint .i64) l_b_1)]) (fun Qj2 hNj2 hOj2 => ?_) (fun a w hR => ?_)
    · have HOj2 := H
      have H := Hyj2
      refine L_blk (fun Qb45 hNb45 hXb45 hOb45 => ?_)
      refine L_lp (fun k a w => ∃ (i_72 : Int), Is Try.f22.ntmps a [(0, .slice A_a_0 l_a_0.length c_a_0), (1, .slice A_b_1 l_b_1.length c_b_1), (5, .int .i64 i_72)] ∧ Hp S0 w0 w [.rd A_a_0 (rowC (Eint .i64) l_a_0), .rd A_b_1 (rowC (Eint .i64) l_b_1)] ∧ valiselaw6_same.l1 k i_72 l_a_0 l_b_1 = some yj2) FU (fun a ha => ⟨_, Is.cons ha (Is.cons ha (Is.cons ha (Is.nil ha) rfl) rfl) rfl, HS0.sel [0, 1] rfl, H⟩) (fun kp71 a w73 hI Qp71 hNp71 hOp71 => ?_)
      obtain ⟨i_72, ha, HS74, HAp71⟩ := hI
      cases kp71 with
      | zero => cases (show (none : Option _) = some _ from HAp71)
      | succ kp71 =>
        have H := (valiselaw6_same.l1.eq_2 ..).symm.trans HAp71
        refine wpLF_app ?_ ha
        refine L_seq ?_
        refine L_seq ?_
        refine L_region ?_
        refine F_val rfl rfl rfl (O_move rfl rfl) ?_
        refine F_val rfl rfl rfl (O_move rfl rfl) ?_
        refine F_val rfl rfl rfl (O_len rfl rfl Try.underlying22) ?_
        refine F_val rfl rfl rfl (O_lt rfl rfl rfl) ?_
        refine F_nil ?_
        refine L_condP rfl (fun c75 => ?_) (fun c75 => ?_)
        · have H := of_pos H c75
          refine L_skip ?_
          refine L_seq ?_
          refine L_blk (fun Q76 hN76 hX76 hO76 => ?_)
          refine L_seq ?_
          refine L_quiet mix (by kernel_rfl) ?_
          refine Q_val rfl rfl rfl (fun wq hq => O_move rfl rfl) ?_
          refine Q_val rfl rfl rfl (fun wq hq => O_move rfl rfl) ?_
          obtain ⟨⟨g77, g78⟩, H⟩ := of_gd H
          refine Q_val rfl rfl rfl (fun wq hq => O_idx rfl rfl rfl Try.underlying22 size3 g77 g78 (Cells.isA ((HS74.keep hq).cells_rd (i := 0) rfl) (rowC_ne (E := (Eint .i64)) g77 g78 (by decide)))) ?_
          refine Q_val rfl rfl rfl (fun wq hq => O_loadC rfl rfl flat3 ((HS74.keep hq).cells_rd (i := 0) rfl) (int_cell g77 g78)) ?_
          refine Q_val rfl rfl rfl (fun wq hq => O_move rfl rfl) ?_
          refine Q_val rfl rfl rfl (fun wq hq => O_move rfl rfl) ?_
          obtain ⟨⟨g79, g80⟩, H⟩ := of_gd H
          refine Q_val rfl rfl rfl (fun wq hq => O_idx rfl rfl rfl Try.underlying22 size3 g79 g80 (Cells.isA ((HS74.keep hq).cells_rd (i := 1) rfl) (rowC_ne (E := (Eint .i64)) g79 g80 (by decide)))) ?_
          refine Q_val rfl rfl rfl (fun wq hq => O_loadC rfl rfl flat3 ((HS74.keep hq).cells_rd (i := 1) rfl) (int_cell g79 g80)) ?_
          refine Q_val rfl rfl rfl (fun wq hq => O_ne rfl rfl rfl) ?_
          refine Q_nil (fun w81 hw82 => ?_)
          have HS83 := HS74.keep hw82
          refine L_condP rfl (fun c84 => ?_) (fun c84 => ?_)
          · have H := of_pos H c84
            refine L_seq ?_
            refine L_region ?_
            refine F_val rfl rfl rfl (O_assign rfl rfl) ?_
            refine F_nil ?_
            refine L_ret (fun a ha => (hO76 .ret a _ rfl (hOp71 .ret a _ rfl (hOb45 .ret a _ rfl (hOj2 .ret a _ rfl (post_ret1 ha rfl rfl ?_))))))
            obtain rfl := Option.some.inj H
            obtain rfl := Option.some.inj (show (some false : Option (Bool)) = some _ from HOj2)
            exact ⟨rfl, HS83.sel [] rfl⟩
          · have H := of_neg H c84
            refine L_skip ?_
            refine L_endB hN76 ?_
            refine L_region ?_
            refine F_val rfl rfl rfl (O_move rfl rfl) ?_
            refine F_val rfl rfl rfl (O_add rfl rfl rfl) ?_
            obtain ⟨x85, h86, H⟩ := of_bnd H
            refine F_val rfl rfl rfl (O_assign' rfl rfl (congrArg (Value.int .i64) h86)) ?_
            refine F_nil ?_
            refine L_nil (fun a ha => hNp71 _ a _ (Nat.lt_succ_self _) ⟨_, Is.cons ha (Is.cons ha (Is.cons ha (Is.nil ha) rfl) rfl) rfl, HS83.sel [0, 1] rfl, H⟩)
        · have H := of_neg H c75
          refine L_exitB (fun a w h => hOp71 (.exit 0) a w rfl (hXb45 a w h)) ?_
          refine L_nil (fun a ha => hNj2 a _ ⟨(Option.some.inj H).symm, Is.nil ha, HS74.sel [0, 1] rfl⟩)
    · obtain ⟨rfl, ha, HS88⟩ := hR
      refine wpLF_app ?_ ha
      have H := (onR_inr _ _ _).symm.trans H
      refine L_seq ?_
      refine L_region ?_
      refine F_val rfl rfl rfl (O_assign rfl rfl) ?_
      refine F_nil ?_
      refine L_ret (fun a ha => (post_ret1 ha rfl rfl ?_))
      obtain rfl := Option.some.inj H
      exact ⟨rfl, HS88.sel [] rfl⟩

/-! function 19: valise/valiselaw6.still -/
theorem valiselaw6_still.calls {S0 : Nat → Prop} {w0 : World} {A_given_0 : Option Addr} {c_given_0 : Nat} {A_a_1 : Option Addr} {c_a_1 : Nat} {l_given_0 : List Int} {m_given_0 : Nat} {l_a_1 : List Int} {r : Bool} (HS0 : Hp S0 w0 w0 [.rd A_given_0 (rowC (Eint .i64) l_given_0), .rd A_a_1 (rowC (Eint .i64) l_a_1)]) (hc_given_0 : l_given_0.length ≤ c_given_0) (hc_a_1 : l_a_1.length ≤ c_a_1) (h : valiselaw6_still.f l_given_0 m_given_0 l_a_1 = some r) :
    Calls Try.prog 19 ([.slice A_given_0 (l_given_0.take m_given_0).length c_given_0, .slice A_a_1 l_a_1.length c_a_1] : List Value).toArray w0 (fun e w => e = .returned (.bool r) ∧ Hp S0 w0 w []) := by
  have H : ((if ((l_given_0.take m_given_0).length : Int) ≠ (l_a_1.length : Int) then (some false) else (gd ((0 : Int) ≤ (IntKind.i64.wrap ((l_a_1.length : Int) + 8)) ∧ (IntKind.i64.wrap ((l_a_1.length : Int) + 8)) ≤ (l_given_0.length : Int)) ((valiselaw6_still.l1 FU 0 l_given_0 l_a_1).bind fun (yj4 : Sum (Bool) (Unit)) => onR yj4 (fun r => some r) fun () => some true))) : Option (Bool)) = some r := h
  refine calls_start Try.func19 rfl rfl ?_
  refine L_seq ?_
  refine L_region ?_
  refine F_val rfl rfl rfl (O_assign rfl rfl) ?_
  refine F_nil ?_
  refine L_seq ?_
  refine L_seq ?_
  refine L_region ?_
  refine F_val rfl rfl rfl (O_move rfl rfl) ?_
  refine F_val rfl rfl rfl (O_len rfl rfl Try.underlying22) ?_
  refine F_val rfl rfl rfl (O_move rfl rfl) ?_
  refine F_val rfl rfl rfl (O_len rfl rfl Try.underlying22) ?_
  refine F_val rfl rfl rfl (O_ne rfl rfl rfl) ?_
  refine F_nil ?_
  refine L_condP rfl (fun c1 => ?_) (fun c1 => ?_)
  · have H := of_pos H c1
    refine L_seq ?_
    refine L_region ?_
    refine F_val rfl rfl rfl (O_assign rfl rfl) ?_
    refine F_nil ?_
    refine L_ret (fun a ha => (post_ret1 ha rfl rfl ?_))
    obtain rfl := Option.some.inj H
    exact ⟨rfl, HS0.sel [] rfl⟩
  · have H := of_neg H c1
    refine L_skip ?_
    refine L_seq ?_
    refine L_region ?_
    refine F_val rfl rfl rfl (O_move rfl rfl) ?_
    refine F_val rfl rfl rfl (O_move rfl rfl) ?_
    refine F_val rfl rfl rfl (O_len rfl rfl Try.underlying22) ?_
    refine F_val rfl rfl rfl (O_add rfl rfl rfl) ?_
    obtain ⟨⟨g2, g3⟩, H⟩ := of_gd H
    refine F_val rfl rfl rfl (O_toE l_given_0 rfl rfl rfl Try.underlying22 size3 g2 g3 hc_given_0) ?_
    refine F_val rfl rfl rfl (O_assign rfl rfl) ?_
    refine F_nil ?_
    refine L_seq ?_
    refine L_seq ?_
    refine L_region ?_
    refine F_val rfl rfl rfl (O_assign rfl rfl) ?_
    refine F_nil ?_
    obtain ⟨yj4, Hyj4, H⟩ := of_bind H
    refine L_join (fun a w => yj4 = Sum.inr () ∧ Is Try.f19.ntmps a [] ∧ Hp S0 w0 w [.rd A_given_0 (rowC (Eint .i64) l_given_0), .rd A_a_1 (rowC (Eint .i64) l_a_1)]) (fun Qj4 hNj4 hOj4 => ?_) (fun a w hR => ?_)
    · have HOj4 := H
      have H := Hyj4
      refine L_blk (fun Qb143 hNb143 hXb143 hOb143 => ?_)
      refine L_lp (fun k a w => ∃ (i_234 : Int), Is Try.f19.ntmps a [(1, .slice A_a_1 l_a_1.length c_a_1), (5, .slice A_given_0 (l_given_0.take (IntKind.i64.wrap ((l_a_1.length : Int) + 8) : Int).toNat).length c_given_0), (6, .int .i64 i_234)] ∧ Hp S0 w0 w [.rd A_given_0 (rowC (Eint .i64) l_given_0), .rd A_a_1 (rowC (Eint .i64) l_a_1)] ∧ valiselaw6_still.l1 k i_234 l_given_0 l_a_1 = some yj4) FU (fun a ha => ⟨_, Is.cons ha (Is.cons ha (Is.cons ha (Is.nil ha) rfl) rfl) rfl, HS0.sel [0, 1] rfl, H⟩) (fun kp233 a w235 hI Qp233 hNp233 hOp233 => ?_)
      obtain ⟨i_234, ha, HS236, HAp233⟩ := hI
      cases kp233 with
      | zero => cases (show (none : Option _) = some _ from HAp233)
      | succ kp233 =>
        have H := (valiselaw6_still.l1.eq_2 ..).symm.trans HAp233
        refine wpLF_app ?_ ha
        refine L_seq ?_
        refine L_seq ?_
        refine L_region ?_
        refine F_val rfl rfl rfl (O_move rfl rfl) ?_
        refine F_val rfl rfl rfl (O_move rfl rfl) ?_
        refine F_val rfl rfl rfl (O_len rfl rfl Try.underlying22) ?_
        refine F_val rfl rfl rfl (O_lt rfl rfl rfl) ?_
        refine F_nil ?_
        refine L_condP rfl (fun c237 => ?_) (fun c237 => ?_)
        · have H := of_pos H c237
          refine L_skip ?_
          refine L_seq ?_
          refine L_blk (fun Q238 hN238 hX238 hO238 => ?_)
          refine L_seq ?_
          refine L_quiet mix (by kernel_rfl) ?_
          refine Q_val rfl rfl rfl (fun wq hq => O_move rfl rfl) ?_
          refine Q_val rfl rfl rfl (fun wq hq => O_move rfl rfl) ?_
          refine Q_val rfl rfl rfl (fun wq hq => O_len rfl rfl Try.underlying22) ?_
          refine Q_val rfl rfl rfl (fun wq hq => O_lt rfl rfl rfl) ?_
          refine Q_val rfl rfl rfl (fun wq hq => O_move rfl rfl) ?_
          obtain ⟨b243, Hb243, H⟩ := of_bind H
          refine Q_grp 10 [(37, .bool b243), (1, .slice A_a_1 l_a_1.length c_a_1), (5, .slice A_given_0 (l_given_0.take (IntKind.i64.wrap ((l_a_1.length : Int) + 8) : Int).toNat).length c_given_0), (6, .int .i64 i_234)] ?_ ?_
          · rcases Decidable.em (i_234 < (l_a_1.length : Int)) with c247 | c247
            · refine Q_know (i := 27) rfl (dec_t c247) ?_
              have H := of_pos Hb243 c247
              refine Q_gval rfl rfl rfl rfl rfl rfl (fun wq hq => O_move rfl rfl) ?_
              refine Q_gval rfl rfl rfl rfl rfl rfl (fun wq hq => O_move rfl rfl) ?_
              obtain ⟨⟨g248, g249⟩, H⟩ := of_gd H
              refine Q_gval rfl rfl rfl rfl rfl rfl (fun wq hq => O_idx rfl rfl rfl Try.underlying22 size3 g248 g249 (Cells.isA (Cells.sub ((HS236.keep hq).cells_rd (i := 0) rfl) (Cells.take ((HS236.keep hq).cells_rd (i := 0) rfl) (IntKind.i64.wrap ((l_a_1.length : Int) + 8) : Int).toNat)) (rowC_ne (E := (Eint .i64)) g248 g249 (by decide)))) ?_
              refine Q_gval rfl rfl rfl rfl rfl rfl (fun wq hq => O_loadC rfl rfl flat3 (Cells.sub ((HS236.keep hq).cells_rd (i := 0) rfl) (Cells.take ((HS236.keep hq).cells_rd (i := 0) rfl) (IntKind.i64.wrap ((l_a_1.length : Int) + 8) : Int).toNat)) (int_cell g248 g249)) ?_
              refine Q_gval rfl rfl rfl rfl rfl rfl (fun wq hq => O_move rfl rfl) ?_
              refine Q_gval rfl rfl rfl rfl rfl rfl (fun wq hq => O_move rfl rfl) ?_
              obtain ⟨⟨g250, g251⟩, H⟩ := of_gd H
              refine Q_gval rfl rfl rfl rfl rfl rfl (fun wq hq => O_idx rfl rfl rfl Try.underlying22 size3 g250 g251 (Cells.isA ((HS236.keep hq).cells_rd (i := 1) rfl) (rowC_ne (E := (Eint .i64)) g250 g251 (by decide)))) ?_
              refine Q_gval rfl rfl rfl rfl rfl rfl (fun wq hq => O_loadC rfl rfl flat3 ((HS236.keep hq).cells_rd (i := 1) rfl) (int_cell g250 g251)) ?_
              refine Q_gval rfl rfl rfl rfl rfl rfl (fun wq hq => O_ne rfl rfl rfl) ?_
              refine Q_val rfl rfl rfl (fun wq hq => O_pickT rfl rfl rfl) ?_
              refine Q_know (i := 37) rfl (congrArg Value.bool (Option.some.inj H)) ?_
              exact Q_grpE (fun a ha => Is.cons ha (Is.cons ha (Is.cons ha (Is.cons ha (Is.nil ha) rfl) rfl) rfl) rfl)
            · refine Q_know (i := 27) rfl (dec_f c247) ?_
              have H := of_neg Hb243 c247
              refine Q_gskip rfl rfl rfl rfl rfl rfl rfl ?_
              refine Q_gskip rfl rfl rfl rfl rfl rfl rfl ?_
              refine Q_gskip rfl rfl rfl rfl rfl rfl rfl ?_
              refine Q_gskip rfl rfl rfl rfl rfl rfl rfl ?_
              refine Q_gskip rfl rfl rfl rfl rfl rfl rfl ?_
              refine Q_gskip rfl rfl rfl rfl rfl rfl rfl ?_
              refine Q_gskip rfl rfl rfl rfl rfl rfl rfl ?_
              refine Q_gskip rfl rfl rfl rfl rfl rfl rfl ?_
              refine Q_gskip rfl rfl rfl rfl rfl rfl rfl ?_
              refine Q_val rfl rfl rfl (fun wq hq => O_pickF rfl rfl rfl) ?_
              refine Q_know (i := 37) rfl (congrArg Value.bool (Option.some.inj H)) ?_
              exact Q_grpE (fun a ha => Is.cons ha (Is.cons ha (Is.cons ha (Is.cons ha (Is.nil ha) rfl) rfl) rfl) rfl)
          · skip
            refine Q_val rfl rfl rfl (fun wq hq => O_move rfl rfl) ?_
            obtain ⟨b261, Hb261, H⟩ := of_bind H
            refine Q_grp 12 [(50, .bool b261), (1, .slice A_a_1 l_a_1.length c_a_1), (5, .slice A_given_0 (l_given_0.take (IntKind.i64.wrap ((l_a_1.length : Int) + 8) : Int).toNat).length c_given_0), (6, .int .i64 i_234)] ?_ ?_
            · rcases Decidable.em (b243 = true) with c265 | c265
              · refine Q_know (i := 38) rfl (congrArg Value.bool c265) ?_
                have H := of_pos Hb261 c265
                refine Q_gskip rfl rfl rfl rfl rfl rfl rfl ?_
                refine Q_gskip rfl rfl rfl rfl rfl rfl rfl ?_
                refine Q_gskip rfl rfl rfl rfl rfl rfl rfl ?_
                refine Q_gskip rfl rfl rfl rfl rfl rfl rfl ?_
                refine Q_gskip rfl rfl rfl rfl rfl rfl rfl ?_
                refine Q_gskip rfl rfl rfl rfl rfl rfl rfl ?_
                refine Q_gskip rfl rfl rfl rfl rfl rfl rfl ?_
                refine Q_gskip rfl rfl rfl rfl rfl rfl rfl ?_
                refine Q_gskip rfl rfl rfl rfl rfl rfl rfl ?_
                refine Q_gskip rfl rfl rfl rfl rfl rfl rfl ?_
                refine Q_gskip rfl rfl rfl rfl rfl rfl rfl ?_
                refine Q_val rfl rfl rfl (fun wq hq => O_pickT rfl rfl rfl) ?_
                refine Q_know (i := 50) rfl (congrArg Value.bool (Option.some.inj H)) ?_
                exact Q_grpE (fun a ha => Is.cons ha (Is.cons ha (Is.cons ha (Is.cons ha (Is.nil ha) rfl) rfl) rfl) rfl)
              · refine Q_know (i := 38) rfl (congrArg Value.bool (Bool.eq_false_iff.mpr c265)) ?_
                have H := of_neg Hb261 c265
                refine Q_gval rfl rfl rfl rfl rfl rfl (fun wq hq => O_move rfl rfl) ?_
                refine Q_gval rfl rfl rfl rfl rfl rfl (fun wq hq => O_move rfl rfl) ?_
                refine Q_gval rfl rfl rfl rfl rfl rfl (fun wq hq => O_len rfl rfl Try.underlying22) ?_
                refine Q_gval rfl rfl rfl rfl rfl rfl (fun wq hq => O_ge rfl rfl rfl) ?_
                refine Q_gval rfl rfl rfl rfl rfl rfl (fun wq hq => O_move rfl rfl) ?_
                obtain ⟨b268, Hb268, H⟩ := of_bind H
                refine Q_grp 6 [(49, .bool b268), (1, .slice A_a_1 l_a_1.length c_a_1), (5, .slice A_given_0 (l_given_0.take (IntKind.i64.wrap ((l_a_1.length : Int) + 8) : Int).toNat).length c_given_0), (6, .int .i64 i_234), (38, .bool false), (39, .int .i64 i_234), (40, .slice A_a_1 l_a_1.length c_a_1), (41, .int .i64 (l_a_1.length : Int)), (42, .bool (decide ((l_a_1.length : Int) ≤ i_234))), (43, .bool (decide ((l_a_1.length : Int) ≤ i_234)))] ?_ ?_
                · rcases Decidable.em ((l_a_1.length : Int) ≤ i_234) with c272 | c272
                  · refine Q_know (i := 43) rfl (dec_t c272) ?_
                    have H := of_pos Hb268 c272
                    refine Q_gval rfl rfl rfl rfl rfl rfl (fun wq hq => O_move rfl rfl) ?_
                    refine Q_gval rfl rfl rfl rfl rfl rfl (fun wq hq => O_move rfl rfl) ?_
                    obtain ⟨⟨g273, g274⟩, H⟩ := of_gd H
                    refine Q_gval rfl rfl rfl rfl rfl rfl (fun wq hq => O_idx rfl rfl rfl Try.underlying22 size3 g273 g274 (Cells.isA (Cells.sub ((HS236.keep hq).cells_rd (i := 0) rfl) (Cells.take ((HS236.keep hq).cells_rd (i := 0) rfl) (IntKind.i64.wrap ((l_a_1.length : Int) + 8) : Int).toNat)) (rowC_ne (E := (Eint .i64)) g273 g274 (by decide)))) ?_
                    refine Q_gval rfl rfl rfl rfl rfl rfl (fun wq hq => O_loadC rfl rfl flat3 (Cells.sub ((HS236.keep hq).cells_rd (i := 0) rfl) (Cells.take ((HS236.keep hq).cells_rd (i := 0) rfl) (IntKind.i64.wrap ((l_a_1.length : Int) + 8) : Int).toNat)) (int_cell g273 g274)) ?_
                    refine Q_gval rfl rfl rfl rfl rfl rfl (fun wq hq => O_ne rfl rfl rfl) ?_
                    refine Q_gval rfl rfl rfl rfl rfl rfl (fun wq hq => O_pickT rfl rfl rfl) ?_
                    refine Q_know (i := 49) rfl (congrArg Value.bool (Option.some.inj H)) ?_
                    exact Q_grpE (fun a ha => Is.cons ha (Is.cons ha (Is.cons ha (Is.cons ha (Is.cons ha (Is.cons ha (Is.cons ha (Is.cons ha (Is.cons ha (Is.cons (i := 43) (v := .bool (decide ((l_a_1.length : Int) ≤ i_234))) ha (Is.nil ha) (congrArg some (dec_t c272).symm)) rfl) rfl) rfl) rfl) rfl) rfl) rfl) rfl) rfl)
                  · refine Q_know (i := 43) rfl (dec_f c272) ?_
                    have H := of_neg Hb268 c272
                    refine Q_gskip rfl rfl rfl rfl rfl rfl rfl ?_
                    refine Q_gskip rfl rfl rfl rfl rfl rfl rfl ?_
                    refine Q_gskip rfl rfl rfl rfl rfl rfl rfl ?_
                    refine Q_gskip rfl rfl rfl rfl rfl rfl rfl ?_
                    refine Q_gskip rfl rfl rfl rfl rfl rfl rfl ?_
                    refine Q_gval rfl rfl rfl rfl rfl rfl (fun wq hq => O_pickF rfl rfl rfl) ?_
                    refine Q_know (i := 49) rfl (congrArg Value.bool (Option.some.inj H)) ?_
                    exact Q_grpE (fun a ha => Is.cons ha (Is.cons ha (Is.cons ha (Is.cons ha (Is.cons ha (Is.cons ha (Is.cons ha (Is.cons ha (Is.cons ha (Is.cons (i := 43) (v := .bool (decide ((l_a_1.length : Int) ≤ i_234))) ha (Is.nil ha) (congrArg some (dec_f c272).symm)) rfl) rfl) rfl) rfl) rfl) rfl) rfl) rfl) rfl)
                · skip
                  refine Q_val rfl rfl rfl (fun wq hq => O_pickF rfl rfl rfl) ?_
                  refine Q_know (i := 50) rfl (congrArg Value.bool (Option.some.inj H)) ?_
                  exact Q_grpE (fun a ha => Is.cons ha (Is.cons ha (Is.cons ha (Is.cons ha (Is.nil ha) rfl) rfl) rfl) rfl)
            · skip
              refine Q_nil (fun w275 hw276 => ?_)
              have HS277 := HS236.keep hw276
              refine L_cond rfl (fun c278 => ?_) (fun c278 => ?_)
              · have H := of_pos H c278
                refine L_seq ?_
                refine L_region ?_
                refine F_val rfl rfl rfl (O_assign rfl rfl) ?_
                refine F_nil ?_
                refine L_ret (fun a ha => (hO238 .ret a _ rfl (hOp233 .ret a _ rfl (hOb143 .ret a _ rfl (hOj4 .ret a _ rfl (post_ret1 ha rfl rfl ?_))))))
                obtain rfl := Option.some.inj H
                obtain rfl := Option.some.inj (show (some false : Option (Bool)) = some _ from HOj4)
                exact ⟨rfl, HS277.sel [] rfl⟩
              · have H := of_neg H (by rw [c278]; exact Bool.false_ne_true)
                refine L_skip ?_
                refine L_endB hN238 ?_
                refine L_region ?_
                refine F_val rfl rfl rfl (O_move rfl rfl) ?_
                refine F_val rfl rfl rfl (O_add rfl rfl rfl) ?_
                obtain ⟨x279, h280, H⟩ := of_bnd H
                refine F_val rfl rfl rfl (O_assign' rfl rfl (congrArg (Value.int .i64) h280)) ?_
                refine F_nil ?_
                refine L_nil (fun a ha => hNp233 _ a _ (Nat.lt_succ_self _) ⟨_, Is.cons ha (Is.cons ha (Is.cons ha (Is.nil ha) rfl) rfl) rfl, HS277.sel [0, 1] rfl, H⟩)
        · have H := of_neg H c237
          refine L_exitB (fun a w h => hOp233 (.exit 0) a w rfl (hXb143 a w h)) ?_
          refine L_nil (fun a ha => hNj4 a _ ⟨(Option.some.inj H).symm, Is.nil ha, HS236.sel [0, 1] rfl⟩)
    · obtain ⟨rfl, ha, HS282⟩ := hR
      refine wpLF_app ?_ ha
      have H := (onR_inr _ _ _).symm.trans H
      refine L_seq ?_
      refine L_region ?_
      refine F_val rfl rfl rfl (O_assign rfl rfl) ?_
      refine F_nil ?_
      refine L_ret (fun a ha => (post_ret1 ha rfl rfl ?_))
      obtain rfl := Option.some.inj H
      exact ⟨rfl, HS282.sel [] rfl⟩

/-! function 6: valise/valiselaw6.BuildLimited -/
theorem valiselaw6_BuildLimited.calls {S0 : Nat → Prop} {w0 : World} {A_freq_0 : Option Addr} {c_freq_0 : Nat} {l_freq_0 : List Int} {limit_1 : Int} {r : Bool} (HS0 : Hp S0 w0 w0 [.rd A_freq_0 (rowC (Eint .i64) l_freq_0)]) (hc_freq_0 : l_freq_0.length ≤ c_freq_0) (h : valiselaw6_BuildLimited.f l_freq_0 limit_1 = some r) :
    Calls Try.prog 6 ([.slice A_freq_0 l_freq_0.length c_freq_0, .int .i64 limit_1] : List Value).toArray w0 (fun e w => e = .returned (.bool r) ∧ Hp S0 w0 w []) := by
  have H : (((valiselaw6_lent.f l_freq_0).bind fun (z5, z6) => (build_Limited.f (z5.take z6) limit_1).bind fun (z16, z17) => (valiseref6_Limited.f l_freq_0 limit_1).bind fun (z27, z28) => (if z17 = z28 then ((valiselaw6_same.f z16 z27).bind fun z53 => some z53) else (some false)).bind fun b46 => (if b46 = true then ((valiselaw6_still.f z5 z6 l_freq_0).bind fun z70 => some z70) else (some false)).bind fun b63 => some b63) : Option (Bool)) = some r := h
  refine calls_start Try.func6 rfl rfl ?_
  refine L_seq ?_
  refine L_region ?_
  refine F_val rfl rfl rfl (O_assign rfl rfl) ?_
  refine F_nil ?_
  refine L_seq ?_
  refine L_region ?_
  refine F_val rfl rfl rfl (O_move rfl rfl) ?_
  obtain ⟨⟨z5, z6⟩, h4, H⟩ := of_bind H
  refine F_call (xs := [.tmp 10]) rfl rfl rfl rfl Try.func15 nm15 rfl rfl ((valiselaw6_lent.calls (HS0.give [] rfl (Lent.rd HS0 (Lent.nil) (i := 0) rfl ((HS0.cells_rd (i := 0) rfl).self))) hc_freq_0 h4).mono (fun e w hc => ?_))
  obtain ⟨A9, c10, rfl, HSo⟩ := hc
  refine ⟨.slice A9 (z5.take z6).length c10, rfl, ?_⟩
  have HS8 : Hp S0 w0 w [.rd A_freq_0 (rowC (Eint .i64) l_freq_0), .own A9 c10 (rowC (Eint .i64) z5) 3 (Eint .i64).sz] := (HS0.back [] HSo rfl).sel [0, 1] rfl
  refine F_val rfl rfl rfl (O_assign rfl rfl) ?_
  refine F_nil ?_
  refine L_seq ?_
  refine L_region ?_
  refine F_val rfl rfl rfl (O_move rfl rfl) ?_
  refine F_val rfl rfl rfl (O_move rfl rfl) ?_
  obtain ⟨⟨z16, z17⟩, h15, H⟩ := of_bind H
  refine F_call (xs := [.tmp 13, .tmp 14]) rfl rfl rfl rfl Try.func28 nm28 rfl rfl ((build_Limited.calls (HS8.give [] rfl (Lent.own HS8 (Lent.nil) (i := 1) rfl rfl (Cells.take (HS8.cells_own (i := 1) rfl) z6))) (Nat.le_trans (List.length_take_le' _ _) (HS8.own_capE (i := 1) rfl (by decide))) h15).mono (fun e w hc => ?_))
  obtain ⟨A20, c21, rfl, HSo⟩ := hc
  refine ⟨.tuple #[.slice A20 z16.length c21, .int .i64 z17], rfl, ?_⟩
  have HS19 : Hp S0 w0 w [.rd A_freq_0 (rowC (Eint .i64) l_freq_0), .own A9 c10 (rowC (Eint .i64) z5) 3 (Eint .i64).sz, .own A20 c21 (rowC (Eint .i64) z16) 3 (Eint .i64).sz] := (HS8.back [] HSo rfl).sel [0, 1, 2] rfl
  refine F_val rfl rfl rfl (O_move rfl rfl) ?_
  refine F_val rfl rfl rfl (O_extract (v := .slice A20 z16.length c21) rfl rfl rfl) ?_
  refine F_val rfl rfl rfl (O_extract (v := .int .i64 z17) rfl rfl rfl) ?_
  refine F_val rfl rfl rfl (O_assign rfl rfl) ?_
  refine F_val rfl rfl rfl (O_assign rfl rfl) ?_
  refine F_nil ?_
  refine L_seq ?_
  refine L_region ?_
  refine F_val rfl rfl rfl (O_move rfl rfl) ?_
  refine F_val rfl rfl rfl (O_move rfl rfl) ?_
  obtain ⟨⟨z27, z28⟩, h26, H⟩ := of_bind H
  refine F_call (xs := [.tmp 19, .tmp 20]) rfl rfl rfl rfl Try.func29 nm29 rfl rfl ((valiseref6_Limited.calls (HS19.give [] rfl (Lent.rd HS19 (Lent.nil) (i := 0) rfl ((HS19.cells_rd (i := 0) rfl).self))) hc_freq_0 h26).mono (fun e w hc => ?_))
  obtain ⟨A31, c32, rfl, HSo⟩ := hc
  refine ⟨.tuple #[.slice A31 z27.length c32, .int .i64 z28], rfl, ?_⟩
  have HS30 : Hp S0 w0 w [.rd A_freq_0 (rowC (Eint .i64) l_freq_0), .own A9 c10 (rowC (Eint .i64) z5) 3 (Eint .i64).sz, .own A20 c21 (rowC (Eint .i64) z16) 3 (Eint .i64).sz, .own A31 c32 (rowC (Eint .i64) z27) 3 (Eint .i64).sz] := (HS19.back [] HSo rfl).sel [0, 1, 2, 3] rfl
  refine F_val rfl rfl rfl (O_move rfl rfl) ?_
  refine F_val rfl rfl rfl (O_extract (v := .slice A31 z27.length c32) rfl rfl rfl) ?_
  refine F_val rfl rfl rfl (O_extract (v := .int .i64 z28) rfl rfl rfl) ?_
  refine F_val rfl rfl rfl (O_assign rfl rfl) ?_
  refine F_val rfl rfl rfl (O_assign rfl rfl) ?_
  refine F_nil ?_
  refine L_seq ?_
  refine L_region ?_
  refine F_val rfl rfl rfl (O_move rfl rfl) ?_
  refine F_qcall (v := .int .i64 z17) (xs := [.tmp 24]) rfl rfl rfl rfl Try.func18 nm18 rfl rfl ((valiselaw6_num.calls (HS30.give [] rfl (Lent.nil)) (rfl : valiselaw6_num.f z17 = some z17)).mono (fun e w hc => ?_)) (fun w37 hw38 => ?_)
  · obtain ⟨rfl, h⟩ := hc
    exact ⟨rfl, h.chg0⟩
  have HS39 := HS30.keep hw38
  refine F_val rfl rfl rfl (O_move rfl rfl) ?_
  refine F_val rfl rfl rfl (O_eq rfl rfl rfl) ?_
  refine F_val rfl rfl rfl (O_move rfl rfl) ?_
  obtain ⟨b46, Hb46, H⟩ := of_bind H
  refine F_grpQ 4 [(32, .bool b46), (0, .slice A_freq_0 l_freq_0.length c_freq_0), (5, .slice A9 (z5.take z6).length c10)] ?_ (fun w47 hw48 => ?_)
  · rcases Decidable.em (z17 = z28) with c50 | c50
    · refine F_know (i := 28) rfl (dec_t c50) ?_
      have H := of_pos Hb46 c50
      refine F_gval rfl rfl rfl rfl rfl rfl (O_move rfl rfl) ?_
      refine F_gval rfl rfl rfl rfl rfl rfl (O_move rfl rfl) ?_
      obtain ⟨z53, h52, H⟩ := of_bind H
      refine F_gqcall (v := .bool z53) (xs := [.tmp 29, .tmp 30]) rfl rfl rfl rfl rfl rfl rfl Try.func22 nm22 rfl rfl ((valiselaw6_same.calls (HS39.give [] rfl (Lent.own HS39 (Lent.own HS39 (Lent.nil) (i := 3) rfl rfl ((HS39.cells_own (i := 3) rfl).self)) (i := 2) rfl rfl ((HS39.cells_own (i := 2) rfl).self))) (HS39.own_capE (i := 2) rfl (by decide)) (HS39.own_capE (i := 3) rfl (by decide)) h52).mono (fun e w hc => ?_)) (fun w54 hw55 => ?_)
      · obtain ⟨rfl, h⟩ := hc
        exact ⟨rfl, h.chg0⟩
      have HS56 := HS39.keep hw55
      refine F_val rfl rfl rfl (O_pickT rfl rfl rfl) ?_
      refine F_know (i := 32) rfl (congrArg Value.bool (Option.some.inj H)) ?_
      exact F_grpQE ((Chg.refl NoB _).trans hw55) (fun a ha => Is.cons ha (Is.cons ha (Is.cons ha (Is.nil ha) rfl) rfl) rfl)
    · refine F_know (i := 28) rfl (dec_f c50) ?_
      have H := of_neg Hb46 c50
      refine F_gskip rfl rfl rfl rfl rfl rfl rfl ?_
      refine F_gskip rfl rfl rfl rfl rfl rfl rfl ?_
      refine F_gskip rfl rfl rfl rfl rfl rfl rfl ?_
      refine F_val rfl rfl rfl (O_pickF rfl rfl rfl) ?_
      refine F_know (i := 32) rfl (congrArg Value.bool (Option.some.inj H)) ?_
      exact F_grpQE (Chg.refl NoB _) (fun a ha => Is.cons ha (Is.cons ha (Is.cons ha (Is.nil ha) rfl) rfl) rfl)
  · have HS49 := HS39.keep hw48
    refine F_val rfl rfl rfl (O_move rfl rfl) ?_
    obtain ⟨b63, Hb63, H⟩ := of_bind H
    refine F_grpQ 4 [(37, .bool b63)] ?_ (fun w64 hw65 => ?_)
    · rcases Decidable.em (b46 = true) with c67 | c67
      · refine F_know (i := 33) rfl (congrArg Value.bool c67) ?_
        have H := of_pos Hb63 c67
        refine F_gval rfl rfl rfl rfl rfl rfl (O_move rfl rfl) ?_
        refine F_gval rfl rfl rfl rfl rfl rfl (O_move rfl rfl) ?_
        obtain ⟨z70, h69, H⟩ := of_bind H
        refine F_gqcall (v := .bool z70) (xs := [.tmp 34, .tmp 35]) rfl rfl rfl rfl rfl rfl rfl Try.func19 nm19 rfl rfl ((valiselaw6_still.calls (HS49.give [] rfl (Lent.own HS49 (Lent.rd HS49 (Lent.nil) (i := 0) rfl ((HS49.cells_rd (i := 0) rfl).self)) (i := 1) rfl rfl ((HS49.cells_own (i := 1) rfl).self))) (HS49.own_capE (i := 1) rfl (by decide)) hc_freq_0 h69).mono (fun e w hc => ?_)) (fun w71 hw72 => ?_)
        · obtain ⟨rfl, h⟩ := hc
          exact ⟨rfl, h.chg0⟩
        have HS73 := HS49.keep hw72
        refine F_val rfl rfl rfl (O_pickT rfl rfl rfl) ?_
        refine F_know (i := 37) rfl (congrArg Value.bool (Option.some.inj H)) ?_
        exact F_grpQE ((Chg.refl NoB _).trans hw72) (fun a ha => Is.cons ha (Is.nil ha) rfl)
      · refine F_know (i := 33) rfl (congrArg Value.bool (Bool.eq_false_iff.mpr c67)) ?_
        have H := of_neg Hb63 c67
        refine F_gskip rfl rfl rfl rfl rfl rfl rfl ?_
        refine F_gskip rfl rfl rfl rfl rfl rfl rfl ?_
        refine F_gskip rfl rfl rfl rfl rfl rfl rfl ?_
        refine F_val rfl rfl rfl (O_pickF rfl rfl rfl) ?_
        refine F_know (i := 37) rfl (congrArg Value.bool (Option.some.inj H)) ?_
        exact F_grpQE (Chg.refl NoB _) (fun a ha => Is.cons ha (Is.nil ha) rfl)
    · have HS66 := HS49.keep hw65
      refine F_val rfl rfl rfl (O_assign rfl rfl) ?_
      refine F_nil ?_
      refine L_ret (fun a ha => (post_ret1 ha rfl rfl ?_))
      obtain rfl := Option.some.inj H
      exact ⟨rfl, HS66.sel [] rfl⟩

end Go.Proofs.Ytbegkkmngkpjmaa
