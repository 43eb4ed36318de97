import Derived.Test.YtlmlbahoaendpaaChecked
import Derived.Test.YtlmlbahoaendpaaGHeaderRunsPure
set_option linter.unusedVariables false
set_option linter.unusedSimpArgs false
set_option maxRecDepth 10000
set_option maxHeartbeats 1000000
namespace Go.Proofs.Ytlmlbahoaendpaa
open Go Go.V Go.V.Pu
theorem mix : Try.prog.follows .mixedOrders = true := by kernel_rfl
theorem info3 : (Try.prog.info? 3).map (fun i => (i.zero, i.size, i.bytes)) = some (some (.int .i64 0), 1, 8) := by kernel_rfl
theorem size3 : (Try.prog.info? 3).map (·.size) = some 1 := by kernel_rfl
theorem nm4 : (Try.f4.name == "runtime.NumGoroutine") = false := by kernel_rfl
theorem flat3 : Flat Try.prog 3 := Flat.of Try.underlying3 rfl
theorem nm11 : (Try.f11.name == "runtime.NumGoroutine") = false := by kernel_rfl
theorem zero35 : (Try.prog.info? 35).map (·.zero) = some (some (.agg #[.int .i64 0, .int .i64 0])) := by kernel_rfl
theorem size35 : (Try.prog.info? 35).map (·.size) = some 2 := by kernel_rfl
theorem wide35 : Wide Try.prog 35 2 := Wide.of Try.underlying35 rfl (by kernel_rfl)
theorem info35 : (Try.prog.info? 35).map (fun i => (i.zero, i.size, i.bytes)) = some (some (.agg #[.int .i64 0, .int .i64 0]), 2, 16) := by kernel_rfl
theorem field35_1 : FieldAt Try.prog 35 1 1 := fun w a => by kernel_rfl
theorem nm5 : (Try.f5.name == "runtime.NumGoroutine") = false := by kernel_rfl
theorem nm12 : (Try.f12.name == "runtime.NumGoroutine") = false := by kernel_rfl
theorem nm14 : (Try.f14.name == "runtime.NumGoroutine") = false := by kernel_rfl
theorem nm15 : (Try.f15.name == "runtime.NumGoroutine") = false := by kernel_rfl
theorem nm13 : (Try.f13.name == "runtime.NumGoroutine") = false := by kernel_rfl
theorem nm6 : (Try.f6.name == "runtime.NumGoroutine") = false := by kernel_rfl
theorem nm7 : (Try.f7.name == "runtime.NumGoroutine") = false := by kernel_rfl
theorem stood35 : Try.prog.stoodInHeld 35 = false := by kernel_rfl
theorem eqg35 : Try.prog.eqGuardType Try.prog.depth 35 = false := by kernel_rfl
theorem nm8 : (Try.f8.name == "runtime.NumGoroutine") = false := by kernel_rfl
theorem nm9 : (Try.f9.name == "runtime.NumGoroutine") = false := by kernel_rfl
theorem nm10 : (Try.f10.name == "runtime.NumGoroutine") = false := by kernel_rfl
/-! function 4: valise/valiselaw7.roomy -/
theorem valiselaw7_roomy.calls {S0 : Nat → Prop} {w0 : World} {A_l_0 : Option Addr} {c_l_0 : Nat} {l_l_0 : List Int} {r : (List Int × Nat)} (HS0 : Hp S0 w0 w0 [.rd A_l_0 (rowC (Eint .i64) l_l_0)]) (hc_l_0 : l_l_0.length ≤ c_l_0) (h : valiselaw7_roomy.f l_l_0 = some r) :
    Calls Try.prog 4 ([.slice A_l_0 l_l_0.length c_l_0] : List Value).toArray w0 (fun e w => ∃ (A1 : Option Addr), ∃ (c1 : Nat), e = .returned (.slice A1 (r.1.take r.2).length c1) ∧ Hp S0 w0 w [.own A1 c1 (rowC (Eint .i64) r.1) 3 (Eint .i64).sz]) := by
  have H : ((gd ((0 : Int) ≤ (IntKind.i64.wrap ((l_l_0.length : Int) + 9)) ∧ (IntKind.i64.wrap ((l_l_0.length : Int) + 9)) * 8 ≤ 281474976710656) (bnd (List.replicate (IntKind.i64.wrap ((l_l_0.length : Int) + 9) : Int).toNat (0 : Int)) fun l5 => bnd (cpy l5 l_l_0) fun l12 => bnd ((l_l_0.length : Int)) fun x15 => (valiselaw7_roomy.l1 FU l12 x15 ).bind fun l59 => gd ((0 : Int) ≤ (l_l_0.length : Int) ∧ (l_l_0.length : Int) ≤ (l59.length : Int)) (some (l59, ((l_l_0.length : Int) : Int).toNat)))) : Option ((List Int × Nat))) = some r := h
  refine calls_start Try.func4 rfl rfl ?_
  refine L_seq ?_
  refine L_region ?_
  refine F_val rfl rfl rfl (O_assign rfl rfl) ?_
  refine F_nil ?_
  refine L_seq ?_
  refine L_region ?_
  refine F_val rfl rfl rfl (O_move rfl rfl) ?_
  refine F_val rfl rfl rfl (O_len rfl rfl Try.underlying22) ?_
  refine F_val rfl rfl rfl (O_add rfl rfl rfl) ?_
  obtain ⟨⟨g3, g4⟩, H⟩ := of_gd H
  obtain ⟨l5, h6, H⟩ := of_bnd H
  refine F_makeE (E := (Eint .i64)) rfl rfl rfl rfl rfl rfl Try.underlying22 info3 rfl (by decide) (by decide) g3 g4 HS0 h6 (fun w1 A7 c8 HS2 => ?_)
  have HS2 : Hp S0 w0 w1 [.rd A_l_0 (rowC (Eint .i64) l_l_0), .own A7 c8 (rowC (Eint .i64) l5) 3 (Eint .i64).sz] := HS2
  refine F_val rfl rfl rfl (O_assign rfl rfl) ?_
  refine F_nil ?_
  refine L_seq ?_
  refine L_region ?_
  refine F_val rfl rfl rfl (O_move rfl rfl) ?_
  refine F_val rfl rfl rfl (O_move rfl rfl) ?_
  obtain ⟨l12, h13, H⟩ := of_bnd H
  refine F_copyE (E := (Eint .i64)) (xs := l5) (ys := l_l_0) (i := 1) rfl rfl rfl rfl Try.underlying22 size3 rfl rfl HS2 rfl (HS2.cells_rd (i := 0) rfl) h13 (fun w10 HS11 => ?_)
  have e14 : l5.length = l12.length := by rw [← h13, cpy_length]
  refine F_know (i := 3) rfl (congrArg (fun n => Value.slice A7 n c8) e14) ?_
  have HS11 : Hp S0 w0 w10 [.rd A_l_0 (rowC (Eint .i64) l_l_0), .own A7 c8 (rowC (Eint .i64) l12) 3 (Eint .i64).sz] := HS11
  refine F_nil ?_
  refine L_seq ?_
  refine L_seq ?_
  refine L_region ?_
  refine F_val rfl rfl rfl (O_move rfl rfl) ?_
  refine F_val rfl rfl rfl (O_len rfl rfl Try.underlying22) ?_
  obtain ⟨x15, h16, H⟩ := of_bnd H
  refine F_val rfl rfl rfl (O_assign' rfl rfl (congrArg (Value.int .i64) h16)) ?_
  refine F_nil ?_
  obtain ⟨yj17, Hyj17, H⟩ := of_bind H
  refine L_join (fun a w => ∃ (l59 : List Int), yj17 = l59 ∧ Is Try.f4.ntmps a [(0, .slice A_l_0 l_l_0.length c_l_0), (3, .slice A7 l59.length c8)] ∧ Hp S0 w0 w [.rd A_l_0 (rowC (Eint .i64) l_l_0), .own A7 c8 (rowC (Eint .i64) l59) 3 (Eint .i64).sz]) (fun Qj17 hNj17 hOj17 => ?_) (fun a w hR => ?_)
  · skip
    have H := Hyj17
    refine L_blk (fun Qb60 hNb60 hXb60 hOb60 => ?_)
    refine L_lp (fun k a w => ∃ (l86 : List Int), ∃ (i_87 : Int), Is Try.f4.ntmps a [(0, .slice A_l_0 l_l_0.length c_l_0), (3, .slice A7 l86.length c8), (4, .int .i64 i_87)] ∧ Hp S0 w0 w [.rd A_l_0 (rowC (Eint .i64) l_l_0), .own A7 c8 (rowC (Eint .i64) l86) 3 (Eint .i64).sz] ∧ valiselaw7_roomy.l1 k l86 i_87  = some yj17) FU (fun a ha => ⟨_, _, Is.cons ha (Is.cons ha (Is.cons ha (Is.nil ha) rfl) rfl) rfl, HS11.sel [0, 1] rfl, H⟩) (fun kp85 a w88 hI Qp85 hNp85 hOp85 => ?_)
    obtain ⟨l86, i_87, ha, HS89, HAp85⟩ := hI
    cases kp85 with
    | zero => cases (show (none : Option _) = some _ from HAp85)
    | succ kp85 =>
      have H := (valiselaw7_roomy.l1.eq_2 ..).symm.trans HAp85
      refine wpLF_app ?_ ha
      refine L_seq ?_
      refine L_seq ?_
      refine L_region ?_
      refine F_val rfl rfl rfl (O_move rfl rfl) ?_
      refine F_val rfl rfl rfl (O_move rfl rfl) ?_
      refine F_val rfl rfl rfl (O_len rfl rfl Try.underlying22) ?_
      refine F_val rfl rfl rfl (O_lt rfl rfl rfl) ?_
      refine F_nil ?_
      refine L_condP rfl (fun c90 => ?_) (fun c90 => ?_)
      · have H := of_pos H c90
        refine L_skip ?_
        refine L_seq ?_
        refine L_blk (fun Q91 hN91 hX91 hO91 => ?_)
        refine L_region ?_
        refine F_val rfl rfl rfl (O_move rfl rfl) ?_
        refine F_val rfl rfl rfl (O_move rfl rfl) ?_
        obtain ⟨⟨g92, g93⟩, H⟩ := of_gd H
        refine F_val rfl rfl rfl (O_idx rfl rfl rfl Try.underlying22 size3 g92 g93 (Cells.isA (HS89.cells_own (i := 1) rfl) (rowC_ne (E := (Eint .i64)) g92 g93 (by decide)))) ?_
        obtain ⟨l96, h97, H⟩ := of_bnd H
        refine F_setE (E := (Eint .i64)) (i := 1) (a := 165) (q := i_87) rfl rfl rfl rfl rfl rfl size3 HS89 rfl (by decide) g92 g93 h97 (fun w94 HS95 => ?_)
        have e98 : l86.length = l96.length := by rw [← h97, List.length_set]
        refine F_know (i := 3) rfl (congrArg (fun n => Value.slice A7 n c8) e98) ?_
        have HS95 : Hp S0 w0 w94 [.rd A_l_0 (rowC (Eint .i64) l_l_0), .own A7 c8 (rowC (Eint .i64) l96) 3 (Eint .i64).sz] := HS95
        refine F_nil ?_
        refine L_endB hN91 ?_
        refine L_region ?_
        refine F_val rfl rfl rfl (O_move rfl rfl) ?_
        refine F_val rfl rfl rfl (O_add rfl rfl rfl) ?_
        obtain ⟨x99, h100, H⟩ := of_bnd H
        refine F_val rfl rfl rfl (O_assign' rfl rfl (congrArg (Value.int .i64) h100)) ?_
        refine F_nil ?_
        refine L_nil (fun a ha => hNp85 _ a _ (Nat.lt_succ_self _) ⟨_, _, Is.cons ha (Is.cons ha (Is.cons ha (Is.nil ha) rfl) rfl) rfl, HS95.sel [0, 1] rfl, H⟩)
      · have H := of_neg H c90
        refine L_exitB (fun a w h => hOp85 (.exit 0) a w rfl (hXb60 a w h)) ?_
        refine L_nil (fun a ha => hNj17 a _ ⟨_, (Option.some.inj H).symm, Is.cons ha (Is.cons ha (Is.nil ha) rfl) rfl, HS89.sel [0, 1] rfl⟩)
  · obtain ⟨l59, ej, ha, HS102⟩ := hR
    obtain rfl := ej.symm
    refine wpLF_app ?_ ha
    refine L_seq ?_
    refine L_region ?_
    refine F_val rfl rfl rfl (O_move rfl rfl) ?_
    refine F_val rfl rfl rfl (O_move rfl rfl) ?_
    refine F_val rfl rfl rfl (O_len rfl rfl Try.underlying22) ?_
    obtain ⟨⟨g103, g104⟩, H⟩ := of_gd H
    refine F_val rfl rfl rfl (O_toE l59 rfl rfl rfl Try.underlying22 size3 g103 g104 (HS102.own_capE (i := 1) rfl (by decide))) ?_
    refine F_val rfl rfl rfl (O_assign rfl rfl) ?_
    refine F_nil ?_
    refine L_ret (fun a ha => (post_ret1 ha rfl rfl ?_))
    obtain rfl := Option.some.inj H
    exact ⟨_, _, rfl, HS102.sel [1] rfl⟩

/-! function 11: valise/header.lengths -/
theorem header_lengths.calls {S0 : Nat → Prop} {w0 : World} {A_l_0 : Option Addr} {c_l_0 : Nat} {l_l_0 : List Int} {r : Bool} (HS0 : Hp S0 w0 w0 [.rd A_l_0 (rowC (Eint .i64) l_l_0)]) (hc_l_0 : l_l_0.length ≤ c_l_0) (h : header_lengths.f l_l_0 = some r) :
    Calls Try.prog 11 ([.slice A_l_0 l_l_0.length c_l_0] : List Value).toArray w0 (fun e w => e = .returned (.bool r) ∧ Hp S0 w0 w []) := by
  have H : (((header_lengths.l1 FU 0 l_l_0).bind fun (yj1 : Sum (Bool) (Unit)) => onR yj1 (fun r => some r) fun () => some true) : Option (Bool)) = some r := h
  refine calls_start Try.func11 rfl rfl ?_
  refine L_seq ?_
  refine L_region ?_
  refine F_val rfl rfl rfl (O_assign rfl rfl) ?_
  refine F_nil ?_
  refine L_seq ?_
  refine L_seq ?_
  refine L_region ?_
  refine F_val rfl rfl rfl (O_move rfl rfl) ?_
  refine F_val rfl rfl rfl (O_len rfl rfl Try.underlying22) ?_
  refine F_val rfl rfl rfl (O_move rfl rfl) ?_
  refine F_nil ?_
  obtain ⟨yj1, Hyj1, H⟩ := of_bind H
  refine L_join (fun a w => yj1 = Sum.inr () ∧ Is Try.f11.ntmps a [] ∧ Hp S0 w0 w [.rd A_l_0 (rowC (Eint .i64) l_l_0)]) (fun Qj1 hNj1 hOj1 => ?_) (fun a w hR => ?_)
  · have HOj1 := H
    have H := Hyj1
    refine L_blk (fun Qb41 hNb41 hXb41 hOb41 => ?_)
    refine L_lp (fun k a w => ∃ (t66 : Int), Is Try.f11.ntmps a [(5, .slice A_l_0 l_l_0.length c_l_0), (6, .int .i64 (l_l_0.length : Int)), (7, .int .i64 t66)] ∧ Hp S0 w0 w [.rd A_l_0 (rowC (Eint .i64) l_l_0)] ∧ header_lengths.l1 k t66 l_l_0 = some yj1) FU (fun a ha => ⟨_, Is.cons ha (Is.cons ha (Is.cons ha (Is.nil ha) rfl) rfl) rfl, HS0.sel [0] rfl, H⟩) (fun kp65 a w67 hI Qp65 hNp65 hOp65 => ?_)
    obtain ⟨t66, ha, HS68, HAp65⟩ := hI
    cases kp65 with
    | zero => cases (show (none : Option _) = some _ from HAp65)
    | succ kp65 =>
      have H := (header_lengths.l1.eq_2 ..).symm.trans HAp65
      refine wpLF_app ?_ ha
      refine L_seq ?_
      refine L_region ?_
      refine F_val rfl rfl rfl (O_lt rfl rfl rfl) ?_
      refine F_nil ?_
      refine L_seq ?_
      refine L_condP rfl (fun c69 => ?_) (fun c69 => ?_)
      · have H := of_pos H c69
        refine L_skip ?_
        refine L_seq ?_
        refine L_blk (fun Q70 hN70 hX70 hO70 => ?_)
        refine L_seq ?_
        refine L_region ?_
        obtain ⟨⟨g71, g72⟩, H⟩ := of_gd H
        refine F_val rfl rfl rfl (O_idx rfl rfl rfl Try.underlying22 size3 g71 g72 (Cells.isA (HS68.cells_rd (i := 0) rfl) (rowC_ne (E := (Eint .i64)) g71 g72 (by decide)))) ?_
        refine F_val rfl rfl rfl (O_loadC rfl rfl flat3 (HS68.cells_rd (i := 0) rfl) (int_cell g71 g72)) ?_
        obtain ⟨x73, h74, H⟩ := of_bnd H
        refine F_val rfl rfl rfl (O_assign' rfl rfl (congrArg (Value.int .i64) h74)) ?_
        refine F_nil ?_
        refine L_seq ?_
        refine L_region ?_
        refine F_val rfl rfl rfl (O_move rfl rfl) ?_
        refine F_val rfl rfl rfl (O_lt rfl rfl rfl) ?_
        refine F_val rfl rfl rfl (O_move rfl rfl) ?_
        refine F_grp 3 [(16, .bool (decide ((x73 < 0) ∨ (15 < x73)))), (5, .slice A_l_0 l_l_0.length c_l_0), (6, .int .i64 (l_l_0.length : Int)), (7, .int .i64 t66)] ?_ ?_
        · rcases Decidable.em (x73 < 0) with c78 | c78
          · refine F_know (i := 13) rfl (dec_t c78) ?_
            refine F_gskip rfl rfl rfl rfl rfl rfl rfl ?_
            refine F_gskip rfl rfl rfl rfl rfl rfl rfl ?_
            refine F_val rfl rfl rfl (O_pickT rfl rfl rfl) ?_
            refine F_know (i := 16) rfl (dec_or_t (q := 15 < x73) c78) ?_
            exact F_grpE (fun a ha => Is.cons ha (Is.cons ha (Is.cons ha (Is.cons ha (Is.nil ha) rfl) rfl) rfl) rfl)
          · refine F_know (i := 13) rfl (dec_f c78) ?_
            refine F_gval rfl rfl rfl rfl rfl rfl (O_move rfl rfl) ?_
            refine F_gval rfl rfl rfl rfl rfl rfl (O_gt rfl rfl rfl) ?_
            refine F_val rfl rfl rfl (O_pickF rfl rfl rfl) ?_
            refine F_know (i := 16) rfl (dec_or_f (q := 15 < x73) c78) ?_
            exact F_grpE (fun a ha => Is.cons ha (Is.cons ha (Is.cons ha (Is.cons ha (Is.nil ha) rfl) rfl) rfl) rfl)
        · skip
          refine F_nil ?_
          refine L_condP rfl (fun c79 => ?_) (fun c79 => ?_)
          · have H := of_pos H c79
            refine L_seq ?_
            refine L_region ?_
            refine F_val rfl rfl rfl (O_assign rfl rfl) ?_
            refine F_nil ?_
            refine L_ret (fun a ha => (hO70 .ret a _ rfl (hOp65 .ret a _ rfl (hOb41 .ret a _ rfl (hOj1 .ret a _ rfl (post_ret1 ha rfl rfl ?_))))))
            obtain rfl := Option.some.inj H
            obtain rfl := Option.some.inj (show (some false : Option (Bool)) = some _ from HOj1)
            exact ⟨rfl, HS68.sel [] rfl⟩
          · have H := of_neg H c79
            refine L_skip ?_
            refine L_endB hN70 ?_
            refine L_region ?_
            refine F_val rfl rfl rfl (O_add rfl rfl rfl) ?_
            refine F_val rfl rfl rfl (O_move rfl rfl) ?_
            refine F_nil ?_
            refine L_nil (fun a ha => hNp65 _ a _ (Nat.lt_succ_self _) ⟨_, Is.cons ha (Is.cons ha (Is.cons ha (Is.nil ha) rfl) rfl) rfl, HS68.sel [0] rfl, H⟩)
      · have H := of_neg H c69
        refine L_exitB (fun a w h => hOp65 (.exit 0) a w rfl (hXb41 a w h)) ?_
        refine L_nil (fun a ha => hNj1 a _ ⟨(Option.some.inj H).symm, Is.nil ha, HS68.sel [0] rfl⟩)
  · obtain ⟨rfl, ha, HS81⟩ := hR
    refine wpLF_app ?_ ha
    have H := (onR_inr _ _ _).symm.trans H
    refine L_seq ?_
    refine L_region ?_
    refine F_val rfl rfl rfl (O_assign rfl rfl) ?_
    refine F_nil ?_
    refine L_ret (fun a ha => (post_ret1 ha rfl rfl ?_))
    obtain rfl := Option.some.inj H
    exact ⟨rfl, HS81.sel [] rfl⟩

/-! function 5: valise/header.Runs -/
theorem header_Runs.calls {S0 : Nat → Prop} {w0 : World} {A_lens_0 : Option Addr} {c_lens_0 : Nat} {l_lens_0 : List Int} {r : List (Int × Int) × Int} (HS0 : Hp S0 w0 w0 [.rd A_lens_0 (rowC (Eint .i64) l_lens_0)]) (hc_lens_0 : l_lens_0.length ≤ c_lens_0) (h : header_Runs.f l_lens_0 = some r) :
    Calls Try.prog 5 ([.slice A_lens_0 l_lens_0.length c_lens_0] : List Value).toArray w0 (fun e w => ∃ (A1 : Option Addr), ∃ (c1 : Nat), e = .returned (.tuple #[.slice A1 r.1.length c1, .int .i64 r.2]) ∧ Hp S0 w0 w [.own A1 c1 (rowC E_api_Run r.1) 35 E_api_Run.sz]) := by
  have H : (((header_lengths.f l_lens_0).bind fun z4 => if (!z4) = true then (some (([] : List (Int × Int)), 1)) else ((header_Runs.l11 FU ([] : List (Int × Int)) 0 l_lens_0).bind fun l598 => some (l598, 0))) : Option (List (Int × Int) × Int)) = some r := h
  refine calls_start Try.func5 rfl rfl ?_
  refine L_seq ?_
  refine L_region ?_
  refine F_val rfl rfl rfl (O_assign rfl rfl) ?_
  refine F_val rfl rfl rfl (O_assign rfl rfl) ?_
  refine F_nil ?_
  refine L_scope (fun Q1 hN1 hO1 => ?_)
  refine L_seq ?_
  refine L_seq ?_
  refine L_region ?_
  refine F_val rfl rfl rfl (O_move rfl rfl) ?_
  obtain ⟨z4, h3, H⟩ := of_bind H
  refine F_qcall (v := .bool z4) (xs := [.tmp 9]) rfl rfl rfl rfl Try.func11 nm11 rfl rfl ((header_lengths.calls (HS0.give [] rfl (Lent.rd HS0 (Lent.nil) (i := 0) rfl ((HS0.cells_rd (i := 0) rfl).self))) hc_lens_0 h3).mono (fun e w hc => ?_)) (fun w5 hw6 => ?_)
  · obtain ⟨rfl, h⟩ := hc
    exact ⟨rfl, h.chg0⟩
  have HS7 := HS0.keep hw6
  refine F_val rfl rfl rfl (O_notb rfl rfl) ?_
  refine F_nil ?_
  refine L_cond rfl (fun c8 => ?_) (fun c8 => ?_)
  · have H := of_pos H c8
    refine L_seq ?_
    refine L_region ?_
    refine F_val rfl rfl rfl (O_assign rfl rfl) ?_
    refine F_val rfl rfl rfl (O_assign rfl rfl) ?_
    refine F_nil ?_
    have HS9 := HS7.addNil 35 E_api_Run.sz
    refine L_ret (fun a ha => (hO1 .ret a _ rfl (post_ret2 ha rfl rfl rfl ?_)))
    obtain rfl := Option.some.inj H
    exact ⟨_, _, rfl, HS9.sel [1] rfl⟩
  · have H := of_neg H (by rw [c8]; exact Bool.false_ne_true)
    refine L_skip ?_
    refine L_seq ?_
    refine L_region ?_
    refine F_val rfl rfl rfl (O_assign rfl rfl) ?_
    have HS11 := HS7.addNil 35 E_api_Run.sz
    have HS11 : Hp S0 w0 w5 [.rd A_lens_0 (rowC (Eint .i64) l_lens_0), .own none 0 (rowC E_api_Run ([] : List (Int × Int))) 35 E_api_Run.sz] := HS11
    refine F_nil ?_
    refine L_seq ?_
    refine L_region ?_
    refine F_val rfl rfl rfl (O_assign rfl rfl) ?_
    refine F_nil ?_
    refine L_seq ?_
    refine L_label ?_
    refine L_seq ?_
    obtain ⟨yj13, Hyj13, H⟩ := of_bind H
    refine L_join (fun a w => ∃ (l598 : List (Int × Int)), ∃ (A596 : Option Addr), ∃ (c597 : Nat), yj13 = l598 ∧ Is Try.f5.ntmps a [(4, .slice A596 l598.length c597)] ∧ Hp S0 w0 w [.rd A_lens_0 (rowC (Eint .i64) l_lens_0), .own A596 c597 (rowC E_api_Run l598) 35 E_api_Run.sz]) (fun Qj13 hNj13 hOj13 => ?_) (fun a w hR => ?_)
    · skip
      have H := Hyj13
      refine L_blk (fun Qb599 hNb599 hXb599 hOb599 => ?_)
      refine L_lp (fun k a w => ∃ (l987 : List (Int × Int)), ∃ (at_988 : Int), ∃ (A985 : Option Addr), ∃ (c986 : Nat), Is Try.f5.ntmps a [(0, .slice A_lens_0 l_lens_0.length c_lens_0), (4, .slice A985 l987.length c986), (5, .int .i64 at_988)] ∧ Hp S0 w0 w [.rd A_lens_0 (rowC (Eint .i64) l_lens_0), .own A985 c986 (rowC E_api_Run l987) 35 E_api_Run.sz] ∧ header_Runs.l11 k l987 at_988 l_lens_0 = some yj13) FU (fun a ha => ⟨_, _, _, _, Is.cons ha (Is.cons ha (Is.cons ha (Is.nil ha) rfl) rfl) rfl, HS11.sel [0, 1] rfl, H⟩) (fun kp984 a w989 hI Qp984 hNp984 hOp984 => ?_)
      obtain ⟨l987, at_988, A985, c986, ha, HS990, HAp984⟩ := hI
      cases kp984 with
      | zero => cases (show (none : Option _) = some _ from HAp984)
      | succ kp984 =>
        have H := (header_Runs.l11.eq_2 ..).symm.trans HAp984
        refine wpLF_app ?_ ha
        refine L_seq ?_
        refine L_seq ?_
        refine L_region ?_
        refine F_val rfl rfl rfl (O_move rfl rfl) ?_
        refine F_val rfl rfl rfl (O_move rfl rfl) ?_
        refine F_val rfl rfl rfl (O_len rfl rfl Try.underlying22) ?_
        refine F_val rfl rfl rfl (O_lt rfl rfl rfl) ?_
        refine F_nil ?_
        refine L_condP rfl (fun c991 => ?_) (fun c991 => ?_)
        · have H := of_pos H c991
          refine L_skip ?_
          refine L_blk (fun Q992 hN992 hX992 hO992 => ?_)
          refine L_seq ?_
          refine L_region ?_
          refine F_val rfl rfl rfl (O_move rfl rfl) ?_
          refine F_val rfl rfl rfl (O_move rfl rfl) ?_
          obtain ⟨⟨g993, g994⟩, H⟩ := of_gd H
          refine F_val rfl rfl rfl (O_idx rfl rfl rfl Try.underlying22 size3 g993 g994 (Cells.isA (HS990.cells_rd (i := 0) rfl) (rowC_ne (E := (Eint .i64)) g993 g994 (by decide)))) ?_
          refine F_val rfl rfl rfl (O_loadC rfl rfl flat3 (HS990.cells_rd (i := 0) rfl) (int_cell g993 g994)) ?_
          obtain ⟨x995, h996, H⟩ := of_bnd H
          refine F_val rfl rfl rfl (O_assign' rfl rfl (congrArg (Value.int .i64) h996)) ?_
          refine F_nil ?_
          refine L_seq ?_
          refine L_region ?_
          refine F_val rfl rfl rfl (O_assign rfl rfl) ?_
          refine F_nil ?_
          refine L_seq ?_
          obtain ⟨yj997, Hyj997, H⟩ := of_bind H
          refine L_join (fun a w => ∃ (m_1043 : Int), yj997 = m_1043 ∧ Is Try.f5.ntmps a [(0, .slice A_lens_0 l_lens_0.length c_lens_0), (4, .slice A985 l987.length c986), (5, .int .i64 at_988), (6, .int .i64 x995), (7, .int .i64 m_1043)] ∧ Hp S0 w0 w [.rd A_lens_0 (rowC (Eint .i64) l_lens_0), .own A985 c986 (rowC E_api_Run l987) 35 E_api_Run.sz]) (fun Qj997 hNj997 hOj997 => ?_) (fun a w hR => ?_)
          · skip
            have H := Hyj997
            refine L_blk (fun Qb1044 hNb1044 hXb1044 hOb1044 => ?_)
            refine L_lp (fun k a w => ∃ (m_1073 : Int), Is Try.f5.ntmps a [(0, .slice A_lens_0 l_lens_0.length c_lens_0), (4, .slice A985 l987.length c986), (5, .int .i64 at_988), (6, .int .i64 x995), (7, .int .i64 m_1073)] ∧ Hp S0 w0 w [.rd A_lens_0 (rowC (Eint .i64) l_lens_0), .own A985 c986 (rowC E_api_Run l987) 35 E_api_Run.sz] ∧ header_Runs.l13 k m_1073 l_lens_0 at_988 x995 = some yj997) FU (fun a ha => ⟨_, Is.cons ha (Is.cons ha (Is.cons ha (Is.cons ha (Is.cons ha (Is.nil ha) rfl) rfl) rfl) rfl) rfl, HS990.sel [0, 1] rfl, H⟩) (fun kp1072 a w1074 hI Qp1072 hNp1072 hOp1072 => ?_)
            obtain ⟨m_1073, ha, HS1075, HAp1072⟩ := hI
            cases kp1072 with
            | zero => cases (show (none : Option _) = some _ from HAp1072)
            | succ kp1072 =>
              have H := (header_Runs.l13.eq_2 ..).symm.trans HAp1072
              refine wpLF_app ?_ ha
              refine L_seq ?_
              refine L_seq ?_
              refine L_region ?_
              refine F_val rfl rfl rfl (O_move rfl rfl) ?_
              refine F_val rfl rfl rfl (O_move rfl rfl) ?_
              refine F_val rfl rfl rfl (O_add rfl rfl rfl) ?_
              refine F_val rfl rfl rfl (O_move rfl rfl) ?_
              refine F_val rfl rfl rfl (O_len rfl rfl Try.underlying22) ?_
              refine F_val rfl rfl rfl (O_lt rfl rfl rfl) ?_
              refine F_val rfl rfl rfl (O_move rfl rfl) ?_
              obtain ⟨b1078, Hb1078, H⟩ := of_bind H
              refine F_grp 9 [(35, .bool b1078), (0, .slice A_lens_0 l_lens_0.length c_lens_0), (4, .slice A985 l987.length c986), (5, .int .i64 at_988), (6, .int .i64 x995), (7, .int .i64 m_1073)] ?_ ?_
              · rcases Decidable.em (IntKind.i64.wrap (at_988 + m_1073) < (l_lens_0.length : Int)) with c1082 | c1082
                · refine F_know (i := 26) rfl (dec_t c1082) ?_
                  have H := of_pos Hb1078 c1082
                  refine F_gval rfl rfl rfl rfl rfl rfl (O_move rfl rfl) ?_
                  refine F_gval rfl rfl rfl rfl rfl rfl (O_move rfl rfl) ?_
                  refine F_gval rfl rfl rfl rfl rfl rfl (O_move rfl rfl) ?_
                  refine F_gval rfl rfl rfl rfl rfl rfl (O_add rfl rfl rfl) ?_
                  obtain ⟨⟨g1083, g1084⟩, H⟩ := of_gd H
                  refine F_gval rfl rfl rfl rfl rfl rfl (O_idx rfl rfl rfl Try.underlying22 size3 g1083 g1084 (Cells.isA (HS1075.cells_rd (i := 0) rfl) (rowC_ne (E := (Eint .i64)) g1083 g1084 (by decide)))) ?_
                  refine F_gval rfl rfl rfl rfl rfl rfl (O_loadC rfl rfl flat3 (HS1075.cells_rd (i := 0) rfl) (int_cell g1083 g1084)) ?_
                  refine F_gval rfl rfl rfl rfl rfl rfl (O_move rfl rfl) ?_
                  refine F_gval rfl rfl rfl rfl rfl rfl (O_eq rfl rfl rfl) ?_
                  refine F_val rfl rfl rfl (O_pickT rfl rfl rfl) ?_
                  refine F_know (i := 35) rfl (congrArg Value.bool (Option.some.inj H)) ?_
                  exact F_grpE (fun a ha => Is.cons ha (Is.cons ha (Is.cons ha (Is.cons ha (Is.cons ha (Is.cons ha (Is.nil ha) rfl) rfl) rfl) rfl) rfl) rfl)
                · refine F_know (i := 26) rfl (dec_f c1082) ?_
                  have H := of_neg Hb1078 c1082
                  refine F_gskip rfl rfl rfl rfl rfl rfl rfl ?_
                  refine F_gskip rfl rfl rfl rfl rfl rfl rfl ?_
                  refine F_gskip rfl rfl rfl rfl rfl rfl rfl ?_
                  refine F_gskip rfl rfl rfl rfl rfl rfl rfl ?_
                  refine F_gskip rfl rfl rfl rfl rfl rfl rfl ?_
                  refine F_gskip rfl rfl rfl rfl rfl rfl rfl ?_
                  refine F_gskip rfl rfl rfl rfl rfl rfl rfl ?_
                  refine F_gskip rfl rfl rfl rfl rfl rfl rfl ?_
                  refine F_val rfl rfl rfl (O_pickF rfl rfl rfl) ?_
                  refine F_know (i := 35) rfl (congrArg Value.bool (Option.some.inj H)) ?_
                  exact F_grpE (fun a ha => Is.cons ha (Is.cons ha (Is.cons ha (Is.cons ha (Is.cons ha (Is.cons ha (Is.nil ha) rfl) rfl) rfl) rfl) rfl) rfl)
              · skip
                refine F_nil ?_
                refine L_cond rfl (fun c1085 => ?_) (fun c1085 => ?_)
                · have H := of_pos H c1085
                  refine L_skip ?_
                  refine L_blk (fun Q1086 hN1086 hX1086 hO1086 => ?_)
                  refine L_region ?_
                  refine F_val rfl rfl rfl (O_move rfl rfl) ?_
                  refine F_val rfl rfl rfl (O_add rfl rfl rfl) ?_
                  obtain ⟨x1087, h1088, H⟩ := of_bnd H
                  refine F_val rfl rfl rfl (O_assign' rfl rfl (congrArg (Value.int .i64) h1088)) ?_
                  refine F_nil ?_
                  refine L_endB hN1086 ?_
                  refine L_nil (fun a ha => hNp1072 _ a _ (Nat.lt_succ_self _) ⟨_, Is.cons ha (Is.cons ha (Is.cons ha (Is.cons ha (Is.cons ha (Is.nil ha) rfl) rfl) rfl) rfl) rfl, HS1075.sel [0, 1] rfl, H⟩)
                · have H := of_neg H (by rw [c1085]; exact Bool.false_ne_true)
                  refine L_exitB (fun a w h => hOp1072 (.exit 2) a w rfl (hXb1044 a w h)) ?_
                  refine L_nil (fun a ha => hNj997 a _ ⟨_, (Option.some.inj H).symm, Is.cons ha (Is.cons ha (Is.cons ha (Is.cons ha (Is.cons ha (Is.nil ha) rfl) rfl) rfl) rfl) rfl, HS1075.sel [0, 1] rfl⟩)
          · obtain ⟨m_1043, ej, ha, HS1090⟩ := hR
            obtain rfl := ej.symm
            refine wpLF_app ?_ ha
            refine L_seq ?_
            refine L_region ?_
            refine F_val rfl rfl rfl (O_move rfl rfl) ?_
            refine F_val rfl rfl rfl (O_build (vs := [(0, .int .i64 x995), (1, .int .i64 1)]) (v := .agg #[.int .i64 x995, .int .i64 1]) rfl rfl rfl (fun w => by kernel_rfl)) ?_
            refine F_alloc (C := [.int .i64 0, .int .i64 0]) rfl rfl rfl rfl zero35 rfl HS1090 (fun w1091 g1093 HS1092 => ?_)
            have HS1092 : Hp S0 w0 w1091 [.rd A_lens_0 (rowC (Eint .i64) l_lens_0), .own A985 c986 (rowC E_api_Run l987) 35 E_api_Run.sz, .box g1093 [.int .i64 0, .int .i64 0] 35] := HS1092
            refine F_stB 2 ([.int .i64 x995, .int .i64 1]) rfl rfl rfl rfl rfl size35 HS1092 rfl rfl rfl rfl rfl (fun w1095 HS1096 => ?_)
            have HS1096 : Hp S0 w0 w1095 [.rd A_lens_0 (rowC (Eint .i64) l_lens_0), .own A985 c986 (rowC E_api_Run l987) 35 E_api_Run.sz, .box g1093 [.int .i64 x995, .int .i64 1] 35] := HS1096
            refine F_nil ?_
            refine L_seq ?_
            refine L_blk (fun Q1097 hN1097 hX1097 hO1097 => ?_)
            refine L_seq ?_
            refine L_region ?_
            refine F_val rfl rfl rfl (O_move rfl rfl) ?_
            refine F_val rfl rfl rfl (O_eq rfl rfl rfl) ?_
            refine F_val rfl rfl rfl (O_move rfl rfl) ?_
            refine F_grp 3 [(46, .bool (decide ((x995 = 0) ∧ (11 ≤ m_1043)))), (0, .slice A_lens_0 l_lens_0.length c_lens_0), (4, .slice A985 l987.length c986), (5, .int .i64 at_988), (6, .int .i64 x995), (7, .int .i64 m_1043), (8, .pointer (some ⟨g1093, 0, none⟩))] ?_ ?_
            · rcases Decidable.em (x995 = 0) with c1101 | c1101
              · refine F_know (i := 43) rfl (dec_t c1101) ?_
                refine F_gval rfl rfl rfl rfl rfl rfl (O_move rfl rfl) ?_
                refine F_gval rfl rfl rfl rfl rfl rfl (O_ge rfl rfl rfl) ?_
                refine F_val rfl rfl rfl (O_pickT rfl rfl rfl) ?_
                refine F_know (i := 46) rfl (dec_and_t (q := 11 ≤ m_1043) c1101) ?_
                exact F_grpE (fun a ha => Is.cons ha (Is.cons ha (Is.cons ha (Is.cons ha (Is.cons ha (Is.cons ha (Is.cons ha (Is.nil ha) rfl) rfl) rfl) rfl) rfl) rfl) rfl)
              · refine F_know (i := 43) rfl (dec_f c1101) ?_
                refine F_gskip rfl rfl rfl rfl rfl rfl rfl ?_
                refine F_gskip rfl rfl rfl rfl rfl rfl rfl ?_
                refine F_val rfl rfl rfl (O_pickF rfl rfl rfl) ?_
                refine F_know (i := 46) rfl (dec_and_f (q := 11 ≤ m_1043) c1101) ?_
                exact F_grpE (fun a ha => Is.cons ha (Is.cons ha (Is.cons ha (Is.cons ha (Is.cons ha (Is.cons ha (Is.cons ha (Is.nil ha) rfl) rfl) rfl) rfl) rfl) rfl) rfl)
            · skip
              refine F_val rfl rfl rfl (O_assign rfl rfl) ?_
              refine F_nil ?_
              obtain ⟨yj1102, Hyj1102, H⟩ := of_bind H
              refine L_join (fun a w => ∃ (y1133 : Int), ∃ (y1134 : Int), yj1102 = (y1133, y1134) ∧ Is Try.f5.ntmps a [(0, .slice A_lens_0 l_lens_0.length c_lens_0), (4, .slice A985 l987.length c986), (5, .int .i64 at_988), (8, .pointer (some ⟨g1093, 0, none⟩))] ∧ Hp S0 w0 w [.rd A_lens_0 (rowC (Eint .i64) l_lens_0), .own A985 c986 (rowC E_api_Run l987) 35 E_api_Run.sz, .box g1093 [.int .i64 y1133, .int .i64 y1134] 35]) (fun Qj1102 hNj1102 hOj1102 => ?_) (fun a w hR => ?_)
              · skip
                have H := Hyj1102
                refine L_condP rfl (fun c1135 => ?_) (fun c1135 => ?_)
                · have H := of_pos H c1135
                  refine L_region ?_
                  refine F_val rfl rfl rfl (O_move rfl rfl) ?_
                  refine F_val rfl rfl rfl (O_min rfl rfl rfl) ?_
                  refine F_val rfl rfl rfl (O_build (vs := [(0, .int .i64 18), (1, .int .i64 (min m_1043 138))]) (v := .agg #[.int .i64 18, .int .i64 (min m_1043 138)]) rfl rfl rfl (fun w => by kernel_rfl)) ?_
                  refine F_stB 2 ([.int .i64 18, .int .i64 (min m_1043 138)]) rfl rfl rfl rfl rfl size35 HS1096 rfl rfl rfl rfl rfl (fun w1136 HS1137 => ?_)
                  have HS1137 : Hp S0 w0 w1136 [.rd A_lens_0 (rowC (Eint .i64) l_lens_0), .own A985 c986 (rowC E_api_Run l987) 35 E_api_Run.sz, .box g1093 [.int .i64 18, .int .i64 (min m_1043 138)] 35] := HS1137
                  refine F_nil ?_
                  refine L_nil (fun a ha => hNj1102 a _ ⟨_, _, (Option.some.inj H).symm, Is.cons ha (Is.cons ha (Is.cons ha (Is.cons ha (Is.nil ha) rfl) rfl) rfl) rfl, HS1137.sel [0, 1, 2] rfl⟩)
                · have H := of_neg H c1135
                  refine L_seq ?_
                  refine L_region ?_
                  refine F_val rfl rfl rfl (O_move rfl rfl) ?_
                  refine F_val rfl rfl rfl (O_eq rfl rfl rfl) ?_
                  refine F_val rfl rfl rfl (O_move rfl rfl) ?_
                  refine F_grp 3 [(56, .bool (decide ((x995 = 0) ∧ (3 ≤ m_1043)))), (0, .slice A_lens_0 l_lens_0.length c_lens_0), (4, .slice A985 l987.length c986), (5, .int .i64 at_988), (6, .int .i64 x995), (7, .int .i64 m_1043), (8, .pointer (some ⟨g1093, 0, none⟩))] ?_ ?_
                  · rcases Decidable.em (x995 = 0) with c1141 | c1141
                    · refine F_know (i := 53) rfl (dec_t c1141) ?_
                      refine F_gval rfl rfl rfl rfl rfl rfl (O_move rfl rfl) ?_
                      refine F_gval rfl rfl rfl rfl rfl rfl (O_ge rfl rfl rfl) ?_
                      refine F_val rfl rfl rfl (O_pickT rfl rfl rfl) ?_
                      refine F_know (i := 56) rfl (dec_and_t (q := 3 ≤ m_1043) c1141) ?_
                      exact F_grpE (fun a ha => Is.cons ha (Is.cons ha (Is.cons ha (Is.cons ha (Is.cons ha (Is.cons ha (Is.cons ha (Is.nil ha) rfl) rfl) rfl) rfl) rfl) rfl) rfl)
                    · refine F_know (i := 53) rfl (dec_f c1141) ?_
                      refine F_gskip rfl rfl rfl rfl rfl rfl rfl ?_
                      refine F_gskip rfl rfl rfl rfl rfl rfl rfl ?_
                      refine F_val rfl rfl rfl (O_pickF rfl rfl rfl) ?_
                      refine F_know (i := 56) rfl (dec_and_f (q := 3 ≤ m_1043) c1141) ?_
                      exact F_grpE (fun a ha => Is.cons ha (Is.cons ha (Is.cons ha (Is.cons ha (Is.cons ha (Is.cons ha (Is.cons ha (Is.nil ha) rfl) rfl) rfl) rfl) rfl) rfl) rfl)
                  · skip
                    refine F_val rfl rfl rfl (O_assign rfl rfl) ?_
                    refine F_nil ?_
                    refine L_condP rfl (fun c1142 => ?_) (fun c1142 => ?_)
                    · have H := of_pos H c1142
                      refine L_region ?_
                      refine F_val rfl rfl rfl (O_move rfl rfl) ?_
                      refine F_val rfl rfl rfl (O_build (vs := [(0, .int .i64 17), (1, .int .i64 m_1043)]) (v := .agg #[.int .i64 17, .int .i64 m_1043]) rfl rfl rfl (fun w => by kernel_rfl)) ?_
                      refine F_stB 2 ([.int .i64 17, .int .i64 m_1043]) rfl rfl rfl rfl rfl size35 HS1096 rfl rfl rfl rfl rfl (fun w1143 HS1144 => ?_)
                      have HS1144 : Hp S0 w0 w1143 [.rd A_lens_0 (rowC (Eint .i64) l_lens_0), .own A985 c986 (rowC E_api_Run l987) 35 E_api_Run.sz, .box g1093 [.int .i64 17, .int .i64 m_1043] 35] := HS1144
                      refine F_nil ?_
                      refine L_nil (fun a ha => hNj1102 a _ ⟨_, _, (Option.some.inj H).symm, Is.cons ha (Is.cons ha (Is.cons ha (Is.cons ha (Is.nil ha) rfl) rfl) rfl) rfl, HS1144.sel [0, 1, 2] rfl⟩)
                    · have H := of_neg H c1142
                      refine L_seq ?_
                      refine L_region ?_
                      refine F_val rfl rfl rfl (O_move rfl rfl) ?_
                      refine F_val rfl rfl rfl (O_ne rfl rfl rfl) ?_
                      refine F_val rfl rfl rfl (O_move rfl rfl) ?_
                      refine F_grp 3 [(65, .bool (decide ((x995 ≠ 0) ∧ (3 ≤ m_1043)))), (0, .slice A_lens_0 l_lens_0.length c_lens_0), (4, .slice A985 l987.length c986), (5, .int .i64 at_988), (6, .int .i64 x995), (7, .int .i64 m_1043), (8, .pointer (some ⟨g1093, 0, none⟩))] ?_ ?_
                      · rcases Decidable.em (x995 ≠ 0) with c1148 | c1148
                        · refine F_know (i := 62) rfl (dec_t c1148) ?_
                          refine F_gval rfl rfl rfl rfl rfl rfl (O_move rfl rfl) ?_
                          refine F_gval rfl rfl rfl rfl rfl rfl (O_ge rfl rfl rfl) ?_
                          refine F_val rfl rfl rfl (O_pickT rfl rfl rfl) ?_
                          refine F_know (i := 65) rfl (dec_and_t (q := 3 ≤ m_1043) c1148) ?_
                          exact F_grpE (fun a ha => Is.cons ha (Is.cons ha (Is.cons ha (Is.cons ha (Is.cons ha (Is.cons ha (Is.cons ha (Is.nil ha) rfl) rfl) rfl) rfl) rfl) rfl) rfl)
                        · refine F_know (i := 62) rfl (dec_f c1148) ?_
                          refine F_gskip rfl rfl rfl rfl rfl rfl rfl ?_
                          refine F_gskip rfl rfl rfl rfl rfl rfl rfl ?_
                          refine F_val rfl rfl rfl (O_pickF rfl rfl rfl) ?_
                          refine F_know (i := 65) rfl (dec_and_f (q := 3 ≤ m_1043) c1148) ?_
                          exact F_grpE (fun a ha => Is.cons ha (Is.cons ha (Is.cons ha (Is.cons ha (Is.cons ha (Is.cons ha (Is.cons ha (Is.nil ha) rfl) rfl) rfl) rfl) rfl) rfl) rfl)
                      · skip
                        refine F_val rfl rfl rfl (O_move rfl rfl) ?_
                        refine F_grp 3 [(69, .bool (decide (((x995 ≠ 0) ∧ (3 ≤ m_1043)) ∧ (0 < at_988)))), (0, .slice A_lens_0 l_lens_0.length c_lens_0), (4, .slice A985 l987.length c986), (5, .int .i64 at_988), (6, .int .i64 x995), (7, .int .i64 m_1043), (8, .pointer (some ⟨g1093, 0, none⟩))] ?_ ?_
                        · rcases Decidable.em ((x995 ≠ 0) ∧ (3 ≤ m_1043)) with c1152 | c1152
                          · refine F_know (i := 66) rfl (dec_t c1152) ?_
                            refine F_gval rfl rfl rfl rfl rfl rfl (O_move rfl rfl) ?_
                            refine F_gval rfl rfl rfl rfl rfl rfl (O_gt rfl rfl rfl) ?_
                            refine F_val rfl rfl rfl (O_pickT rfl rfl rfl) ?_
                            refine F_know (i := 69) rfl (dec_and_t (q := 0 < at_988) c1152) ?_
                            exact F_grpE (fun a ha => Is.cons ha (Is.cons ha (Is.cons ha (Is.cons ha (Is.cons ha (Is.cons ha (Is.cons ha (Is.nil ha) rfl) rfl) rfl) rfl) rfl) rfl) rfl)
                          · refine F_know (i := 66) rfl (dec_f c1152) ?_
                            refine F_gskip rfl rfl rfl rfl rfl rfl rfl ?_
                            refine F_gskip rfl rfl rfl rfl rfl rfl rfl ?_
                            refine F_val rfl rfl rfl (O_pickF rfl rfl rfl) ?_
                            refine F_know (i := 69) rfl (dec_and_f (q := 0 < at_988) c1152) ?_
                            exact F_grpE (fun a ha => Is.cons ha (Is.cons ha (Is.cons ha (Is.cons ha (Is.cons ha (Is.cons ha (Is.cons ha (Is.nil ha) rfl) rfl) rfl) rfl) rfl) rfl) rfl)
                        · skip
                          refine F_val rfl rfl rfl (O_move rfl rfl) ?_
                          obtain ⟨b1155, Hb1155, H⟩ := of_bind H
                          refine F_grp 8 [(78, .bool b1155), (0, .slice A_lens_0 l_lens_0.length c_lens_0), (4, .slice A985 l987.length c986), (5, .int .i64 at_988), (7, .int .i64 m_1043), (8, .pointer (some ⟨g1093, 0, none⟩))] ?_ ?_
                          · rcases Decidable.em (((x995 ≠ 0) ∧ (3 ≤ m_1043)) ∧ (0 < at_988)) with c1159 | c1159
                            · refine F_know (i := 70) rfl (dec_t c1159) ?_
                              have H := of_pos Hb1155 c1159
                              refine F_gval rfl rfl rfl rfl rfl rfl (O_move rfl rfl) ?_
                              refine F_gval rfl rfl rfl rfl rfl rfl (O_move rfl rfl) ?_
                              refine F_gval rfl rfl rfl rfl rfl rfl (O_sub rfl rfl rfl) ?_
                              obtain ⟨⟨g1160, g1161⟩, H⟩ := of_gd H
                              refine F_gval rfl rfl rfl rfl rfl rfl (O_idx rfl rfl rfl Try.underlying22 size3 g1160 g1161 (Cells.isA (HS1096.cells_rd (i := 0) rfl) (rowC_ne (E := (Eint .i64)) g1160 g1161 (by decide)))) ?_
                              refine F_gval rfl rfl rfl rfl rfl rfl (O_loadC rfl rfl flat3 (HS1096.cells_rd (i := 0) rfl) (int_cell g1160 g1161)) ?_
                              refine F_gval rfl rfl rfl rfl rfl rfl (O_move rfl rfl) ?_
                              refine F_gval rfl rfl rfl rfl rfl rfl (O_eq rfl rfl rfl) ?_
                              refine F_val rfl rfl rfl (O_pickT rfl rfl rfl) ?_
                              refine F_know (i := 78) rfl (congrArg Value.bool (Option.some.inj H)) ?_
                              exact F_grpE (fun a ha => Is.cons ha (Is.cons ha (Is.cons ha (Is.cons ha (Is.cons ha (Is.cons ha (Is.nil ha) rfl) rfl) rfl) rfl) rfl) rfl)
                            · refine F_know (i := 70) rfl (dec_f c1159) ?_
                              have H := of_neg Hb1155 c1159
                              refine F_gskip rfl rfl rfl rfl rfl rfl rfl ?_
                              refine F_gskip rfl rfl rfl rfl rfl rfl rfl ?_
                              refine F_gskip rfl rfl rfl rfl rfl rfl rfl ?_
                              refine F_gskip rfl rfl rfl rfl rfl rfl rfl ?_
                              refine F_gskip rfl rfl rfl rfl rfl rfl rfl ?_
                              refine F_gskip rfl rfl rfl rfl rfl rfl rfl ?_
                              refine F_gskip rfl rfl rfl rfl rfl rfl rfl ?_
                              refine F_val rfl rfl rfl (O_pickF rfl rfl rfl) ?_
                              refine F_know (i := 78) rfl (congrArg Value.bool (Option.some.inj H)) ?_
                              exact F_grpE (fun a ha => Is.cons ha (Is.cons ha (Is.cons ha (Is.cons ha (Is.cons ha (Is.cons ha (Is.nil ha) rfl) rfl) rfl) rfl) rfl) rfl)
                          · skip
                            refine F_val rfl rfl rfl (O_assign rfl rfl) ?_
                            refine F_nil ?_
                            refine L_cond rfl (fun c1162 => ?_) (fun c1162 => ?_)
                            · have H := of_pos H c1162
                              refine L_region ?_
                              refine F_val rfl rfl rfl (O_move rfl rfl) ?_
                              refine F_val rfl rfl rfl (O_min rfl rfl rfl) ?_
                              refine F_val rfl rfl rfl (O_build (vs := [(0, .int .i64 16), (1, .int .i64 (min m_1043 6))]) (v := .agg #[.int .i64 16, .int .i64 (min m_1043 6)]) rfl rfl rfl (fun w => by kernel_rfl)) ?_
                              refine F_stB 2 ([.int .i64 16, .int .i64 (min m_1043 6)]) rfl rfl rfl rfl rfl size35 HS1096 rfl rfl rfl rfl rfl (fun w1163 HS1164 => ?_)
                              have HS1164 : Hp S0 w0 w1163 [.rd A_lens_0 (rowC (Eint .i64) l_lens_0), .own A985 c986 (rowC E_api_Run l987) 35 E_api_Run.sz, .box g1093 [.int .i64 16, .int .i64 (min m_1043 6)] 35] := HS1164
                              refine F_nil ?_
                              refine L_nil (fun a ha => hNj1102 a _ ⟨_, _, (Option.some.inj H).symm, Is.cons ha (Is.cons ha (Is.cons ha (Is.cons ha (Is.nil ha) rfl) rfl) rfl) rfl, HS1164.sel [0, 1, 2] rfl⟩)
                            · have H := of_neg H (by rw [c1162]; exact Bool.false_ne_true)
                              refine L_skip ?_
                              refine L_nil (fun a ha => hNj1102 a _ ⟨_, _, (Option.some.inj H).symm, Is.cons ha (Is.cons ha (Is.cons ha (Is.cons ha (Is.nil ha) rfl) rfl) rfl) rfl, HS1096.sel [0, 1, 2] rfl⟩)
              · obtain ⟨y1133, y1134, rfl, ha, HS1166⟩ := hR
                refine wpLF_app ?_ ha
                refine L_endB hN1097 ?_
                refine L_seq ?_
                refine L_region ?_
                refine F_val rfl rfl rfl (O_move rfl rfl) ?_
                refine F_val rfl rfl rfl (O_loadWB' (k := 0) (vs := [.int .i64 y1133, .int .i64 y1134]) rfl rfl wide35 (HS1166.cells_box (i := 2) rfl) rfl rfl (by simp)) ?_
                refine F_litE (E := E_api_Run) (e := 35) [(0, .agg #[.int .i64 y1133, .int .i64 y1134])] [(y1133, y1134)] rfl rfl rfl rfl rfl rfl rfl (by decide) (fun w => by kernel_rfl) HS1166 (fun w1167 A1169 c1170 HS1168 => ?_)
                have HS1168 : Hp S0 w0 w1167 [.rd A_lens_0 (rowC (Eint .i64) l_lens_0), .own A985 c986 (rowC E_api_Run l987) 35 E_api_Run.sz, .box g1093 [.int .i64 y1133, .int .i64 y1134] 35, .own A1169 c1170 (rowC E_api_Run [(y1133, y1134)]) 35 E_api_Run.sz] := HS1168
                obtain ⟨l1174, h1175, H⟩ := of_bnd H
                obtain ⟨g1176, H⟩ := of_gd H
                refine F_appE (E := E_api_Run) (xs := l987) (ys := [(y1133, y1134)]) (i := 1) rfl rfl rfl rfl Try.underlying24 info35 rfl (by decide) (by decide) rfl rfl HS1168 rfl (HS1168.cells_own (i := 3) rfl) h1175 g1176 (fun w1172 A1177 c1178 HS1173 => ?_)
                have HS1173 : Hp S0 w0 w1172 [.rd A_lens_0 (rowC (Eint .i64) l_lens_0), .own A1177 c1178 (rowC E_api_Run l1174) 35 E_api_Run.sz, .box g1093 [.int .i64 y1133, .int .i64 y1134] 35, .own A1169 c1170 (rowC E_api_Run [(y1133, y1134)]) 35 E_api_Run.sz] := HS1173
                refine F_val rfl rfl rfl (O_assign rfl rfl) ?_
                refine F_nil ?_
                refine L_seq ?_
                refine L_region ?_
                refine F_val rfl rfl rfl (O_move rfl rfl) ?_
                refine F_val rfl rfl rfl (O_fieldB rfl rfl field35_1) ?_
                refine F_val rfl rfl rfl (O_loadB rfl rfl flat3 (HS1173.cells_box (i := 2) rfl) rfl) ?_
                refine F_val rfl rfl rfl (O_add rfl rfl rfl) ?_
                obtain ⟨x1179, h1180, H⟩ := of_bnd H
                refine F_val rfl rfl rfl (O_assign' rfl rfl (congrArg (Value.int .i64) h1180)) ?_
                refine F_nil ?_
                refine L_exitB hX992 ?_
                refine L_nil (fun a ha => hNp984 _ a _ (Nat.lt_succ_self _) ⟨_, _, _, _, Is.cons ha (Is.cons ha (Is.cons ha (Is.nil ha) rfl) rfl) rfl, HS1173.sel [0, 1] rfl, H⟩)
        · have H := of_neg H c991
          refine L_exitB (fun a w h => hOp984 (.exit 0) a w rfl (hXb599 a w h)) ?_
          refine L_nil (fun a ha => hNj13 a _ ⟨_, _, _, (Option.some.inj H).symm, Is.cons ha (Is.nil ha) rfl, HS990.sel [0, 1] rfl⟩)
    · obtain ⟨l598, A596, c597, ej, ha, HS1182⟩ := hR
      obtain rfl := ej.symm
      refine wpLF_app ?_ ha
      refine L_seq ?_
      refine L_region ?_
      refine F_val rfl rfl rfl (O_move rfl rfl) ?_
      refine F_val rfl rfl rfl (O_assign rfl rfl) ?_
      refine F_val rfl rfl rfl (O_assign rfl rfl) ?_
      refine F_nil ?_
      refine L_ret (fun a ha => (hO1 .ret a _ rfl (post_ret2 ha rfl rfl rfl ?_)))
      obtain rfl := Option.some.inj H
      exact ⟨_, _, rfl, HS1182.sel [1] rfl⟩

/-! function 12: valise/valiseref7.lengths -/
theorem valiseref7_lengths.calls {S0 : Nat → Prop} {w0 : World} {A_lens_0 : Option Addr} {c_lens_0 : Nat} {l_lens_0 : List Int} {r : Bool} (HS0 : Hp S0 w0 w0 [.rd A_lens_0 (rowC (Eint .i64) l_lens_0)]) (hc_lens_0 : l_lens_0.length ≤ c_lens_0) (h : valiseref7_lengths.f l_lens_0 = some r) :
    Calls Try.prog 12 ([.slice A_lens_0 l_lens_0.length c_lens_0] : List Value).toArray w0 (fun e w => e = .returned (.bool r) ∧ Hp S0 w0 w []) := by
  have H : (((valiseref7_lengths.l1 FU 0 l_lens_0).bind fun (yj1 : Sum (Bool) (Unit)) => onR yj1 (fun r => some r) fun () => some true) : Option (Bool)) = some r := h
  refine calls_start Try.func12 rfl rfl ?_
  refine L_seq ?_
  refine L_region ?_
  refine F_val rfl rfl rfl (O_assign rfl rfl) ?_
  refine F_nil ?_
  refine L_seq ?_
  refine L_seq ?_
  refine L_region ?_
  refine F_val rfl rfl rfl (O_assign rfl rfl) ?_
  refine F_nil ?_
  obtain ⟨yj1, Hyj1, H⟩ := of_bind H
  refine L_join (fun a w => yj1 = Sum.inr () ∧ Is Try.f12.ntmps a [] ∧ Hp S0 w0 w [.rd A_lens_0 (rowC (Eint .i64) l_lens_0)]) (fun Qj1 hNj1 hOj1 => ?_) (fun a w hR => ?_)
  · have HOj1 := H
    have H := Hyj1
    refine L_blk (fun Qb41 hNb41 hXb41 hOb41 => ?_)
    refine L_lp (fun k a w => ∃ (i_66 : Int), Is Try.f12.ntmps a [(0, .slice A_lens_0 l_lens_0.length c_lens_0), (3, .int .i64 i_66)] ∧ Hp S0 w0 w [.rd A_lens_0 (rowC (Eint .i64) l_lens_0)] ∧ valiseref7_lengths.l1 k i_66 l_lens_0 = some yj1) FU (fun a ha => ⟨_, Is.cons ha (Is.cons ha (Is.nil ha) rfl) rfl, HS0.sel [0] rfl, H⟩) (fun kp65 a w67 hI Qp65 hNp65 hOp65 => ?_)
    obtain ⟨i_66, ha, HS68, HAp65⟩ := hI
    cases kp65 with
    | zero => cases (show (none : Option _) = some _ from HAp65)
    | succ kp65 =>
      have H := (valiseref7_lengths.l1.eq_2 ..).symm.trans HAp65
      refine wpLF_app ?_ ha
      refine L_seq ?_
      refine L_seq ?_
      refine L_region ?_
      refine F_val rfl rfl rfl (O_move rfl rfl) ?_
      refine F_val rfl rfl rfl (O_move rfl rfl) ?_
      refine F_val rfl rfl rfl (O_len rfl rfl Try.underlying22) ?_
      refine F_val rfl rfl rfl (O_lt rfl rfl rfl) ?_
      refine F_nil ?_
      refine L_condP rfl (fun c69 => ?_) (fun c69 => ?_)
      · have H := of_pos H c69
        refine L_skip ?_
        refine L_seq ?_
        refine L_blk (fun Q70 hN70 hX70 hO70 => ?_)
        refine L_seq ?_
        refine L_region ?_
        refine F_val rfl rfl rfl (O_move rfl rfl) ?_
        refine F_val rfl rfl rfl (O_move rfl rfl) ?_
        obtain ⟨⟨g71, g72⟩, H⟩ := of_gd H
        refine F_val rfl rfl rfl (O_idx rfl rfl rfl Try.underlying22 size3 g71 g72 (Cells.isA (HS68.cells_rd (i := 0) rfl) (rowC_ne (E := (Eint .i64)) g71 g72 (by decide)))) ?_
        refine F_val rfl rfl rfl (O_loadC rfl rfl flat3 (HS68.cells_rd (i := 0) rfl) (int_cell g71 g72)) ?_
        refine F_val rfl rfl rfl (O_lt rfl rfl rfl) ?_
        refine F_val rfl rfl rfl (O_move rfl rfl) ?_
        refine F_grp 6 [(21, .bool (decide ((rd l_lens_0 i_66 < 0) ∨ (15 < rd l_lens_0 i_66)))), (0, .slice A_lens_0 l_lens_0.length c_lens_0), (3, .int .i64 i_66)] ?_ ?_
        · rcases Decidable.em (rd l_lens_0 i_66 < 0) with c76 | c76
          · refine F_know (i := 15) rfl (dec_t c76) ?_
            refine F_gskip rfl rfl rfl rfl rfl rfl rfl ?_
            refine F_gskip rfl rfl rfl rfl rfl rfl rfl ?_
            refine F_gskip rfl rfl rfl rfl rfl rfl rfl ?_
            refine F_gskip rfl rfl rfl rfl rfl rfl rfl ?_
            refine F_gskip rfl rfl rfl rfl rfl rfl rfl ?_
            refine F_val rfl rfl rfl (O_pickT rfl rfl rfl) ?_
            refine F_know (i := 21) rfl (dec_or_t (q := 15 < rd l_lens_0 i_66) c76) ?_
            exact F_grpE (fun a ha => Is.cons ha (Is.cons ha (Is.cons ha (Is.nil ha) rfl) rfl) rfl)
          · refine F_know (i := 15) rfl (dec_f c76) ?_
            refine F_gval rfl rfl rfl rfl rfl rfl (O_move rfl rfl) ?_
            refine F_gval rfl rfl rfl rfl rfl rfl (O_move rfl rfl) ?_
            refine F_gval rfl rfl rfl rfl rfl rfl (O_idx rfl rfl rfl Try.underlying22 size3 g71 g72 (Cells.isA (HS68.cells_rd (i := 0) rfl) (rowC_ne (E := (Eint .i64)) g71 g72 (by decide)))) ?_
            refine F_gval rfl rfl rfl rfl rfl rfl (O_loadC rfl rfl flat3 (HS68.cells_rd (i := 0) rfl) (int_cell g71 g72)) ?_
            refine F_gval rfl rfl rfl rfl rfl rfl (O_gt rfl rfl rfl) ?_
            refine F_val rfl rfl rfl (O_pickF rfl rfl rfl) ?_
            refine F_know (i := 21) rfl (dec_or_f (q := 15 < rd l_lens_0 i_66) c76) ?_
            exact F_grpE (fun a ha => Is.cons ha (Is.cons ha (Is.cons ha (Is.nil ha) rfl) rfl) rfl)
        · skip
          refine F_nil ?_
          refine L_condP rfl (fun c77 => ?_) (fun c77 => ?_)
          · have H := of_pos H c77
            refine L_seq ?_
            refine L_region ?_
            refine F_val rfl rfl rfl (O_assign rfl rfl) ?_
            refine F_nil ?_
            refine L_ret (fun a ha => (hO70 .ret a _ rfl (hOp65 .ret a _ rfl (hOb41 .ret a _ rfl (hOj1 .ret a _ rfl (post_ret1 ha rfl rfl ?_))))))
            obtain rfl := Option.some.inj H
            obtain rfl := Option.some.inj (show (some false : Option (Bool)) = some _ from HOj1)
            exact ⟨rfl, HS68.sel [] rfl⟩
          · have H := of_neg H c77
            refine L_skip ?_
            refine L_endB hN70 ?_
            refine L_region ?_
            refine F_val rfl rfl rfl (O_move rfl rfl) ?_
            refine F_val rfl rfl rfl (O_add rfl rfl rfl) ?_
            obtain ⟨x78, h79, H⟩ := of_bnd H
            refine F_val rfl rfl rfl (O_assign' rfl rfl (congrArg (Value.int .i64) h79)) ?_
            refine F_nil ?_
            refine L_nil (fun a ha => hNp65 _ a _ (Nat.lt_succ_self _) ⟨_, Is.cons ha (Is.cons ha (Is.nil ha) rfl) rfl, HS68.sel [0] rfl, H⟩)
      · have H := of_neg H c69
        refine L_exitB (fun a w h => hOp65 (.exit 0) a w rfl (hXb41 a w h)) ?_
        refine L_nil (fun a ha => hNj1 a _ ⟨(Option.some.inj H).symm, Is.nil ha, HS68.sel [0] rfl⟩)
  · obtain ⟨rfl, ha, HS81⟩ := hR
    refine wpLF_app ?_ ha
    have H := (onR_inr _ _ _).symm.trans H
    refine L_seq ?_
    refine L_region ?_
    refine F_val rfl rfl rfl (O_assign rfl rfl) ?_
    refine F_nil ?_
    refine L_ret (fun a ha => (post_ret1 ha rfl rfl ?_))
    obtain rfl := Option.some.inj H
    exact ⟨rfl, HS81.sel [] rfl⟩

/-! function 14: valise/valiseref7.equals -/
theorem valiseref7_equals.calls {S0 : Nat → Prop} {w0 : World} {A_lens_0 : Option Addr} {c_lens_0 : Nat} {l_lens_0 : List Int} {at_1 : Int} {r : Int} (HS0 : Hp S0 w0 w0 [.rd A_lens_0 (rowC (Eint .i64) l_lens_0)]) (hc_lens_0 : l_lens_0.length ≤ c_lens_0) (h : valiseref7_equals.f l_lens_0 at_1 = some r) :
    Calls Try.prog 14 ([.slice A_lens_0 l_lens_0.length c_lens_0, .int .i64 at_1] : List Value).toArray w0 (fun e w => e = .returned (.int .i64 r) ∧ Hp S0 w0 w []) := by
  have H : (((valiseref7_equals.l1 FU 0 l_lens_0 at_1).bind fun m_68 => some m_68) : Option (Int)) = some r := h
  refine calls_start Try.func14 rfl rfl ?_
  refine L_seq ?_
  refine L_region ?_
  refine F_val rfl rfl rfl (O_assign rfl rfl) ?_
  refine F_nil ?_
  refine L_seq ?_
  refine L_region ?_
  refine F_val rfl rfl rfl (O_assign rfl rfl) ?_
  refine F_nil ?_
  refine L_seq ?_
  obtain ⟨yj1, Hyj1, H⟩ := of_bind H
  refine L_join (fun a w => ∃ (m_68 : Int), yj1 = m_68 ∧ Is Try.f14.ntmps a [(5, .int .i64 m_68)] ∧ Hp S0 w0 w [.rd A_lens_0 (rowC (Eint .i64) l_lens_0)]) (fun Qj1 hNj1 hOj1 => ?_) (fun a w hR => ?_)
  · skip
    have H := Hyj1
    refine L_blk (fun Qb69 hNb69 hXb69 hOb69 => ?_)
    refine L_lp (fun k a w => ∃ (m_112 : Int), Is Try.f14.ntmps a [(0, .slice A_lens_0 l_lens_0.length c_lens_0), (1, .int .i64 at_1), (5, .int .i64 m_112)] ∧ Hp S0 w0 w [.rd A_lens_0 (rowC (Eint .i64) l_lens_0)] ∧ valiseref7_equals.l1 k m_112 l_lens_0 at_1 = some yj1) FU (fun a ha => ⟨_, Is.cons ha (Is.cons ha (Is.cons ha (Is.nil ha) rfl) rfl) rfl, HS0.sel [0] rfl, H⟩) (fun kp111 a w113 hI Qp111 hNp111 hOp111 => ?_)
    obtain ⟨m_112, ha, HS114, HAp111⟩ := hI
    cases kp111 with
    | zero => cases (show (none : Option _) = some _ from HAp111)
    | succ kp111 =>
      have H := (valiseref7_equals.l1.eq_2 ..).symm.trans HAp111
      refine wpLF_app ?_ ha
      refine L_seq ?_
      refine L_seq ?_
      refine L_quiet mix (by kernel_rfl) ?_
      refine Q_val rfl rfl rfl (fun wq hq => O_move rfl rfl) ?_
      refine Q_val rfl rfl rfl (fun wq hq => O_move rfl rfl) ?_
      refine Q_val rfl rfl rfl (fun wq hq => O_add rfl rfl rfl) ?_
      refine Q_val rfl rfl rfl (fun wq hq => O_move rfl rfl) ?_
      refine Q_val rfl rfl rfl (fun wq hq => O_len rfl rfl Try.underlying22) ?_
      refine Q_val rfl rfl rfl (fun wq hq => O_lt rfl rfl rfl) ?_
      refine Q_val rfl rfl rfl (fun wq hq => O_move rfl rfl) ?_
      obtain ⟨b119, Hb119, H⟩ := of_bind H
      refine Q_grp 12 [(24, .bool b119), (0, .slice A_lens_0 l_lens_0.length c_lens_0), (1, .int .i64 at_1), (5, .int .i64 m_112)] ?_ ?_
      · rcases Decidable.em (IntKind.i64.wrap (at_1 + m_112) < (l_lens_0.length : Int)) with c123 | c123
        · refine Q_know (i := 12) rfl (dec_t c123) ?_
          have H := of_pos Hb119 c123
          refine Q_gval rfl rfl rfl rfl rfl rfl (fun wq hq => O_move rfl rfl) ?_
          refine Q_gval rfl rfl rfl rfl rfl rfl (fun wq hq => O_move rfl rfl) ?_
          refine Q_gval rfl rfl rfl rfl rfl rfl (fun wq hq => O_move rfl rfl) ?_
          refine Q_gval rfl rfl rfl rfl rfl rfl (fun wq hq => O_add rfl rfl rfl) ?_
          obtain ⟨⟨g124, g125⟩, H⟩ := of_gd H
          refine Q_gval rfl rfl rfl rfl rfl rfl (fun wq hq => O_idx rfl rfl rfl Try.underlying22 size3 g124 g125 (Cells.isA ((HS114.keep hq).cells_rd (i := 0) rfl) (rowC_ne (E := (Eint .i64)) g124 g125 (by decide)))) ?_
          refine Q_gval rfl rfl rfl rfl rfl rfl (fun wq hq => O_loadC rfl rfl flat3 ((HS114.keep hq).cells_rd (i := 0) rfl) (int_cell g124 g125)) ?_
          refine Q_gval rfl rfl rfl rfl rfl rfl (fun wq hq => O_move rfl rfl) ?_
          refine Q_gval rfl rfl rfl rfl rfl rfl (fun wq hq => O_move rfl rfl) ?_
          obtain ⟨⟨g126, g127⟩, H⟩ := of_gd H
          refine Q_gval rfl rfl rfl rfl rfl rfl (fun wq hq => O_idx rfl rfl rfl Try.underlying22 size3 g126 g127 (Cells.isA ((HS114.keep hq).cells_rd (i := 0) rfl) (rowC_ne (E := (Eint .i64)) g126 g127 (by decide)))) ?_
          refine Q_gval rfl rfl rfl rfl rfl rfl (fun wq hq => O_loadC rfl rfl flat3 ((HS114.keep hq).cells_rd (i := 0) rfl) (int_cell g126 g127)) ?_
          refine Q_gval rfl rfl rfl rfl rfl rfl (fun wq hq => O_eq rfl rfl rfl) ?_
          refine Q_val rfl rfl rfl (fun wq hq => O_pickT rfl rfl rfl) ?_
          refine Q_know (i := 24) rfl (congrArg Value.bool (Option.some.inj H)) ?_
          exact Q_grpE (fun a ha => Is.cons ha (Is.cons ha (Is.cons ha (Is.cons ha (Is.nil ha) rfl) rfl) rfl) rfl)
        · refine Q_know (i := 12) rfl (dec_f c123) ?_
          have H := of_neg Hb119 c123
          refine Q_gskip rfl rfl rfl rfl rfl rfl rfl ?_
          refine Q_gskip rfl rfl rfl rfl rfl rfl rfl ?_
          refine Q_gskip rfl rfl rfl rfl rfl rfl rfl ?_
          refine Q_gskip rfl rfl rfl rfl rfl rfl rfl ?_
          refine Q_gskip rfl rfl rfl rfl rfl rfl rfl ?_
          refine Q_gskip rfl rfl rfl rfl rfl rfl rfl ?_
          refine Q_gskip rfl rfl rfl rfl rfl rfl rfl ?_
          refine Q_gskip rfl rfl rfl rfl rfl rfl rfl ?_
          refine Q_gskip rfl rfl rfl rfl rfl rfl rfl ?_
          refine Q_gskip rfl rfl rfl rfl rfl rfl rfl ?_
          refine Q_gskip rfl rfl rfl rfl rfl rfl rfl ?_
          refine Q_val rfl rfl rfl (fun wq hq => O_pickF rfl rfl rfl) ?_
          refine Q_know (i := 24) rfl (congrArg Value.bool (Option.some.inj H)) ?_
          exact Q_grpE (fun a ha => Is.cons ha (Is.cons ha (Is.cons ha (Is.cons ha (Is.nil ha) rfl) rfl) rfl) rfl)
      · skip
        refine Q_nil (fun w128 hw129 => ?_)
        have HS130 := HS114.keep hw129
        refine L_cond rfl (fun c131 => ?_) (fun c131 => ?_)
        · have H := of_pos H c131
          refine L_skip ?_
          refine L_blk (fun Q132 hN132 hX132 hO132 => ?_)
          refine L_region ?_
          refine F_val rfl rfl rfl (O_move rfl rfl) ?_
          refine F_val rfl rfl rfl (O_add rfl rfl rfl) ?_
          obtain ⟨x133, h134, H⟩ := of_bnd H
          refine F_val rfl rfl rfl (O_assign' rfl rfl (congrArg (Value.int .i64) h134)) ?_
          refine F_nil ?_
          refine L_endB hN132 ?_
          refine L_nil (fun a ha => hNp111 _ a _ (Nat.lt_succ_self _) ⟨_, Is.cons ha (Is.cons ha (Is.cons ha (Is.nil ha) rfl) rfl) rfl, HS130.sel [0] rfl, H⟩)
        · have H := of_neg H (by rw [c131]; exact Bool.false_ne_true)
          refine L_exitB (fun a w h => hOp111 (.exit 0) a w rfl (hXb69 a w h)) ?_
          refine L_nil (fun a ha => hNj1 a _ ⟨_, (Option.some.inj H).symm, Is.cons ha (Is.nil ha) rfl, HS130.sel [0] rfl⟩)
  · obtain ⟨m_68, ej, ha, HS136⟩ := hR
    obtain rfl := ej.symm
    refine wpLF_app ?_ ha
    refine L_seq ?_
    refine L_region ?_
    refine F_val rfl rfl rfl (O_move rfl rfl) ?_
    refine F_val rfl rfl rfl (O_assign rfl rfl) ?_
    refine F_nil ?_
    refine L_ret (fun a ha => (post_ret1 ha rfl rfl ?_))
    obtain rfl := Option.some.inj H
    exact ⟨rfl, HS136.sel [] rfl⟩

/-! function 15: valise/valiseref7.lesser -/
theorem valiseref7_lesser.calls {S0 : Nat → Prop} {w0 : World} {a_0 : Int} {b_1 : Int} {r : Int} (HS0 : Hp S0 w0 w0 []) (h : valiseref7_lesser.f a_0 b_1 = some r) :
    Calls Try.prog 15 ([.int .i64 a_0, .int .i64 b_1] : List Value).toArray w0 (fun e w => e = .returned (.int .i64 r) ∧ Hp S0 w0 w []) := by
  have H : ((if a_0 < b_1 then (some a_0) else (some b_1)) : Option (Int)) = some r := h
  refine calls_start Try.func15 rfl rfl ?_
  refine L_seq ?_
  refine L_region ?_
  refine F_val rfl rfl rfl (O_assign rfl rfl) ?_
  refine F_nil ?_
  refine L_seq ?_
  refine L_seq ?_
  refine L_region ?_
  refine F_val rfl rfl rfl (O_move rfl rfl) ?_
  refine F_val rfl rfl rfl (O_move rfl rfl) ?_
  refine F_val rfl rfl rfl (O_lt rfl rfl rfl) ?_
  refine F_nil ?_
  refine L_condP rfl (fun c1 => ?_) (fun c1 => ?_)
  · have H := of_pos H c1
    refine L_seq ?_
    refine L_region ?_
    refine F_val rfl rfl rfl (O_move rfl rfl) ?_
    refine F_val rfl rfl rfl (O_assign rfl rfl) ?_
    refine F_nil ?_
    refine L_ret (fun a ha => (post_ret1 ha rfl rfl ?_))
    obtain rfl := Option.some.inj H
    exact ⟨rfl, HS0.sel [] rfl⟩
  · have H := of_neg H c1
    refine L_skip ?_
    refine L_seq ?_
    refine L_region ?_
    refine F_val rfl rfl rfl (O_move rfl rfl) ?_
    refine F_val rfl rfl rfl (O_assign rfl rfl) ?_
    refine F_nil ?_
    refine L_ret (fun a ha => (post_ret1 ha rfl rfl ?_))
    obtain rfl := Option.some.inj H
    exact ⟨rfl, HS0.sel [] rfl⟩

/-! function 13: valise/valiseref7.run -/
theorem valiseref7_run.calls {S0 : Nat → Prop} {w0 : World} {A_lens_0 : Option Addr} {c_lens_0 : Nat} {l_lens_0 : List Int} {at_1 : Int} {r : (Int × Int)} (HS0 : Hp S0 w0 w0 [.rd A_lens_0 (rowC (Eint .i64) l_lens_0)]) (hc_lens_0 : l_lens_0.length ≤ c_lens_0) (h : valiseref7_run.f l_lens_0 at_1 = some r) :
    Calls Try.prog 13 ([.slice A_lens_0 l_lens_0.length c_lens_0, .int .i64 at_1] : List Value).toArray w0 (fun e w => e = .returned (.agg #[.int .i64 r.1, .int .i64 r.2]) ∧ Hp S0 w0 w []) := by
  have H : ((gd ((0 : Int) ≤ at_1 ∧ at_1 < (l_lens_0.length : Int)) (bnd (rd l_lens_0 at_1) fun x7 => (valiseref7_equals.f l_lens_0 at_1).bind fun z11 => if (x7 = 0) ∧ (11 ≤ z11) then ((valiseref7_lesser.f z11 138).bind fun z22 => some (18, z22)) else (if (x7 = 0) ∧ (3 ≤ z11) then (some (17, z11)) else ((if (x7 ≠ 0) ∧ (0 < at_1) then (gd ((0 : Int) ≤ (IntKind.i64.wrap (at_1 - 1)) ∧ (IntKind.i64.wrap (at_1 - 1)) < (l_lens_0.length : Int)) (some (decide (rd l_lens_0 (IntKind.i64.wrap (at_1 - 1)) = x7)))) else (some false)).bind fun b41 => if (b41 = true) ∧ (3 ≤ z11) then ((valiseref7_lesser.f z11 6).bind fun z55 => some (16, z55)) else (some (x7, 1)))))) : Option ((Int × Int))) = some r := h
  refine calls_start Try.func13 rfl rfl ?_
  refine L_seq ?_
  refine L_region ?_
  refine F_alloc (C := [.int .i64 0, .int .i64 0]) rfl rfl rfl rfl zero35 rfl HS0 (fun w1 g3 HS2 => ?_)
  have HS2 : Hp S0 w0 w1 [.rd A_lens_0 (rowC (Eint .i64) l_lens_0), .box g3 [.int .i64 0, .int .i64 0] 35] := HS2
  refine F_nil ?_
  refine L_seq ?_
  refine L_region ?_
  refine F_val rfl rfl rfl (O_move rfl rfl) ?_
  refine F_val rfl rfl rfl (O_move rfl rfl) ?_
  obtain ⟨⟨g5, g6⟩, H⟩ := of_gd H
  refine F_val rfl rfl rfl (O_idx rfl rfl rfl Try.underlying22 size3 g5 g6 (Cells.isA (HS2.cells_rd (i := 0) rfl) (rowC_ne (E := (Eint .i64)) g5 g6 (by decide)))) ?_
  refine F_val rfl rfl rfl (O_loadC rfl rfl flat3 (HS2.cells_rd (i := 0) rfl) (int_cell g5 g6)) ?_
  obtain ⟨x7, h8, H⟩ := of_bnd H
  refine F_val rfl rfl rfl (O_assign' rfl rfl (congrArg (Value.int .i64) h8)) ?_
  refine F_nil ?_
  refine L_seq ?_
  refine L_region ?_
  refine F_val rfl rfl rfl (O_move rfl rfl) ?_
  refine F_val rfl rfl rfl (O_move rfl rfl) ?_
  obtain ⟨z11, h10, H⟩ := of_bind H
  refine F_qcall (v := .int .i64 z11) (xs := [.tmp 11, .tmp 12]) rfl rfl rfl rfl Try.func14 nm14 rfl rfl ((valiseref7_equals.calls (HS2.give [] rfl (Lent.rd HS2 (Lent.nil) (i := 0) rfl ((HS2.cells_rd (i := 0) rfl).self))) hc_lens_0 h10).mono (fun e w hc => ?_)) (fun w12 hw13 => ?_)
  · obtain ⟨rfl, h⟩ := hc
    exact ⟨rfl, h.chg0⟩
  have HS14 := HS2.keep hw13
  refine F_val rfl rfl rfl (O_assign rfl rfl) ?_
  refine F_nil ?_
  refine L_seq ?_
  refine L_seq ?_
  refine L_region ?_
  refine F_val rfl rfl rfl (O_move rfl rfl) ?_
  refine F_val rfl rfl rfl (O_eq rfl rfl rfl) ?_
  refine F_val rfl rfl rfl (O_move rfl rfl) ?_
  refine F_grp 3 [(19, .bool (decide ((x7 = 0) ∧ (11 ≤ z11)))), (0, .slice A_lens_0 l_lens_0.length c_lens_0), (1, .int .i64 at_1), (4, .pointer (some ⟨g3, 0, none⟩)), (5, .int .i64 x7), (6, .int .i64 z11)] ?_ ?_
  · rcases Decidable.em (x7 = 0) with c18 | c18
    · refine F_know (i := 16) rfl (dec_t c18) ?_
      refine F_gval rfl rfl rfl rfl rfl rfl (O_move rfl rfl) ?_
      refine F_gval rfl rfl rfl rfl rfl rfl (O_ge rfl rfl rfl) ?_
      refine F_val rfl rfl rfl (O_pickT rfl rfl rfl) ?_
      refine F_know (i := 19) rfl (dec_and_t (q := 11 ≤ z11) c18) ?_
      exact F_grpE (fun a ha => Is.cons ha (Is.cons ha (Is.cons ha (Is.cons ha (Is.cons ha (Is.cons ha (Is.nil ha) rfl) rfl) rfl) rfl) rfl) rfl)
    · refine F_know (i := 16) rfl (dec_f c18) ?_
      refine F_gskip rfl rfl rfl rfl rfl rfl rfl ?_
      refine F_gskip rfl rfl rfl rfl rfl rfl rfl ?_
      refine F_val rfl rfl rfl (O_pickF rfl rfl rfl) ?_
      refine F_know (i := 19) rfl (dec_and_f (q := 11 ≤ z11) c18) ?_
      exact F_grpE (fun a ha => Is.cons ha (Is.cons ha (Is.cons ha (Is.cons ha (Is.cons ha (Is.cons ha (Is.nil ha) rfl) rfl) rfl) rfl) rfl) rfl)
  · skip
    refine F_nil ?_
    refine L_condP rfl (fun c19 => ?_) (fun c19 => ?_)
    · have H := of_pos H c19
      refine L_seq ?_
      refine L_region ?_
      refine F_val rfl rfl rfl (O_move rfl rfl) ?_
      obtain ⟨z22, h21, H⟩ := of_bind H
      refine F_qcall (v := .int .i64 z22) (xs := [.tmp 20, .const (.int .i64 138)]) rfl rfl rfl rfl Try.func15 nm15 rfl rfl ((valiseref7_lesser.calls (HS14.give [] rfl (Lent.nil)) h21).mono (fun e w hc => ?_)) (fun w23 hw24 => ?_)
      · obtain ⟨rfl, h⟩ := hc
        exact ⟨rfl, h.chg0⟩
      have HS25 := HS14.keep hw24
      refine F_val rfl rfl rfl (O_build (vs := [(0, .int .i64 18), (1, .int .i64 z22)]) (v := .agg #[.int .i64 18, .int .i64 z22]) rfl rfl rfl (fun w => by kernel_rfl)) ?_
      refine F_stB 1 ([.int .i64 18, .int .i64 z22]) rfl rfl rfl rfl rfl size35 HS25 rfl rfl rfl rfl rfl (fun w26 HS27 => ?_)
      have HS27 : Hp S0 w0 w26 [.rd A_lens_0 (rowC (Eint .i64) l_lens_0), .box g3 [.int .i64 18, .int .i64 z22] 35] := HS27
      refine F_nil ?_
      refine L_ret (fun a ha => (post_retc1 ha rfl rfl wide35 (HS27.cells_box (i := 1) rfl) rfl (by decide) ?_))
      obtain rfl := Option.some.inj H
      exact ⟨rfl, HS27.sel [] rfl⟩
    · have H := of_neg H c19
      refine L_skip ?_
      refine L_seq ?_
      refine L_seq ?_
      refine L_region ?_
      refine F_val rfl rfl rfl (O_move rfl rfl) ?_
      refine F_val rfl rfl rfl (O_eq rfl rfl rfl) ?_
      refine F_val rfl rfl rfl (O_move rfl rfl) ?_
      refine F_grp 3 [(28, .bool (decide ((x7 = 0) ∧ (3 ≤ z11)))), (0, .slice A_lens_0 l_lens_0.length c_lens_0), (1, .int .i64 at_1), (4, .pointer (some ⟨g3, 0, none⟩)), (5, .int .i64 x7), (6, .int .i64 z11)] ?_ ?_
      · rcases Decidable.em (x7 = 0) with c31 | c31
        · refine F_know (i := 25) rfl (dec_t c31) ?_
          refine F_gval rfl rfl rfl rfl rfl rfl (O_move rfl rfl) ?_
          refine F_gval rfl rfl rfl rfl rfl rfl (O_ge rfl rfl rfl) ?_
          refine F_val rfl rfl rfl (O_pickT rfl rfl rfl) ?_
          refine F_know (i := 28) rfl (dec_and_t (q := 3 ≤ z11) c31) ?_
          exact F_grpE (fun a ha => Is.cons ha (Is.cons ha (Is.cons ha (Is.cons ha (Is.cons ha (Is.cons ha (Is.nil ha) rfl) rfl) rfl) rfl) rfl) rfl)
        · refine F_know (i := 25) rfl (dec_f c31) ?_
          refine F_gskip rfl rfl rfl rfl rfl rfl rfl ?_
          refine F_gskip rfl rfl rfl rfl rfl rfl rfl ?_
          refine F_val rfl rfl rfl (O_pickF rfl rfl rfl) ?_
          refine F_know (i := 28) rfl (dec_and_f (q := 3 ≤ z11) c31) ?_
          exact F_grpE (fun a ha => Is.cons ha (Is.cons ha (Is.cons ha (Is.cons ha (Is.cons ha (Is.cons ha (Is.nil ha) rfl) rfl) rfl) rfl) rfl) rfl)
      · skip
        refine F_nil ?_
        refine L_condP rfl (fun c32 => ?_) (fun c32 => ?_)
        · have H := of_pos H c32
          refine L_seq ?_
          refine L_region ?_
          refine F_val rfl rfl rfl (O_move rfl rfl) ?_
          refine F_val rfl rfl rfl (O_build (vs := [(0, .int .i64 17), (1, .int .i64 z11)]) (v := .agg #[.int .i64 17, .int .i64 z11]) rfl rfl rfl (fun w => by kernel_rfl)) ?_
          refine F_stB 1 ([.int .i64 17, .int .i64 z11]) rfl rfl rfl rfl rfl size35 HS14 rfl rfl rfl rfl rfl (fun w33 HS34 => ?_)
          have HS34 : Hp S0 w0 w33 [.rd A_lens_0 (rowC (Eint .i64) l_lens_0), .box g3 [.int .i64 17, .int .i64 z11] 35] := HS34
          refine F_nil ?_
          refine L_ret (fun a ha => (post_retc1 ha rfl rfl wide35 (HS34.cells_box (i := 1) rfl) rfl (by decide) ?_))
          obtain rfl := Option.some.inj H
          exact ⟨rfl, HS34.sel [] rfl⟩
        · have H := of_neg H c32
          refine L_skip ?_
          refine L_seq ?_
          refine L_seq ?_
          refine L_region ?_
          refine F_val rfl rfl rfl (O_move rfl rfl) ?_
          refine F_val rfl rfl rfl (O_ne rfl rfl rfl) ?_
          refine F_val rfl rfl rfl (O_move rfl rfl) ?_
          refine F_grp 3 [(36, .bool (decide ((x7 ≠ 0) ∧ (0 < at_1)))), (0, .slice A_lens_0 l_lens_0.length c_lens_0), (1, .int .i64 at_1), (4, .pointer (some ⟨g3, 0, none⟩)), (5, .int .i64 x7), (6, .int .i64 z11)] ?_ ?_
          · rcases Decidable.em (x7 ≠ 0) with c38 | c38
            · refine F_know (i := 33) rfl (dec_t c38) ?_
              refine F_gval rfl rfl rfl rfl rfl rfl (O_move rfl rfl) ?_
              refine F_gval rfl rfl rfl rfl rfl rfl (O_gt rfl rfl rfl) ?_
              refine F_val rfl rfl rfl (O_pickT rfl rfl rfl) ?_
              refine F_know (i := 36) rfl (dec_and_t (q := 0 < at_1) c38) ?_
              exact F_grpE (fun a ha => Is.cons ha (Is.cons ha (Is.cons ha (Is.cons ha (Is.cons ha (Is.cons ha (Is.nil ha) rfl) rfl) rfl) rfl) rfl) rfl)
            · refine F_know (i := 33) rfl (dec_f c38) ?_
              refine F_gskip rfl rfl rfl rfl rfl rfl rfl ?_
              refine F_gskip rfl rfl rfl rfl rfl rfl rfl ?_
              refine F_val rfl rfl rfl (O_pickF rfl rfl rfl) ?_
              refine F_know (i := 36) rfl (dec_and_f (q := 0 < at_1) c38) ?_
              exact F_grpE (fun a ha => Is.cons ha (Is.cons ha (Is.cons ha (Is.cons ha (Is.cons ha (Is.cons ha (Is.nil ha) rfl) rfl) rfl) rfl) rfl) rfl)
          · skip
            refine F_val rfl rfl rfl (O_move rfl rfl) ?_
            obtain ⟨b41, Hb41, H⟩ := of_bind H
            refine F_grp 8 [(45, .bool b41), (4, .pointer (some ⟨g3, 0, none⟩)), (5, .int .i64 x7), (6, .int .i64 z11)] ?_ ?_
            · rcases Decidable.em ((x7 ≠ 0) ∧ (0 < at_1)) with c45 | c45
              · refine F_know (i := 37) rfl (dec_t c45) ?_
                have H := of_pos Hb41 c45
                refine F_gval rfl rfl rfl rfl rfl rfl (O_move rfl rfl) ?_
                refine F_gval rfl rfl rfl rfl rfl rfl (O_move rfl rfl) ?_
                refine F_gval rfl rfl rfl rfl rfl rfl (O_sub rfl rfl rfl) ?_
                obtain ⟨⟨g46, g47⟩, H⟩ := of_gd H
                refine F_gval rfl rfl rfl rfl rfl rfl (O_idx rfl rfl rfl Try.underlying22 size3 g46 g47 (Cells.isA (HS14.cells_rd (i := 0) rfl) (rowC_ne (E := (Eint .i64)) g46 g47 (by decide)))) ?_
                refine F_gval rfl rfl rfl rfl rfl rfl (O_loadC rfl rfl flat3 (HS14.cells_rd (i := 0) rfl) (int_cell g46 g47)) ?_
                refine F_gval rfl rfl rfl rfl rfl rfl (O_move rfl rfl) ?_
                refine F_gval rfl rfl rfl rfl rfl rfl (O_eq rfl rfl rfl) ?_
                refine F_val rfl rfl rfl (O_pickT rfl rfl rfl) ?_
                refine F_know (i := 45) rfl (congrArg Value.bool (Option.some.inj H)) ?_
                exact F_grpE (fun a ha => Is.cons ha (Is.cons ha (Is.cons ha (Is.cons ha (Is.nil ha) rfl) rfl) rfl) rfl)
              · refine F_know (i := 37) rfl (dec_f c45) ?_
                have H := of_neg Hb41 c45
                refine F_gskip rfl rfl rfl rfl rfl rfl rfl ?_
                refine F_gskip rfl rfl rfl rfl rfl rfl rfl ?_
                refine F_gskip rfl rfl rfl rfl rfl rfl rfl ?_
                refine F_gskip rfl rfl rfl rfl rfl rfl rfl ?_
                refine F_gskip rfl rfl rfl rfl rfl rfl rfl ?_
                refine F_gskip rfl rfl rfl rfl rfl rfl rfl ?_
                refine F_gskip rfl rfl rfl rfl rfl rfl rfl ?_
                refine F_val rfl rfl rfl (O_pickF rfl rfl rfl) ?_
                refine F_know (i := 45) rfl (congrArg Value.bool (Option.some.inj H)) ?_
                exact F_grpE (fun a ha => Is.cons ha (Is.cons ha (Is.cons ha (Is.cons ha (Is.nil ha) rfl) rfl) rfl) rfl)
            · skip
              refine F_val rfl rfl rfl (O_move rfl rfl) ?_
              refine F_grp 3 [(49, .bool (decide ((b41 = true) ∧ (3 ≤ z11)))), (4, .pointer (some ⟨g3, 0, none⟩)), (5, .int .i64 x7), (6, .int .i64 z11)] ?_ ?_
              · rcases Decidable.em (b41 = true) with c51 | c51
                · refine F_know (i := 46) rfl (congrArg Value.bool c51) ?_
                  refine F_gval rfl rfl rfl rfl rfl rfl (O_move rfl rfl) ?_
                  refine F_gval rfl rfl rfl rfl rfl rfl (O_ge rfl rfl rfl) ?_
                  refine F_val rfl rfl rfl (O_pickT rfl rfl rfl) ?_
                  refine F_know (i := 49) rfl (dec_and_t (q := 3 ≤ z11) c51) ?_
                  exact F_grpE (fun a ha => Is.cons ha (Is.cons ha (Is.cons ha (Is.cons ha (Is.nil ha) rfl) rfl) rfl) rfl)
                · refine F_know (i := 46) rfl (congrArg Value.bool (Bool.eq_false_iff.mpr c51)) ?_
                  refine F_gskip rfl rfl rfl rfl rfl rfl rfl ?_
                  refine F_gskip rfl rfl rfl rfl rfl rfl rfl ?_
                  refine F_val rfl rfl rfl (O_pickF rfl rfl rfl) ?_
                  refine F_know (i := 49) rfl (dec_and_f (q := 3 ≤ z11) c51) ?_
                  exact F_grpE (fun a ha => Is.cons ha (Is.cons ha (Is.cons ha (Is.cons ha (Is.nil ha) rfl) rfl) rfl) rfl)
              · skip
                refine F_nil ?_
                refine L_condP rfl (fun c52 => ?_) (fun c52 => ?_)
                · have H := of_pos H c52
                  refine L_seq ?_
                  refine L_region ?_
                  refine F_val rfl rfl rfl (O_move rfl rfl) ?_
                  obtain ⟨z55, h54, H⟩ := of_bind H
                  refine F_qcall (v := .int .i64 z55) (xs := [.tmp 50, .const (.int .i64 6)]) rfl rfl rfl rfl Try.func15 nm15 rfl rfl ((valiseref7_lesser.calls (HS14.give [] rfl (Lent.nil)) h54).mono (fun e w hc => ?_)) (fun w56 hw57 => ?_)
                  · obtain ⟨rfl, h⟩ := hc
                    exact ⟨rfl, h.chg0⟩
                  have HS58 := HS14.keep hw57
                  refine F_val rfl rfl rfl (O_build (vs := [(0, .int .i64 16), (1, .int .i64 z55)]) (v := .agg #[.int .i64 16, .int .i64 z55]) rfl rfl rfl (fun w => by kernel_rfl)) ?_
                  refine F_stB 1 ([.int .i64 16, .int .i64 z55]) rfl rfl rfl rfl rfl size35 HS58 rfl rfl rfl rfl rfl (fun w59 HS60 => ?_)
                  have HS60 : Hp S0 w0 w59 [.rd A_lens_0 (rowC (Eint .i64) l_lens_0), .box g3 [.int .i64 16, .int .i64 z55] 35] := HS60
                  refine F_nil ?_
                  refine L_ret (fun a ha => (post_retc1 ha rfl rfl wide35 (HS60.cells_box (i := 1) rfl) rfl (by decide) ?_))
                  obtain rfl := Option.some.inj H
                  exact ⟨rfl, HS60.sel [] rfl⟩
                · have H := of_neg H c52
                  refine L_skip ?_
                  refine L_seq ?_
                  refine L_region ?_
                  refine F_val rfl rfl rfl (O_move rfl rfl) ?_
                  refine F_val rfl rfl rfl (O_build (vs := [(0, .int .i64 x7), (1, .int .i64 1)]) (v := .agg #[.int .i64 x7, .int .i64 1]) rfl rfl rfl (fun w => by kernel_rfl)) ?_
                  refine F_stB 1 ([.int .i64 x7, .int .i64 1]) rfl rfl rfl rfl rfl size35 HS14 rfl rfl rfl rfl rfl (fun w61 HS62 => ?_)
                  have HS62 : Hp S0 w0 w61 [.rd A_lens_0 (rowC (Eint .i64) l_lens_0), .box g3 [.int .i64 x7, .int .i64 1] 35] := HS62
                  refine F_nil ?_
                  refine L_ret (fun a ha => (post_retc1 ha rfl rfl wide35 (HS62.cells_box (i := 1) rfl) rfl (by decide) ?_))
                  obtain rfl := Option.some.inj H
                  exact ⟨rfl, HS62.sel [] rfl⟩

/-! function 6: valise/valiseref7.Runs -/
theorem valiseref7_Runs.calls {S0 : Nat → Prop} {w0 : World} {A_lens_0 : Option Addr} {c_lens_0 : Nat} {l_lens_0 : List Int} {r : List (Int × Int) × Int} (HS0 : Hp S0 w0 w0 [.rd A_lens_0 (rowC (Eint .i64) l_lens_0)]) (hc_lens_0 : l_lens_0.length ≤ c_lens_0) (h : valiseref7_Runs.f l_lens_0 = some r) :
    Calls Try.prog 6 ([.slice A_lens_0 l_lens_0.length c_lens_0] : List Value).toArray w0 (fun e w => ∃ (A1 : Option Addr), ∃ (c1 : Nat), e = .returned (.tuple #[.slice A1 r.1.length c1, .int .i64 r.2]) ∧ Hp S0 w0 w [.own A1 c1 (rowC E_api_Run r.1) 35 E_api_Run.sz]) := by
  have H : (((valiseref7_lengths.f l_lens_0).bind fun z3 => if (!z3) = true then (some (([] : List (Int × Int)), 1)) else ((valiseref7_Runs.l1 FU ([] : List (Int × Int)) 0 l_lens_0).bind fun l117 => some (l117, 0))) : Option (List (Int × Int) × Int)) = some r := h
  refine calls_start Try.func6 rfl rfl ?_
  refine L_seq ?_
  refine L_region ?_
  refine F_val rfl rfl rfl (O_assign rfl rfl) ?_
  refine F_val rfl rfl rfl (O_assign rfl rfl) ?_
  refine F_nil ?_
  refine L_seq ?_
  refine L_region ?_
  refine F_val rfl rfl rfl (O_move rfl rfl) ?_
  obtain ⟨z3, h2, H⟩ := of_bind H
  refine F_qcall (v := .bool z3) (xs := [.tmp 8]) rfl rfl rfl rfl Try.func12 nm12 rfl rfl ((valiseref7_lengths.calls (HS0.give [] rfl (Lent.rd HS0 (Lent.nil) (i := 0) rfl ((HS0.cells_rd (i := 0) rfl).self))) hc_lens_0 h2).mono (fun e w hc => ?_)) (fun w4 hw5 => ?_)
  · obtain ⟨rfl, h⟩ := hc
    exact ⟨rfl, h.chg0⟩
  have HS6 := HS0.keep hw5
  refine F_val rfl rfl rfl (O_assign rfl rfl) ?_
  refine F_nil ?_
  refine L_seq ?_
  refine L_seq ?_
  refine L_region ?_
  refine F_val rfl rfl rfl (O_move rfl rfl) ?_
  refine F_val rfl rfl rfl (O_notb rfl rfl) ?_
  refine F_nil ?_
  refine L_cond rfl (fun c7 => ?_) (fun c7 => ?_)
  · have H := of_pos H c7
    refine L_seq ?_
    refine L_region ?_
    refine F_val rfl rfl rfl (O_assign rfl rfl) ?_
    refine F_val rfl rfl rfl (O_assign rfl rfl) ?_
    refine F_nil ?_
    have HS8 := HS6.addNil 35 E_api_Run.sz
    refine L_ret (fun a ha => (post_ret2 ha rfl rfl rfl ?_))
    obtain rfl := Option.some.inj H
    exact ⟨_, _, rfl, HS8.sel [1] rfl⟩
  · have H := of_neg H (by rw [c7]; exact Bool.false_ne_true)
    refine L_skip ?_
    refine L_seq ?_
    refine L_region ?_
    refine F_val rfl rfl rfl (O_assign rfl rfl) ?_
    have HS10 := HS6.addNil 35 E_api_Run.sz
    have HS10 : Hp S0 w0 w4 [.rd A_lens_0 (rowC (Eint .i64) l_lens_0), .own none 0 (rowC E_api_Run ([] : List (Int × Int))) 35 E_api_Run.sz] := HS10
    refine F_nil ?_
    refine L_seq ?_
    refine L_seq ?_
    refine L_region ?_
    refine F_val rfl rfl rfl (O_assign rfl rfl) ?_
    refine F_nil ?_
    obtain ⟨yj12, Hyj12, H⟩ := of_bind H
    refine L_join (fun a w => ∃ (l117 : List (Int × Int)), ∃ (A115 : Option Addr), ∃ (c116 : Nat), yj12 = l117 ∧ Is Try.f6.ntmps a [(5, .slice A115 l117.length c116)] ∧ Hp S0 w0 w [.rd A_lens_0 (rowC (Eint .i64) l_lens_0), .own A115 c116 (rowC E_api_Run l117) 35 E_api_Run.sz]) (fun Qj12 hNj12 hOj12 => ?_) (fun a w hR => ?_)
    · skip
      have H := Hyj12
      refine L_blk (fun Qb118 hNb118 hXb118 hOb118 => ?_)
      refine L_lp (fun k a w => ∃ (l186 : List (Int × Int)), ∃ (at_187 : Int), ∃ (A184 : Option Addr), ∃ (c185 : Nat), Is Try.f6.ntmps a [(0, .slice A_lens_0 l_lens_0.length c_lens_0), (5, .slice A184 l186.length c185), (6, .int .i64 at_187)] ∧ Hp S0 w0 w [.rd A_lens_0 (rowC (Eint .i64) l_lens_0), .own A184 c185 (rowC E_api_Run l186) 35 E_api_Run.sz] ∧ valiseref7_Runs.l1 k l186 at_187 l_lens_0 = some yj12) FU (fun a ha => ⟨_, _, _, _, Is.cons ha (Is.cons ha (Is.cons ha (Is.nil ha) rfl) rfl) rfl, HS10.sel [0, 1] rfl, H⟩) (fun kp183 a w188 hI Qp183 hNp183 hOp183 => ?_)
      obtain ⟨l186, at_187, A184, c185, ha, HS189, HAp183⟩ := hI
      cases kp183 with
      | zero => cases (show (none : Option _) = some _ from HAp183)
      | succ kp183 =>
        have H := (valiseref7_Runs.l1.eq_2 ..).symm.trans HAp183
        refine wpLF_app ?_ ha
        refine L_seq ?_
        refine L_seq ?_
        refine L_region ?_
        refine F_val rfl rfl rfl (O_move rfl rfl) ?_
        refine F_val rfl rfl rfl (O_move rfl rfl) ?_
        refine F_val rfl rfl rfl (O_len rfl rfl Try.underlying22) ?_
        refine F_val rfl rfl rfl (O_lt rfl rfl rfl) ?_
        refine F_nil ?_
        refine L_condP rfl (fun c190 => ?_) (fun c190 => ?_)
        · have H := of_pos H c190
          refine L_skip ?_
          refine L_blk (fun Q191 hN191 hX191 hO191 => ?_)
          refine L_seq ?_
          refine L_region ?_
          refine F_val rfl rfl rfl (O_move rfl rfl) ?_
          refine F_val rfl rfl rfl (O_move rfl rfl) ?_
          obtain ⟨⟨z196, z197⟩, h195, H⟩ := of_bind H
          refine F_call (xs := [.tmp 16, .tmp 17]) rfl rfl rfl rfl Try.func13 nm13 rfl rfl ((valiseref7_run.calls (HS189.give [] rfl (Lent.rd HS189 (Lent.nil) (i := 0) rfl ((HS189.cells_rd (i := 0) rfl).self))) hc_lens_0 h195).mono (fun e w hc => ?_))
          obtain ⟨rfl, HSo⟩ := hc
          refine ⟨.agg #[.int .i64 z196, .int .i64 z197], rfl, ?_⟩
          have HS199 : Hp S0 w0 w [.rd A_lens_0 (rowC (Eint .i64) l_lens_0), .own A184 c185 (rowC E_api_Run l186) 35 E_api_Run.sz] := (HS189.back [] HSo rfl).sel [0, 1] rfl
          refine F_alloc (C := [.int .i64 0, .int .i64 0]) rfl rfl rfl rfl zero35 rfl HS199 (fun w200 g202 HS201 => ?_)
          have HS201 : Hp S0 w0 w200 [.rd A_lens_0 (rowC (Eint .i64) l_lens_0), .own A184 c185 (rowC E_api_Run l186) 35 E_api_Run.sz, .box g202 [.int .i64 0, .int .i64 0] 35] := HS201
          refine F_stB 2 ([.int .i64 z196, .int .i64 z197]) rfl rfl rfl rfl rfl size35 HS201 rfl rfl rfl rfl rfl (fun w204 HS205 => ?_)
          have HS205 : Hp S0 w0 w204 [.rd A_lens_0 (rowC (Eint .i64) l_lens_0), .own A184 c185 (rowC E_api_Run l186) 35 E_api_Run.sz, .box g202 [.int .i64 z196, .int .i64 z197] 35] := HS205
          refine F_nil ?_
          refine L_seq ?_
          refine L_region ?_
          refine F_val rfl rfl rfl (O_move rfl rfl) ?_
          refine F_val rfl rfl rfl (O_loadWB' (k := 0) (vs := [.int .i64 z196, .int .i64 z197]) rfl rfl wide35 (HS205.cells_box (i := 2) rfl) rfl rfl (by simp)) ?_
          refine F_litE (E := E_api_Run) (e := 35) [(0, .agg #[.int .i64 z196, .int .i64 z197])] [(z196, z197)] rfl rfl rfl rfl rfl rfl rfl (by decide) (fun w => by kernel_rfl) HS205 (fun w206 A208 c209 HS207 => ?_)
          have HS207 : Hp S0 w0 w206 [.rd A_lens_0 (rowC (Eint .i64) l_lens_0), .own A184 c185 (rowC E_api_Run l186) 35 E_api_Run.sz, .box g202 [.int .i64 z196, .int .i64 z197] 35, .own A208 c209 (rowC E_api_Run [(z196, z197)]) 35 E_api_Run.sz] := HS207
          obtain ⟨l213, h214, H⟩ := of_bnd H
          obtain ⟨g215, H⟩ := of_gd H
          refine F_appE (E := E_api_Run) (xs := l186) (ys := [(z196, z197)]) (i := 1) rfl rfl rfl rfl Try.underlying24 info35 rfl (by decide) (by decide) rfl rfl HS207 rfl (HS207.cells_own (i := 3) rfl) h214 g215 (fun w211 A216 c217 HS212 => ?_)
          have HS212 : Hp S0 w0 w211 [.rd A_lens_0 (rowC (Eint .i64) l_lens_0), .own A216 c217 (rowC E_api_Run l213) 35 E_api_Run.sz, .box g202 [.int .i64 z196, .int .i64 z197] 35, .own A208 c209 (rowC E_api_Run [(z196, z197)]) 35 E_api_Run.sz] := HS212
          refine F_val rfl rfl rfl (O_assign rfl rfl) ?_
          refine F_nil ?_
          refine L_region ?_
          refine F_val rfl rfl rfl (O_move rfl rfl) ?_
          refine F_val rfl rfl rfl (O_fieldB rfl rfl field35_1) ?_
          refine F_val rfl rfl rfl (O_loadB rfl rfl flat3 (HS212.cells_box (i := 2) rfl) rfl) ?_
          refine F_val rfl rfl rfl (O_add rfl rfl rfl) ?_
          obtain ⟨x218, h219, H⟩ := of_bnd H
          refine F_val rfl rfl rfl (O_assign' rfl rfl (congrArg (Value.int .i64) h219)) ?_
          refine F_nil ?_
          refine L_endB hN191 ?_
          refine L_nil (fun a ha => hNp183 _ a _ (Nat.lt_succ_self _) ⟨_, _, _, _, Is.cons ha (Is.cons ha (Is.cons ha (Is.nil ha) rfl) rfl) rfl, HS212.sel [0, 1] rfl, H⟩)
        · have H := of_neg H c190
          refine L_exitB (fun a w h => hOp183 (.exit 0) a w rfl (hXb118 a w h)) ?_
          refine L_nil (fun a ha => hNj12 a _ ⟨_, _, _, (Option.some.inj H).symm, Is.cons ha (Is.nil ha) rfl, HS189.sel [0, 1] rfl⟩)
    · obtain ⟨l117, A115, c116, ej, ha, HS221⟩ := hR
      obtain rfl := ej.symm
      refine wpLF_app ?_ ha
      refine L_seq ?_
      refine L_region ?_
      refine F_val rfl rfl rfl (O_move rfl rfl) ?_
      refine F_val rfl rfl rfl (O_assign rfl rfl) ?_
      refine F_val rfl rfl rfl (O_assign rfl rfl) ?_
      refine F_nil ?_
      refine L_ret (fun a ha => (post_ret2 ha rfl rfl rfl ?_))
      obtain rfl := Option.some.inj H
      exact ⟨_, _, rfl, HS221.sel [1] rfl⟩

/-! function 7: valise/valiselaw7.num -/
theorem valiselaw7_num.calls {S0 : Nat → Prop} {w0 : World} {e_0 : Int} {r : Int} (HS0 : Hp S0 w0 w0 []) (h : valiselaw7_num.f e_0 = some r) :
    Calls Try.prog 7 ([.int .i64 e_0] : List Value).toArray w0 (fun e w => e = .returned (.int .i64 r) ∧ Hp S0 w0 w []) := by
  have H : ((some e_0) : Option (Int)) = some r := h
  refine calls_start Try.func7 rfl rfl ?_
  refine L_seq ?_
  refine L_region ?_
  refine F_val rfl rfl rfl (O_assign rfl rfl) ?_
  refine F_nil ?_
  refine L_seq ?_
  refine L_region ?_
  refine F_val rfl rfl rfl (O_move rfl rfl) ?_
  refine F_val rfl rfl rfl (O_assign rfl rfl) ?_
  refine F_nil ?_
  refine L_ret (fun a ha => (post_ret1 ha rfl rfl ?_))
  obtain rfl := Option.some.inj H
  exact ⟨rfl, HS0.sel [] rfl⟩

/-! function 8: valise/valiselaw7.alike -/
theorem valiselaw7_alike.calls {S0 : Nat → Prop} {w0 : World} {A_a_0 : Option Addr} {c_a_0 : Nat} {A_b_1 : Option Addr} {c_b_1 : Nat} {l_a_0 : List (Int × Int)} {l_b_1 : List (Int × Int)} {r : Bool} (HS0 : Hp S0 w0 w0 [.rd A_a_0 (rowC E_api_Run l_a_0), .rd A_b_1 (rowC E_api_Run l_b_1)]) (hc_a_0 : l_a_0.length ≤ c_a_0) (hc_b_1 : l_b_1.length ≤ c_b_1) (h : valiselaw7_alike.f l_a_0 l_b_1 = some r) :
    Calls Try.prog 8 ([.slice A_a_0 l_a_0.length c_a_0, .slice A_b_1 l_b_1.length c_b_1] : List Value).toArray w0 (fun e w => e = .returned (.bool r) ∧ Hp S0 w0 w []) := by
  have H : ((if (l_a_0.length : Int) ≠ (l_b_1.length : Int) then (some false) else ((valiselaw7_alike.l1 FU 0 l_a_0 l_b_1).bind fun (yj2 : Sum (Bool) (Unit)) => onR yj2 (fun r => some r) fun () => some true)) : Option (Bool)) = some r := h
  refine calls_start Try.func8 rfl rfl ?_
  refine L_seq ?_
  refine L_region ?_
  refine F_val rfl rfl rfl (O_assign rfl rfl) ?_
  refine F_nil ?_
  refine L_seq ?_
  refine L_seq ?_
  refine L_region ?_
  refine F_val rfl rfl rfl (O_move rfl rfl) ?_
  refine F_val rfl rfl rfl (O_len rfl rfl Try.underlying24) ?_
  refine F_val rfl rfl rfl (O_move rfl rfl) ?_
  refine F_val rfl rfl rfl (O_len rfl rfl Try.underlying24) ?_
  refine F_val rfl rfl rfl (O_ne rfl rfl rfl) ?_
  refine F_nil ?_
  refine L_condP rfl (fun c1 => ?_) (fun c1 => ?_)
  · have H := of_pos H c1
    refine L_seq ?_
    refine L_region ?_
    refine F_val rfl rfl rfl (O_assign rfl rfl) ?_
    refine F_nil ?_
    refine L_ret (fun a ha => (post_ret1 ha rfl rfl ?_))
    obtain rfl := Option.some.inj H
    exact ⟨rfl, HS0.sel [] rfl⟩
  · have H := of_neg H c1
    refine L_skip ?_
    refine L_seq ?_
    refine L_seq ?_
    refine L_region ?_
    refine F_val rfl rfl rfl (O_assign rfl rfl) ?_
    refine F_nil ?_
    obtain ⟨yj2, Hyj2, H⟩ := of_bind H
    refine L_join (fun a w => yj2 = Sum.inr () ∧ Is Try.f8.ntmps a [] ∧ Hp S0 w0 w [.rd A_a_0 (rowC E_api_Run l_a_0), .rd A_b_1 (rowC E_api_Run l_b_1)]) (fun Qj2 hNj2 hOj2 => ?_) (fun a w hR => ?_)
    · have HOj2 := H
      have H := Hyj2
      refine L_blk (fun Qb45 hNb45 hXb45 hOb45 => ?_)
      refine L_lp (fun k a w => ∃ (i_72 : Int), Is Try.f8.ntmps a [(0, .slice A_a_0 l_a_0.length c_a_0), (1, .slice A_b_1 l_b_1.length c_b_1), (5, .int .i64 i_72)] ∧ Hp S0 w0 w [.rd A_a_0 (rowC E_api_Run l_a_0), .rd A_b_1 (rowC E_api_Run l_b_1)] ∧ valiselaw7_alike.l1 k i_72 l_a_0 l_b_1 = some yj2) FU (fun a ha => ⟨_, Is.cons ha (Is.cons ha (Is.cons ha (Is.nil ha) rfl) rfl) rfl, HS0.sel [0, 1] rfl, H⟩) (fun kp71 a w73 hI Qp71 hNp71 hOp71 => ?_)
      obtain ⟨i_72, ha, HS74, HAp71⟩ := hI
      cases kp71 with
      | zero => cases (show (none : Option _) = some _ from HAp71)
      | succ kp71 =>
        have H := (valiselaw7_alike.l1.eq_2 ..).symm.trans HAp71
        refine wpLF_app ?_ ha
        refine L_seq ?_
        refine L_seq ?_
        refine L_region ?_
        refine F_val rfl rfl rfl (O_move rfl rfl) ?_
        refine F_val rfl rfl rfl (O_move rfl rfl) ?_
        refine F_val rfl rfl rfl (O_len rfl rfl Try.underlying24) ?_
        refine F_val rfl rfl rfl (O_lt rfl rfl rfl) ?_
        refine F_nil ?_
        refine L_condP rfl (fun c75 => ?_) (fun c75 => ?_)
        · have H := of_pos H c75
          refine L_skip ?_
          refine L_seq ?_
          refine L_blk (fun Q76 hN76 hX76 hO76 => ?_)
          refine L_seq ?_
          refine L_quiet mix (by kernel_rfl) ?_
          refine Q_val rfl rfl rfl (fun wq hq => O_move rfl rfl) ?_
          refine Q_val rfl rfl rfl (fun wq hq => O_move rfl rfl) ?_
          obtain ⟨⟨g77, g78⟩, H⟩ := of_gd H
          refine Q_val rfl rfl rfl (fun wq hq => O_idx rfl rfl rfl Try.underlying24 size35 g77 g78 (Cells.isA ((HS74.keep hq).cells_rd (i := 0) rfl) (rowC_ne (E := E_api_Run) g77 g78 (by decide)))) ?_
          refine Q_val rfl rfl rfl (fun wq hq => O_loadEl (E := E_api_Run) rfl rfl wide35 ((HS74.keep hq).cells_rd (i := 0) rfl) g77 g78 (by decide)) ?_
          refine Q_val rfl rfl rfl (fun wq hq => O_move rfl rfl) ?_
          refine Q_val rfl rfl rfl (fun wq hq => O_move rfl rfl) ?_
          obtain ⟨⟨g79, g80⟩, H⟩ := of_gd H
          refine Q_val rfl rfl rfl (fun wq hq => O_idx rfl rfl rfl Try.underlying24 size35 g79 g80 (Cells.isA ((HS74.keep hq).cells_rd (i := 1) rfl) (rowC_ne (E := E_api_Run) g79 g80 (by decide)))) ?_
          refine Q_val rfl rfl rfl (fun wq hq => O_loadEl (E := E_api_Run) rfl rfl wide35 ((HS74.keep hq).cells_rd (i := 1) rfl) g79 g80 (by decide)) ?_
          refine Q_val rfl rfl rfl (fun wq hq => O_ane (p := (((rdx E_api_Run l_a_0 i_72).1) = ((rdx E_api_Run l_b_1 i_72).1)) ∧ (((rdx E_api_Run l_a_0 i_72).2) = ((rdx E_api_Run l_b_1 i_72).2))) rfl rfl rfl Try.underlying35 stood35 eqg35 (eqF_int rfl Try.underlying3 rfl rfl (eqF_int1 rfl Try.underlying3 rfl rfl))) ?_
          refine Q_nil (fun w81 hw82 => ?_)
          have HS83 := HS74.keep hw82
          refine L_condP rfl (fun c84 => ?_) (fun c84 => ?_)
          · have H := of_pos H c84
            refine L_seq ?_
            refine L_region ?_
            refine F_val rfl rfl rfl (O_assign rfl rfl) ?_
            refine F_nil ?_
            refine L_ret (fun a ha => (hO76 .ret a _ rfl (hOp71 .ret a _ rfl (hOb45 .ret a _ rfl (hOj2 .ret a _ rfl (post_ret1 ha rfl rfl ?_))))))
            obtain rfl := Option.some.inj H
            obtain rfl := Option.some.inj (show (some false : Option (Bool)) = some _ from HOj2)
            exact ⟨rfl, HS83.sel [] rfl⟩
          · have H := of_neg H c84
            refine L_skip ?_
            refine L_endB hN76 ?_
            refine L_region ?_
            refine F_val rfl rfl rfl (O_move rfl rfl) ?_
            refine F_val rfl rfl rfl (O_add rfl rfl rfl) ?_
            obtain ⟨x85, h86, H⟩ := of_bnd H
            refine F_val rfl rfl rfl (O_assign' rfl rfl (congrArg (Value.int .i64) h86)) ?_
            refine F_nil ?_
            refine L_nil (fun a ha => hNp71 _ a _ (Nat.lt_succ_self _) ⟨_, Is.cons ha (Is.cons ha (Is.cons ha (Is.nil ha) rfl) rfl) rfl, HS83.sel [0, 1] rfl, H⟩)
        · have H := of_neg H c75
          refine L_exitB (fun a w h => hOp71 (.exit 0) a w rfl (hXb45 a w h)) ?_
          refine L_nil (fun a ha => hNj2 a _ ⟨(Option.some.inj H).symm, Is.nil ha, HS74.sel [0, 1] rfl⟩)
    · obtain ⟨rfl, ha, HS88⟩ := hR
      refine wpLF_app ?_ ha
      have H := (onR_inr _ _ _).symm.trans H
      refine L_seq ?_
      refine L_region ?_
      refine F_val rfl rfl rfl (O_assign rfl rfl) ?_
      refine F_nil ?_
      refine L_ret (fun a ha => (post_ret1 ha rfl rfl ?_))
      obtain rfl := Option.some.inj H
      exact ⟨rfl, HS88.sel [] rfl⟩

/-! function 9: valise/valiselaw7.equal -/
theorem valiselaw7_equal.calls {S0 : Nat → Prop} {w0 : World} {A_a_0 : Option Addr} {c_a_0 : Nat} {A_b_1 : Option Addr} {c_b_1 : Nat} {l_a_0 : List Int} {l_b_1 : List Int} {r : Bool} (HS0 : Hp S0 w0 w0 [.rd A_a_0 (rowC (Eint .i64) l_a_0), .rd A_b_1 (rowC (Eint .i64) l_b_1)]) (hc_a_0 : l_a_0.length ≤ c_a_0) (hc_b_1 : l_b_1.length ≤ c_b_1) (h : valiselaw7_equal.f l_a_0 l_b_1 = some r) :
    Calls Try.prog 9 ([.slice A_a_0 l_a_0.length c_a_0, .slice A_b_1 l_b_1.length c_b_1] : List Value).toArray w0 (fun e w => e = .returned (.bool r) ∧ Hp S0 w0 w []) := by
  have H : ((if (l_a_0.length : Int) ≠ (l_b_1.length : Int) then (some false) else ((valiselaw7_equal.l1 FU 0 l_a_0 l_b_1).bind fun (yj2 : Sum (Bool) (Unit)) => onR yj2 (fun r => some r) fun () => some true)) : Option (Bool)) = some r := h
  refine calls_start Try.func9 rfl rfl ?_
  refine L_seq ?_
  refine L_region ?_
  refine F_val rfl rfl rfl (O_assign rfl rfl) ?_
  refine F_nil ?_
  refine L_seq ?_
  refine L_seq ?_
  refine L_region ?_
  refine F_val rfl rfl rfl (O_move rfl rfl) ?_
  refine F_val rfl rfl rfl (O_len rfl rfl Try.underlying22) ?_
  refine F_val rfl rfl rfl (O_move rfl rfl) ?_
  refine F_val rfl rfl rfl (O_len rfl rfl Try.underlying22) ?_
  refine F_val rfl rfl rfl (O_ne rfl rfl rfl) ?_
  refine F_nil ?_
  refine L_condP rfl (fun c1 => ?_) (fun c1 => ?_)
  · have H := of_pos H c1
    refine L_seq ?_
    refine L_region ?_
    refine F_val rfl rfl rfl (O_assign rfl rfl) ?_
    refine F_nil ?_
    refine L_ret (fun a ha => (post_ret1 ha rfl rfl ?_))
    obtain rfl := Option.some.inj H
    exact ⟨rfl, HS0.sel [] rfl⟩
  · have H := of_neg H c1
    refine L_skip ?_
    refine L_seq ?_
    refine L_seq ?_
    refine L_region ?_
    refine F_val rfl rfl rfl (O_assign rfl rfl) ?_
    refine F_nil ?_
    obtain ⟨yj2, Hyj2, H⟩ := of_bind H
    refine L_join (fun a w => yj2 = Sum.inr () ∧ Is Try.f9.ntmps a [] ∧ Hp S0 w0 w [.rd A_a_0 (rowC (Eint .i64) l_a_0), .rd A_b_1 (rowC (Eint .i64) l_b_1)]) (fun Qj2 hNj2 hOj2 => ?_) (fun a w hR => ?_)
    · have HOj2 := H
      have H := Hyj2
      refine L_blk (fun Qb45 hNb45 hXb45 hOb45 => ?_)
      refine L_lp (fun k a w => ∃ (i_72 : Int), Is Try.f9.ntmps a [(0, .slice A_a_0 l_a_0.length c_a_0), (1, .slice A_b_1 l_b_1.length c_b_1), (5, .int .i64 i_72)] ∧ Hp S0 w0 w [.rd A_a_0 (rowC (Eint .i64) l_a_0), .rd A_b_1 (rowC (Eint .i64) l_b_1)] ∧ valiselaw7_equal.l1 k i_72 l_a_0 l_b_1 = some yj2) FU (fun a ha => ⟨_, Is.cons ha (Is.cons ha (Is.cons ha (Is.nil ha) rfl) rfl) rfl, HS0.sel [0, 1] rfl, H⟩) (fun kp71 a w73 hI Qp71 hNp71 hOp71 => ?_)
      obtain ⟨i_72, ha, HS74, HAp71⟩ := hI
      cases kp71 with
      | zero => cases (show (none : Option _) = some _ from HAp71)
      | succ kp71 =>
        have H := (valiselaw7_equal.l1.eq_2 ..).symm.trans HAp71
        refine wpLF_app ?_ ha
        refine L_seq ?_
        refine L_seq ?_
        refine L_region ?_
        refine F_val rfl rfl rfl (O_move rfl rfl) ?_
        refine F_val rfl rfl rfl (O_move rfl rfl) ?_
        refine F_val rfl rfl rfl (O_len rfl rfl Try.underlying22) ?_
        refine F_val rfl rfl rfl (O_lt rfl rfl rfl) ?_
        refine F_nil ?_
        refine L_condP rfl (fun c75 => ?_) (fun c75 => ?_)
        · have H := of_pos H c75
          refine L_skip ?_
          refine L_seq ?_
          refine L_blk (fun Q76 hN76 hX76 hO76 => ?_)
          refine L_seq ?_
          refine L_quiet mix (by kernel_rfl) ?_
          refine Q_val rfl rfl rfl (fun wq hq => O_move rfl rfl) ?_
          refine Q_val rfl rfl rfl (fun wq hq => O_move rfl rfl) ?_
          obtain ⟨⟨g77, g78⟩, H⟩ := of_gd H
          refine Q_val rfl rfl rfl (fun wq hq => O_idx rfl rfl rfl Try.underlying22 size3 g77 g78 (Cells.isA ((HS74.keep hq).cells_rd (i := 0) rfl) (rowC_ne (E := (Eint .i64)) g77 g78 (by decide)))) ?_
          refine Q_val rfl rfl rfl (fun wq hq => O_loadC rfl rfl flat3 ((HS74.keep hq).cells_rd (i := 0) rfl) (int_cell g77 g78)) ?_
          refine Q_val rfl rfl rfl (fun wq hq => O_move rfl rfl) ?_
          refine Q_val rfl rfl rfl (fun wq hq => O_move rfl rfl) ?_
          obtain ⟨⟨g79, g80⟩, H⟩ := of_gd H
          refine Q_val rfl rfl rfl (fun wq hq => O_idx rfl rfl rfl Try.underlying22 size3 g79 g80 (Cells.isA ((HS74.keep hq).cells_rd (i := 1) rfl) (rowC_ne (E := (Eint .i64)) g79 g80 (by decide)))) ?_
          refine Q_val rfl rfl rfl (fun wq hq => O_loadC rfl rfl flat3 ((HS74.keep hq).cells_rd (i := 1) rfl) (int_cell g79 g80)) ?_
          refine Q_val rfl rfl rfl (fun wq hq => O_ne rfl rfl rfl) ?_
          refine Q_nil (fun w81 hw82 => ?_)
          have HS83 := HS74.keep hw82
          refine L_condP rfl (fun c84 => ?_) (fun c84 => ?_)
          · have H := of_pos H c84
            refine L_seq ?_
            refine L_region ?_
            refine F_val rfl rfl rfl (O_assign rfl rfl) ?_
            refine F_nil ?_
            refine L_ret (fun a ha => (hO76 .ret a _ rfl (hOp71 .ret a _ rfl (hOb45 .ret a _ rfl (hOj2 .ret a _ rfl (post_ret1 ha rfl rfl ?_))))))
            obtain rfl := Option.some.inj H
            obtain rfl := Option.some.inj (show (some false : Option (Bool)) = some _ from HOj2)
            exact ⟨rfl, HS83.sel [] rfl⟩
          · have H := of_neg H c84
            refine L_skip ?_
            refine L_endB hN76 ?_
            refine L_region ?_
            refine F_val rfl rfl rfl (O_move rfl rfl) ?_
            refine F_val rfl rfl rfl (O_add rfl rfl rfl) ?_
            obtain ⟨x85, h86, H⟩ := of_bnd H
            refine F_val rfl rfl rfl (O_assign' rfl rfl (congrArg (Value.int .i64) h86)) ?_
            refine F_nil ?_
            refine L_nil (fun a ha => hNp71 _ a _ (Nat.lt_succ_self _) ⟨_, Is.cons ha (Is.cons ha (Is.cons ha (Is.nil ha) rfl) rfl) rfl, HS83.sel [0, 1] rfl, H⟩)
        · have H := of_neg H c75
          refine L_exitB (fun a w h => hOp71 (.exit 0) a w rfl (hXb45 a w h)) ?_
          refine L_nil (fun a ha => hNj2 a _ ⟨(Option.some.inj H).symm, Is.nil ha, HS74.sel [0, 1] rfl⟩)
    · obtain ⟨rfl, ha, HS88⟩ := hR
      refine wpLF_app ?_ ha
      have H := (onR_inr _ _ _).symm.trans H
      refine L_seq ?_
      refine L_region ?_
      refine F_val rfl rfl rfl (O_assign rfl rfl) ?_
      refine F_nil ?_
      refine L_ret (fun a ha => (post_ret1 ha rfl rfl ?_))
      obtain rfl := Option.some.inj H
      exact ⟨rfl, HS88.sel [] rfl⟩

/-! function 10: valise/valiselaw7.spared -/
theorem valiselaw7_spared.calls {S0 : Nat → Prop} {w0 : World} {A_l_0 : Option Addr} {c_l_0 : Nat} {l_l_0 : List Int} {m_l_0 : Nat} {r : Bool} (HS0 : Hp S0 w0 w0 [.rd A_l_0 (rowC (Eint .i64) l_l_0)]) (hc_l_0 : l_l_0.length ≤ c_l_0) (h : valiselaw7_spared.f l_l_0 m_l_0 = some r) :
    Calls Try.prog 10 ([.slice A_l_0 (l_l_0.take m_l_0).length c_l_0] : List Value).toArray w0 (fun e w => e = .returned (.bool r) ∧ Hp S0 w0 w []) := by
  have H : ((gd ((0 : Int) ≤ (IntKind.i64.wrap (((l_l_0.take m_l_0).length : Int) + 9)) ∧ (IntKind.i64.wrap (((l_l_0.take m_l_0).length : Int) + 9)) ≤ (l_l_0.length : Int)) (bnd (((l_l_0.take m_l_0).length : Int)) fun x3 => (valiselaw7_spared.l1 FU x3 l_l_0 m_l_0).bind fun (yj5 : Sum (Bool) (Unit)) => onR yj5 (fun r => some r) fun () => some true)) : Option (Bool)) = some r := h
  refine calls_start Try.func10 rfl rfl ?_
  refine L_seq ?_
  refine L_region ?_
  refine F_val rfl rfl rfl (O_assign rfl rfl) ?_
  refine F_nil ?_
  refine L_seq ?_
  refine L_region ?_
  refine F_val rfl rfl rfl (O_move rfl rfl) ?_
  refine F_val rfl rfl rfl (O_move rfl rfl) ?_
  refine F_val rfl rfl rfl (O_len rfl rfl Try.underlying22) ?_
  refine F_val rfl rfl rfl (O_add rfl rfl rfl) ?_
  obtain ⟨⟨g1, g2⟩, H⟩ := of_gd H
  refine F_val rfl rfl rfl (O_toE l_l_0 rfl rfl rfl Try.underlying22 size3 g1 g2 hc_l_0) ?_
  refine F_val rfl rfl rfl (O_assign rfl rfl) ?_
  refine F_nil ?_
  refine L_seq ?_
  refine L_seq ?_
  refine L_region ?_
  refine F_val rfl rfl rfl (O_move rfl rfl) ?_
  refine F_val rfl rfl rfl (O_len rfl rfl Try.underlying22) ?_
  obtain ⟨x3, h4, H⟩ := of_bnd H
  refine F_val rfl rfl rfl (O_assign' rfl rfl (congrArg (Value.int .i64) h4)) ?_
  refine F_nil ?_
  obtain ⟨yj5, Hyj5, H⟩ := of_bind H
  refine L_join (fun a w => yj5 = Sum.inr () ∧ Is Try.f10.ntmps a [] ∧ Hp S0 w0 w [.rd A_l_0 (rowC (Eint .i64) l_l_0)]) (fun Qj5 hNj5 hOj5 => ?_) (fun a w hR => ?_)
  · have HOj5 := H
    have H := Hyj5
    refine L_blk (fun Qb33 hNb33 hXb33 hOb33 => ?_)
    refine L_lp (fun k a w => ∃ (i_50 : Int), Is Try.f10.ntmps a [(3, .slice A_l_0 (l_l_0.take (IntKind.i64.wrap (((l_l_0.take m_l_0).length : Int) + 9) : Int).toNat).length c_l_0), (4, .int .i64 i_50)] ∧ Hp S0 w0 w [.rd A_l_0 (rowC (Eint .i64) l_l_0)] ∧ valiselaw7_spared.l1 k i_50 l_l_0 m_l_0 = some yj5) FU (fun a ha => ⟨_, Is.cons ha (Is.cons ha (Is.nil ha) rfl) rfl, HS0.sel [0] rfl, H⟩) (fun kp49 a w51 hI Qp49 hNp49 hOp49 => ?_)
    obtain ⟨i_50, ha, HS52, HAp49⟩ := hI
    cases kp49 with
    | zero => cases (show (none : Option _) = some _ from HAp49)
    | succ kp49 =>
      have H := (valiselaw7_spared.l1.eq_2 ..).symm.trans HAp49
      refine wpLF_app ?_ ha
      refine L_seq ?_
      refine L_seq ?_
      refine L_region ?_
      refine F_val rfl rfl rfl (O_move rfl rfl) ?_
      refine F_val rfl rfl rfl (O_move rfl rfl) ?_
      refine F_val rfl rfl rfl (O_len rfl rfl Try.underlying22) ?_
      refine F_val rfl rfl rfl (O_lt rfl rfl rfl) ?_
      refine F_nil ?_
      refine L_condP rfl (fun c53 => ?_) (fun c53 => ?_)
      · have H := of_pos H c53
        refine L_skip ?_
        refine L_seq ?_
        refine L_blk (fun Q54 hN54 hX54 hO54 => ?_)
        refine L_seq ?_
        refine L_region ?_
        refine F_val rfl rfl rfl (O_move rfl rfl) ?_
        refine F_val rfl rfl rfl (O_move rfl rfl) ?_
        obtain ⟨⟨g55, g56⟩, H⟩ := of_gd H
        refine F_val rfl rfl rfl (O_idx rfl rfl rfl Try.underlying22 size3 g55 g56 (Cells.isA (Cells.sub (HS52.cells_rd (i := 0) rfl) (Cells.take (HS52.cells_rd (i := 0) rfl) (IntKind.i64.wrap (((l_l_0.take m_l_0).length : Int) + 9) : Int).toNat)) (rowC_ne (E := (Eint .i64)) g55 g56 (by decide)))) ?_
        refine F_val rfl rfl rfl (O_loadC rfl rfl flat3 (Cells.sub (HS52.cells_rd (i := 0) rfl) (Cells.take (HS52.cells_rd (i := 0) rfl) (IntKind.i64.wrap (((l_l_0.take m_l_0).length : Int) + 9) : Int).toNat)) (int_cell g55 g56)) ?_
        refine F_val rfl rfl rfl (O_ne rfl rfl rfl) ?_
        refine F_nil ?_
        refine L_condP rfl (fun c57 => ?_) (fun c57 => ?_)
        · have H := of_pos H c57
          refine L_seq ?_
          refine L_region ?_
          refine F_val rfl rfl rfl (O_assign rfl rfl) ?_
          refine F_nil ?_
          refine L_ret (fun a ha => (hO54 .ret a _ rfl (hOp49 .ret a _ rfl (hOb33 .ret a _ rfl (hOj5 .ret a _ rfl (post_ret1 ha rfl rfl ?_))))))
          obtain rfl := Option.some.inj H
          obtain rfl := Option.some.inj (show (some false : Option (Bool)) = some _ from HOj5)
          exact ⟨rfl, HS52.sel [] rfl⟩
        · have H := of_neg H c57
          refine L_skip ?_
          refine L_endB hN54 ?_
          refine L_region ?_
          refine F_val rfl rfl rfl (O_move rfl rfl) ?_
          refine F_val rfl rfl rfl (O_add rfl rfl rfl) ?_
          obtain ⟨x58, h59, H⟩ := of_bnd H
          refine F_val rfl rfl rfl (O_assign' rfl rfl (congrArg (Value.int .i64) h59)) ?_
          refine F_nil ?_
          refine L_nil (fun a ha => hNp49 _ a _ (Nat.lt_succ_self _) ⟨_, Is.cons ha (Is.cons ha (Is.nil ha) rfl) rfl, HS52.sel [0] rfl, H⟩)
      · have H := of_neg H c53
        refine L_exitB (fun a w h => hOp49 (.exit 0) a w rfl (hXb33 a w h)) ?_
        refine L_nil (fun a ha => hNj5 a _ ⟨(Option.some.inj H).symm, Is.nil ha, HS52.sel [0] rfl⟩)
  · obtain ⟨rfl, ha, HS61⟩ := hR
    refine wpLF_app ?_ ha
    have H := (onR_inr _ _ _).symm.trans H
    refine L_seq ?_
    refine L_region ?_
    refine F_val rfl rfl rfl (O_assign rfl rfl) ?_
    refine F_nil ?_
    refine L_ret (fun a ha => (post_ret1 ha rfl rfl ?_))
    obtain rfl := Option.some.inj H
    exact ⟨rfl, HS61.sel [] rfl⟩

/-! function 3: valise/valiselaw7.HeaderRuns -/
theorem valiselaw7_HeaderRuns.calls {S0 : Nat → Prop} {w0 : World} {A_lens_0 : Option Addr} {c_lens_0 : Nat} {l_lens_0 : List Int} {r : Bool} (HS0 : Hp S0 w0 w0 [.rd A_lens_0 (rowC (Eint .i64) l_lens_0)]) (hc_lens_0 : l_lens_0.length ≤ c_lens_0) (h : valiselaw7_HeaderRuns.f l_lens_0 = some r) :
    Calls Try.prog 3 ([.slice A_lens_0 l_lens_0.length c_lens_0] : List Value).toArray w0 (fun e w => e = .returned (.bool r) ∧ Hp S0 w0 w []) := by
  have H : (((valiselaw7_roomy.f l_lens_0).bind fun (z5, z6) => (header_Runs.f (z5.take z6)).bind fun (z16, z17) => (valiseref7_Runs.f l_lens_0).bind fun (z27, z28) => (if z17 = z28 then ((valiselaw7_alike.f z16 z27).bind fun z53 => some z53) else (some false)).bind fun b46 => (if b46 = true then ((valiselaw7_equal.f (z5.take z6) l_lens_0).bind fun z70 => some z70) else (some false)).bind fun b63 => (if b63 = true then ((valiselaw7_spared.f z5 z6).bind fun z87 => some z87) else (some false)).bind fun b80 => some b80) : Option (Bool)) = some r := h
  refine calls_start Try.func3 rfl rfl ?_
  refine L_seq ?_
  refine L_region ?_
  refine F_val rfl rfl rfl (O_assign rfl rfl) ?_
  refine F_nil ?_
  refine L_seq ?_
  refine L_region ?_
  refine F_val rfl rfl rfl (O_move rfl rfl) ?_
  obtain ⟨⟨z5, z6⟩, h4, H⟩ := of_bind H
  refine F_call (xs := [.tmp 8]) rfl rfl rfl rfl Try.func4 nm4 rfl rfl ((valiselaw7_roomy.calls (HS0.give [] rfl (Lent.rd HS0 (Lent.nil) (i := 0) rfl ((HS0.cells_rd (i := 0) rfl).self))) hc_lens_0 h4).mono (fun e w hc => ?_))
  obtain ⟨A9, c10, rfl, HSo⟩ := hc
  refine ⟨.slice A9 (z5.take z6).length c10, rfl, ?_⟩
  have HS8 : Hp S0 w0 w [.rd A_lens_0 (rowC (Eint .i64) l_lens_0), .own A9 c10 (rowC (Eint .i64) z5) 3 (Eint .i64).sz] := (HS0.back [] HSo rfl).sel [0, 1] rfl
  refine F_val rfl rfl rfl (O_assign rfl rfl) ?_
  refine F_nil ?_
  refine L_seq ?_
  refine L_region ?_
  refine F_val rfl rfl rfl (O_move rfl rfl) ?_
  obtain ⟨⟨z16, z17⟩, h15, H⟩ := of_bind H
  refine F_call (xs := [.tmp 11]) rfl rfl rfl rfl Try.func5 nm5 rfl rfl ((header_Runs.calls (HS8.give [] rfl (Lent.own HS8 (Lent.nil) (i := 1) rfl rfl (Cells.take (HS8.cells_own (i := 1) rfl) z6))) (Nat.le_trans (List.length_take_le' _ _) (HS8.own_capE (i := 1) rfl (by decide))) h15).mono (fun e w hc => ?_))
  obtain ⟨A20, c21, rfl, HSo⟩ := hc
  refine ⟨.tuple #[.slice A20 z16.length c21, .int .i64 z17], rfl, ?_⟩
  have HS19 : Hp S0 w0 w [.rd A_lens_0 (rowC (Eint .i64) l_lens_0), .own A9 c10 (rowC (Eint .i64) z5) 3 (Eint .i64).sz, .own A20 c21 (rowC E_api_Run z16) 35 E_api_Run.sz] := (HS8.back [] HSo rfl).sel [0, 1, 2] rfl
  refine F_val rfl rfl rfl (O_move rfl rfl) ?_
  refine F_val rfl rfl rfl (O_extract (v := .slice A20 z16.length c21) rfl rfl rfl) ?_
  refine F_val rfl rfl rfl (O_extract (v := .int .i64 z17) rfl rfl rfl) ?_
  refine F_val rfl rfl rfl (O_assign rfl rfl) ?_
  refine F_val rfl rfl rfl (O_assign rfl rfl) ?_
  refine F_nil ?_
  refine L_seq ?_
  refine L_region ?_
  refine F_val rfl rfl rfl (O_move rfl rfl) ?_
  obtain ⟨⟨z27, z28⟩, h26, H⟩ := of_bind H
  refine F_call (xs := [.tmp 16]) rfl rfl rfl rfl Try.func6 nm6 rfl rfl ((valiseref7_Runs.calls (HS19.give [] rfl (Lent.rd HS19 (Lent.nil) (i := 0) rfl ((HS19.cells_rd (i := 0) rfl).self))) hc_lens_0 h26).mono (fun e w hc => ?_))
  obtain ⟨A31, c32, rfl, HSo⟩ := hc
  refine ⟨.tuple #[.slice A31 z27.length c32, .int .i64 z28], rfl, ?_⟩
  have HS30 : Hp S0 w0 w [.rd A_lens_0 (rowC (Eint .i64) l_lens_0), .own A9 c10 (rowC (Eint .i64) z5) 3 (Eint .i64).sz, .own A20 c21 (rowC E_api_Run z16) 35 E_api_Run.sz, .own A31 c32 (rowC E_api_Run z27) 35 E_api_Run.sz] := (HS19.back [] HSo rfl).sel [0, 1, 2, 3] rfl
  refine F_val rfl rfl rfl (O_move rfl rfl) ?_
  refine F_val rfl rfl rfl (O_extract (v := .slice A31 z27.length c32) rfl rfl rfl) ?_
  refine F_val rfl rfl rfl (O_extract (v := .int .i64 z28) rfl rfl rfl) ?_
  refine F_val rfl rfl rfl (O_assign rfl rfl) ?_
  refine F_val rfl rfl rfl (O_assign rfl rfl) ?_
  refine F_nil ?_
  refine L_seq ?_
  refine L_region ?_
  refine F_val rfl rfl rfl (O_move rfl rfl) ?_
  refine F_qcall (v := .int .i64 z17) (xs := [.tmp 20]) rfl rfl rfl rfl Try.func7 nm7 rfl rfl ((valiselaw7_num.calls (HS30.give [] rfl (Lent.nil)) (rfl : valiselaw7_num.f z17 = some z17)).mono (fun e w hc => ?_)) (fun w37 hw38 => ?_)
  · obtain ⟨rfl, h⟩ := hc
    exact ⟨rfl, h.chg0⟩
  have HS39 := HS30.keep hw38
  refine F_val rfl rfl rfl (O_move rfl rfl) ?_
  refine F_val rfl rfl rfl (O_eq rfl rfl rfl) ?_
  refine F_val rfl rfl rfl (O_move rfl rfl) ?_
  obtain ⟨b46, Hb46, H⟩ := of_bind H
  refine F_grpQ 4 [(28, .bool b46), (0, .slice A_lens_0 l_lens_0.length c_lens_0), (3, .slice A9 (z5.take z6).length c10)] ?_ (fun w47 hw48 => ?_)
  · rcases Decidable.em (z17 = z28) with c50 | c50
    · refine F_know (i := 24) rfl (dec_t c50) ?_
      have H := of_pos Hb46 c50
      refine F_gval rfl rfl rfl rfl rfl rfl (O_move rfl rfl) ?_
      refine F_gval rfl rfl rfl rfl rfl rfl (O_move rfl rfl) ?_
      obtain ⟨z53, h52, H⟩ := of_bind H
      refine F_gqcall (v := .bool z53) (xs := [.tmp 25, .tmp 26]) rfl rfl rfl rfl rfl rfl rfl Try.func8 nm8 rfl rfl ((valiselaw7_alike.calls (HS39.give [] rfl (Lent.own HS39 (Lent.own HS39 (Lent.nil) (i := 3) rfl rfl ((HS39.cells_own (i := 3) rfl).self)) (i := 2) rfl rfl ((HS39.cells_own (i := 2) rfl).self))) (HS39.own_capE (i := 2) rfl (by decide)) (HS39.own_capE (i := 3) rfl (by decide)) h52).mono (fun e w hc => ?_)) (fun w54 hw55 => ?_)
      · obtain ⟨rfl, h⟩ := hc
        exact ⟨rfl, h.chg0⟩
      have HS56 := HS39.keep hw55
      refine F_val rfl rfl rfl (O_pickT rfl rfl rfl) ?_
      refine F_know (i := 28) rfl (congrArg Value.bool (Option.some.inj H)) ?_
      exact F_grpQE ((Chg.refl NoB _).trans hw55) (fun a ha => Is.cons ha (Is.cons ha (Is.cons ha (Is.nil ha) rfl) rfl) rfl)
    · refine F_know (i := 24) rfl (dec_f c50) ?_
      have H := of_neg Hb46 c50
      refine F_gskip rfl rfl rfl rfl rfl rfl rfl ?_
      refine F_gskip rfl rfl rfl rfl rfl rfl rfl ?_
      refine F_gskip rfl rfl rfl rfl rfl rfl rfl ?_
      refine F_val rfl rfl rfl (O_pickF rfl rfl rfl) ?_
      refine F_know (i := 28) rfl (congrArg Value.bool (Option.some.inj H)) ?_
      exact F_grpQE (Chg.refl NoB _) (fun a ha => Is.cons ha (Is.cons ha (Is.cons ha (Is.nil ha) rfl) rfl) rfl)
  · have HS49 := HS39.keep hw48
    refine F_val rfl rfl rfl (O_move rfl rfl) ?_
    obtain ⟨b63, Hb63, H⟩ := of_bind H
    refine F_grpQ 4 [(33, .bool b63), (3, .slice A9 (z5.take z6).length c10)] ?_ (fun w64 hw65 => ?_)
    · rcases Decidable.em (b46 = true) with c67 | c67
      · refine F_know (i := 29) rfl (congrArg Value.bool c67) ?_
        have H := of_pos Hb63 c67
        refine F_gval rfl rfl rfl rfl rfl rfl (O_move rfl rfl) ?_
        refine F_gval rfl rfl rfl rfl rfl rfl (O_move rfl rfl) ?_
        obtain ⟨z70, h69, H⟩ := of_bind H
        refine F_gqcall (v := .bool z70) (xs := [.tmp 30, .tmp 31]) rfl rfl rfl rfl rfl rfl rfl Try.func9 nm9 rfl rfl ((valiselaw7_equal.calls (HS49.give [] rfl (Lent.own HS49 (Lent.rd HS49 (Lent.nil) (i := 0) rfl ((HS49.cells_rd (i := 0) rfl).self)) (i := 1) rfl rfl (Cells.take (HS49.cells_own (i := 1) rfl) z6))) (Nat.le_trans (List.length_take_le' _ _) (HS49.own_capE (i := 1) rfl (by decide))) hc_lens_0 h69).mono (fun e w hc => ?_)) (fun w71 hw72 => ?_)
        · obtain ⟨rfl, h⟩ := hc
          exact ⟨rfl, h.chg0⟩
        have HS73 := HS49.keep hw72
        refine F_val rfl rfl rfl (O_pickT rfl rfl rfl) ?_
        refine F_know (i := 33) rfl (congrArg Value.bool (Option.some.inj H)) ?_
        exact F_grpQE ((Chg.refl NoB _).trans hw72) (fun a ha => Is.cons ha (Is.cons ha (Is.nil ha) rfl) rfl)
      · refine F_know (i := 29) rfl (congrArg Value.bool (Bool.eq_false_iff.mpr c67)) ?_
        have H := of_neg Hb63 c67
        refine F_gskip rfl rfl rfl rfl rfl rfl rfl ?_
        refine F_gskip rfl rfl rfl rfl rfl rfl rfl ?_
        refine F_gskip rfl rfl rfl rfl rfl rfl rfl ?_
        refine F_val rfl rfl rfl (O_pickF rfl rfl rfl) ?_
        refine F_know (i := 33) rfl (congrArg Value.bool (Option.some.inj H)) ?_
        exact F_grpQE (Chg.refl NoB _) (fun a ha => Is.cons ha (Is.cons ha (Is.nil ha) rfl) rfl)
    · have HS66 := HS49.keep hw65
      refine F_val rfl rfl rfl (O_move rfl rfl) ?_
      obtain ⟨b80, Hb80, H⟩ := of_bind H
      refine F_grpQ 3 [(37, .bool b80)] ?_ (fun w81 hw82 => ?_)
      · rcases Decidable.em (b63 = true) with c84 | c84
        · refine F_know (i := 34) rfl (congrArg Value.bool c84) ?_
          have H := of_pos Hb80 c84
          refine F_gval rfl rfl rfl rfl rfl rfl (O_move rfl rfl) ?_
          obtain ⟨z87, h86, H⟩ := of_bind H
          refine F_gqcall (v := .bool z87) (xs := [.tmp 35]) rfl rfl rfl rfl rfl rfl rfl Try.func10 nm10 rfl rfl ((valiselaw7_spared.calls (HS66.give [] rfl (Lent.own HS66 (Lent.nil) (i := 1) rfl rfl ((HS66.cells_own (i := 1) rfl).self))) (HS66.own_capE (i := 1) rfl (by decide)) h86).mono (fun e w hc => ?_)) (fun w88 hw89 => ?_)
          · obtain ⟨rfl, h⟩ := hc
            exact ⟨rfl, h.chg0⟩
          have HS90 := HS66.keep hw89
          refine F_val rfl rfl rfl (O_pickT rfl rfl rfl) ?_
          refine F_know (i := 37) rfl (congrArg Value.bool (Option.some.inj H)) ?_
          exact F_grpQE ((Chg.refl NoB _).trans hw89) (fun a ha => Is.cons ha (Is.nil ha) rfl)
        · refine F_know (i := 34) rfl (congrArg Value.bool (Bool.eq_false_iff.mpr c84)) ?_
          have H := of_neg Hb80 c84
          refine F_gskip rfl rfl rfl rfl rfl rfl rfl ?_
          refine F_gskip rfl rfl rfl rfl rfl rfl rfl ?_
          refine F_val rfl rfl rfl (O_pickF rfl rfl rfl) ?_
          refine F_know (i := 37) rfl (congrArg Value.bool (Option.some.inj H)) ?_
          exact F_grpQE (Chg.refl NoB _) (fun a ha => Is.cons ha (Is.nil ha) rfl)
      · have HS83 := HS66.keep hw82
        refine F_val rfl rfl rfl (O_assign rfl rfl) ?_
        refine F_nil ?_
        refine L_ret (fun a ha => (post_ret1 ha rfl rfl ?_))
        obtain rfl := Option.some.inj H
        exact ⟨rfl, HS83.sel [] rfl⟩

end Go.Proofs.Ytlmlbahoaendpaa
