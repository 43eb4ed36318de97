import Derived.Test.YtlmlbahoaendpaaDoorChecked
import Derived.Test.YtlmlbahoaendpaaDoorGHeaderRunsGoBackPure
set_option linter.unusedVariables false
set_option linter.unusedSimpArgs false
set_option maxRecDepth 10000
set_option maxHeartbeats 1000000
namespace Go.Proofs.YtlmlbahoaendpaaDoor
open Go Go.V Go.V.Pu
theorem mix : Tryd.prog.follows .mixedOrders = true := by kernel_rfl
theorem info3 : (Tryd.prog.info? 3).map (fun i => (i.zero, i.size, i.bytes)) = some (some (.int .i64 0), 1, 8) := by kernel_rfl
theorem size3 : (Tryd.prog.info? 3).map (·.size) = some 1 := by kernel_rfl
theorem nm23 : (Tryd.f23.name == "runtime.NumGoroutine") = false := by kernel_rfl
theorem flat3 : Flat Tryd.prog 3 := Flat.of Tryd.underlying3 rfl
theorem nm57 : (Tryd.f57.name == "runtime.NumGoroutine") = false := by kernel_rfl
theorem zero25 : (Tryd.prog.info? 25).map (·.zero) = some (some (.agg #[.int .i64 0, .int .i64 0])) := by kernel_rfl
theorem size25 : (Tryd.prog.info? 25).map (·.size) = some 2 := by kernel_rfl
theorem wide25 : Wide Tryd.prog 25 2 := Wide.of Tryd.underlying25 rfl (by kernel_rfl)
theorem info25 : (Tryd.prog.info? 25).map (fun i => (i.zero, i.size, i.bytes)) = some (some (.agg #[.int .i64 0, .int .i64 0]), 2, 16) := by kernel_rfl
theorem field25_1 : FieldAt Tryd.prog 25 1 1 := fun w a => by kernel_rfl
theorem nm22 : (Tryd.f22.name == "runtime.NumGoroutine") = false := by kernel_rfl
theorem nm24 : (Tryd.f24.name == "runtime.NumGoroutine") = false := by kernel_rfl
theorem nm19 : (Tryd.f19.name == "runtime.NumGoroutine") = false := by kernel_rfl
theorem field25_0 : FieldAt Tryd.prog 25 0 0 := fun w a => by kernel_rfl
theorem nm25 : (Tryd.f25.name == "runtime.NumGoroutine") = false := by kernel_rfl
theorem nm54 : (Tryd.f54.name == "runtime.NumGoroutine") = false := by kernel_rfl
theorem nm17 : (Tryd.f17.name == "runtime.NumGoroutine") = false := by kernel_rfl
theorem nm20 : (Tryd.f20.name == "runtime.NumGoroutine") = false := by kernel_rfl
/-! function 23: valise/valiselaw7.ints -/
theorem valiselaw7_ints.calls {S0 : Nat → Prop} {w0 : World} {A_l_0 : Option Addr} {c_l_0 : Nat} {l_l_0 : List Int} {r : List Int} (HS0 : Hp S0 w0 w0 [.rd A_l_0 (rowC (Eint .i64) l_l_0)]) (hc_l_0 : l_l_0.length ≤ c_l_0) (h : valiselaw7_ints.f l_l_0 = some r) :
    Calls Tryd.prog 23 ([.slice A_l_0 l_l_0.length c_l_0] : List Value).toArray w0 (fun e w => ∃ (A1 : Option Addr), ∃ (c1 : Nat), e = .returned (.slice A1 r.length c1) ∧ Hp S0 w0 w [.own A1 c1 (rowC (Eint .i64) r) 3 (Eint .i64).sz]) := by
  have H : ((gd ((0 : Int) ≤ (l_l_0.length : Int) ∧ (l_l_0.length : Int) * 8 ≤ 281474976710656) (bnd (List.replicate ((l_l_0.length : Int) : Int).toNat (0 : Int)) fun l5 => bnd (cpy l5 l_l_0) fun l12 => some l12)) : Option (List Int)) = some r := h
  refine calls_start Tryd.func23 rfl rfl ?_
  refine L_seq ?_
  refine L_region ?_
  refine F_val rfl rfl rfl (O_assign rfl rfl) ?_
  refine F_nil ?_
  refine L_seq ?_
  refine L_region ?_
  refine F_val rfl rfl rfl (O_move rfl rfl) ?_
  refine F_val rfl rfl rfl (O_len rfl rfl Tryd.underlying26) ?_
  obtain ⟨⟨g3, g4⟩, H⟩ := of_gd H
  obtain ⟨l5, h6, H⟩ := of_bnd H
  refine F_makeE (E := (Eint .i64)) rfl rfl rfl rfl rfl rfl Tryd.underlying26 info3 rfl (by decide) (by decide) g3 g4 HS0 h6 (fun w1 A7 c8 HS2 => ?_)
  have HS2 : Hp S0 w0 w1 [.rd A_l_0 (rowC (Eint .i64) l_l_0), .own A7 c8 (rowC (Eint .i64) l5) 3 (Eint .i64).sz] := HS2
  refine F_val rfl rfl rfl (O_assign rfl rfl) ?_
  refine F_nil ?_
  refine L_seq ?_
  refine L_region ?_
  refine F_val rfl rfl rfl (O_move rfl rfl) ?_
  refine F_val rfl rfl rfl (O_move rfl rfl) ?_
  obtain ⟨l12, h13, H⟩ := of_bnd H
  refine F_copyE (E := (Eint .i64)) (xs := l5) (ys := l_l_0) (i := 1) rfl rfl rfl rfl Tryd.underlying26 size3 rfl rfl HS2 rfl (HS2.cells_rd (i := 0) rfl) h13 (fun w10 HS11 => ?_)
  have e14 : l5.length = l12.length := by rw [← h13, cpy_length]
  refine F_know (i := 3) rfl (congrArg (fun n => Value.slice A7 n c8) e14) ?_
  have HS11 : Hp S0 w0 w10 [.rd A_l_0 (rowC (Eint .i64) l_l_0), .own A7 c8 (rowC (Eint .i64) l12) 3 (Eint .i64).sz] := HS11
  refine F_nil ?_
  refine L_seq ?_
  refine L_region ?_
  refine F_val rfl rfl rfl (O_move rfl rfl) ?_
  refine F_val rfl rfl rfl (O_assign rfl rfl) ?_
  refine F_nil ?_
  refine L_ret (fun a ha => (post_ret1 ha rfl rfl ?_))
  obtain rfl := Option.some.inj H
  exact ⟨_, _, rfl, HS11.sel [1] rfl⟩

/-! function 57: valise/header.lengths -/
theorem header_lengths.calls {S0 : Nat → Prop} {w0 : World} {A_l_0 : Option Addr} {c_l_0 : Nat} {l_l_0 : List Int} {r : Bool} (HS0 : Hp S0 w0 w0 [.rd A_l_0 (rowC (Eint .i64) l_l_0)]) (hc_l_0 : l_l_0.length ≤ c_l_0) (h : header_lengths.f l_l_0 = some r) :
    Calls Tryd.prog 57 ([.slice A_l_0 l_l_0.length c_l_0] : List Value).toArray w0 (fun e w => e = .returned (.bool r) ∧ Hp S0 w0 w []) := by
  have H : (((header_lengths.l1 FU 0 l_l_0).bind fun (yj1 : Sum (Bool) (Unit)) => onR yj1 (fun r => some r) fun () => some true) : Option (Bool)) = some r := h
  refine calls_start Tryd.func57 rfl rfl ?_
  refine L_seq ?_
  refine L_region ?_
  refine F_val rfl rfl rfl (O_assign rfl rfl) ?_
  refine F_nil ?_
  refine L_seq ?_
  refine L_seq ?_
  refine L_region ?_
  refine F_val rfl rfl rfl (O_move rfl rfl) ?_
  refine F_val rfl rfl rfl (O_len rfl rfl Tryd.underlying26) ?_
  refine F_val rfl rfl rfl (O_move rfl rfl) ?_
  refine F_nil ?_
  obtain ⟨yj1, Hyj1, H⟩ := of_bind H
  refine L_join (fun a w => yj1 = Sum.inr () ∧ Is Tryd.f57.ntmps a [] ∧ Hp S0 w0 w [.rd A_l_0 (rowC (Eint .i64) l_l_0)]) (fun Qj1 hNj1 hOj1 => ?_) (fun a w hR => ?_)
  · have HOj1 := H
    have H := Hyj1
    refine L_blk (fun Qb41 hNb41 hXb41 hOb41 => ?_)
    refine L_lp (fun k a w => ∃ (t66 : Int), Is Tryd.f57.ntmps a [(5, .slice A_l_0 l_l_0.length c_l_0), (6, .int .i64 (l_l_0.length : Int)), (7, .int .i64 t66)] ∧ Hp S0 w0 w [.rd A_l_0 (rowC (Eint .i64) l_l_0)] ∧ header_lengths.l1 k t66 l_l_0 = some yj1) FU (fun a ha => ⟨_, Is.cons ha (Is.cons ha (Is.cons ha (Is.nil ha) rfl) rfl) rfl, HS0.sel [0] rfl, H⟩) (fun kp65 a w67 hI Qp65 hNp65 hOp65 => ?_)
    obtain ⟨t66, ha, HS68, HAp65⟩ := hI
    cases kp65 with
    | zero => cases (show (none : Option _) = some _ from HAp65)
    | succ kp65 =>
      have H := (header_lengths.l1.eq_2 ..).symm.trans HAp65
      refine wpLF_app ?_ ha
      refine L_seq ?_
      refine L_region ?_
      refine F_val rfl rfl rfl (O_lt rfl rfl rfl) ?_
      refine F_nil ?_
      refine L_seq ?_
      refine L_condP rfl (fun c69 => ?_) (fun c69 => ?_)
      · have H := of_pos H c69
        refine L_skip ?_
        refine L_seq ?_
        refine L_blk (fun Q70 hN70 hX70 hO70 => ?_)
        refine L_seq ?_
        refine L_region ?_
        obtain ⟨⟨g71, g72⟩, H⟩ := of_gd H
        refine F_val rfl rfl rfl (O_idx rfl rfl rfl Tryd.underlying26 size3 g71 g72 (Cells.isA (HS68.cells_rd (i := 0) rfl) (rowC_ne (E := (Eint .i64)) g71 g72 (by decide)))) ?_
        refine F_val rfl rfl rfl (O_loadC rfl rfl flat3 (HS68.cells_rd (i := 0) rfl) (int_cell g71 g72)) ?_
        obtain ⟨x73, h74, H⟩ := of_bnd H
        refine F_val rfl rfl rfl (O_assign' rfl rfl (congrArg (Value.int .i64) h74)) ?_
        refine F_nil ?_
        refine L_seq ?_
        refine L_region ?_
        refine F_val rfl rfl rfl (O_move rfl rfl) ?_
        refine F_val rfl rfl rfl (O_lt rfl rfl rfl) ?_
        refine F_val rfl rfl rfl (O_move rfl rfl) ?_
        refine F_grp 3 [(16, .bool (decide ((x73 < 0) ∨ (15 < x73)))), (5, .slice A_l_0 l_l_0.length c_l_0), (6, .int .i64 (l_l_0.length : Int)), (7, .int .i64 t66)] ?_ ?_
        · rcases Decidable.em (x73 < 0) with c78 | c78
          · refine F_know (i := 13) rfl (dec_t c78) ?_
            refine F_gskip rfl rfl rfl rfl rfl rfl rfl ?_
            refine F_gskip rfl rfl rfl rfl rfl rfl rfl ?_
            refine F_val rfl rfl rfl (O_pickT rfl rfl rfl) ?_
            refine F_know (i := 16) rfl (dec_or_t (q := 15 < x73) c78) ?_
            exact F_grpE (fun a ha => Is.cons ha (Is.cons ha (Is.cons ha (Is.cons ha (Is.nil ha) rfl) rfl) rfl) rfl)
          · refine F_know (i := 13) rfl (dec_f c78) ?_
            refine F_gval rfl rfl rfl rfl rfl rfl (O_move rfl rfl) ?_
            refine F_gval rfl rfl rfl rfl rfl rfl (O_gt rfl rfl rfl) ?_
            refine F_val rfl rfl rfl (O_pickF rfl rfl rfl) ?_
            refine F_know (i := 16) rfl (dec_or_f (q := 15 < x73) c78) ?_
            exact F_grpE (fun a ha => Is.cons ha (Is.cons ha (Is.cons ha (Is.cons ha (Is.nil ha) rfl) rfl) rfl) rfl)
        · skip
          refine F_nil ?_
          refine L_condP rfl (fun c79 => ?_) (fun c79 => ?_)
          · have H := of_pos H c79
            refine L_seq ?_
            refine L_region ?_
            refine F_val rfl rfl rfl (O_assign rfl rfl) ?_
            refine F_nil ?_
            refine L_ret (fun a ha => (hO70 .ret a _ rfl (hOp65 .ret a _ rfl (hOb41 .ret a _ rfl (hOj1 .ret a _ rfl (post_ret1 ha rfl rfl ?_))))))
            obtain rfl := Option.some.inj H
            obtain rfl := Option.some.inj (show (some false : Option (Bool)) = some _ from HOj1)
            exact ⟨rfl, HS68.sel [] rfl⟩
          · have H := of_neg H c79
            refine L_skip ?_
            refine L_endB hN70 ?_
            refine L_region ?_
            refine F_val rfl rfl rfl (O_add rfl rfl rfl) ?_
            refine F_val rfl rfl rfl (O_move rfl rfl) ?_
            refine F_nil ?_
            refine L_nil (fun a ha => hNp65 _ a _ (Nat.lt_succ_self _) ⟨_, Is.cons ha (Is.cons ha (Is.cons ha (Is.nil ha) rfl) rfl) rfl, HS68.sel [0] rfl, H⟩)
      · have H := of_neg H c69
        refine L_exitB (fun a w h => hOp65 (.exit 0) a w rfl (hXb41 a w h)) ?_
        refine L_nil (fun a ha => hNj1 a _ ⟨(Option.some.inj H).symm, Is.nil ha, HS68.sel [0] rfl⟩)
  · obtain ⟨rfl, ha, HS81⟩ := hR
    refine wpLF_app ?_ ha
    have H := (onR_inr _ _ _).symm.trans H
    refine L_seq ?_
    refine L_region ?_
    refine F_val rfl rfl rfl (O_assign rfl rfl) ?_
    refine F_nil ?_
    refine L_ret (fun a ha => (post_ret1 ha rfl rfl ?_))
    obtain rfl := Option.some.inj H
    exact ⟨rfl, HS81.sel [] rfl⟩

/-! function 22: valise/header.Runs -/
theorem header_Runs.calls {S0 : Nat → Prop} {w0 : World} {A_lens_0 : Option Addr} {c_lens_0 : Nat} {l_lens_0 : List Int} {r : List (Int × Int) × Int} (HS0 : Hp S0 w0 w0 [.rd A_lens_0 (rowC (Eint .i64) l_lens_0)]) (hc_lens_0 : l_lens_0.length ≤ c_lens_0) (h : header_Runs.f l_lens_0 = some r) :
    Calls Tryd.prog 22 ([.slice A_lens_0 l_lens_0.length c_lens_0] : List Value).toArray w0 (fun e w => ∃ (A1 : Option Addr), ∃ (c1 : Nat), e = .returned (.tuple #[.slice A1 r.1.length c1, .int .i64 r.2]) ∧ Hp S0 w0 w [.own A1 c1 (rowC E_api_Run r.1) 25 E_api_Run.sz]) := by
  have H : (((header_lengths.f l_lens_0).bind fun z4 => if (!z4) = true then (some (([] : List (Int × Int)), 1)) else ((header_Runs.l11 FU ([] : List (Int × Int)) 0 l_lens_0).bind fun l598 => some (l598, 0))) : Option (List (Int × Int) × Int)) = some r := h
  refine calls_start Tryd.func22 rfl rfl ?_
  refine L_seq ?_
  refine L_region ?_
  refine F_val rfl rfl rfl (O_assign rfl rfl) ?_
  refine F_val rfl rfl rfl (O_assign rfl rfl) ?_
  refine F_nil ?_
  refine L_scope (fun Q1 hN1 hO1 => ?_)
  refine L_seq ?_
  refine L_seq ?_
  refine L_region ?_
  refine F_val rfl rfl rfl (O_move rfl rfl) ?_
  obtain ⟨z4, h3, H⟩ := of_bind H
  refine F_qcall (v := .bool z4) (xs := [.tmp 9]) rfl rfl rfl rfl Tryd.func57 nm57 rfl rfl ((header_lengths.calls (HS0.give [] rfl (Lent.rd HS0 (Lent.nil) (i := 0) rfl ((HS0.cells_rd (i := 0) rfl).self))) hc_lens_0 h3).mono (fun e w hc => ?_)) (fun w5 hw6 => ?_)
  · obtain ⟨rfl, h⟩ := hc
    exact ⟨rfl, h.chg0⟩
  have HS7 := HS0.keep hw6
  refine F_val rfl rfl rfl (O_notb rfl rfl) ?_
  refine F_nil ?_
  refine L_cond rfl (fun c8 => ?_) (fun c8 => ?_)
  · have H := of_pos H c8
    refine L_seq ?_
    refine L_region ?_
    refine F_val rfl rfl rfl (O_assign rfl rfl) ?_
    refine F_val rfl rfl rfl (O_assign rfl rfl) ?_
    refine F_nil ?_
    have HS9 := HS7.addNil 25 E_api_Run.sz
    refine L_ret (fun a ha => (hO1 .ret a _ rfl (post_ret2 ha rfl rfl rfl ?_)))
    obtain rfl := Option.some.inj H
    exact ⟨_, _, rfl, HS9.sel [1] rfl⟩
  · have H := of_neg H (by rw [c8]; exact Bool.false_ne_true)
    refine L_skip ?_
    refine L_seq ?_
    refine L_region ?_
    refine F_val rfl rfl rfl (O_assign rfl rfl) ?_
    have HS11 := HS7.addNil 25 E_api_Run.sz
    have HS11 : Hp S0 w0 w5 [.rd A_lens_0 (rowC (Eint .i64) l_lens_0), .own none 0 (rowC E_api_Run ([] : List (Int × Int))) 25 E_api_Run.sz] := HS11
    refine F_nil ?_
    refine L_seq ?_
    refine L_region ?_
    refine F_val rfl rfl rfl (O_assign rfl rfl) ?_
    refine F_nil ?_
    refine L_seq ?_
    refine L_label ?_
    refine L_seq ?_
    obtain ⟨yj13, Hyj13, H⟩ := of_bind H
    refine L_join (fun a w => ∃ (l598 : List (Int × Int)), ∃ (A596 : Option Addr), ∃ (c597 : Nat), yj13 = l598 ∧ Is Tryd.f22.ntmps a [(4, .slice A596 l598.length c597)] ∧ Hp S0 w0 w [.rd A_lens_0 (rowC (Eint .i64) l_lens_0), .own A596 c597 (rowC E_api_Run l598) 25 E_api_Run.sz]) (fun Qj13 hNj13 hOj13 => ?_) (fun a w hR => ?_)
    · skip
      have H := Hyj13
      refine L_blk (fun Qb599 hNb599 hXb599 hOb599 => ?_)
      refine L_lp (fun k a w => ∃ (l987 : List (Int × Int)), ∃ (at_988 : Int), ∃ (A985 : Option Addr), ∃ (c986 : Nat), Is Tryd.f22.ntmps a [(0, .slice A_lens_0 l_lens_0.length c_lens_0), (4, .slice A985 l987.length c986), (5, .int .i64 at_988)] ∧ Hp S0 w0 w [.rd A_lens_0 (rowC (Eint .i64) l_lens_0), .own A985 c986 (rowC E_api_Run l987) 25 E_api_Run.sz] ∧ header_Runs.l11 k l987 at_988 l_lens_0 = some yj13) FU (fun a ha => ⟨_, _, _, _, Is.cons ha (Is.cons ha (Is.cons ha (Is.nil ha) rfl) rfl) rfl, HS11.sel [0, 1] rfl, H⟩) (fun kp984 a w989 hI Qp984 hNp984 hOp984 => ?_)
      obtain ⟨l987, at_988, A985, c986, ha, HS990, HAp984⟩ := hI
      cases kp984 with
      | zero => cases (show (none : Option _) = some _ from HAp984)
      | succ kp984 =>
        have H := (header_Runs.l11.eq_2 ..).symm.trans HAp984
        refine wpLF_app ?_ ha
        refine L_seq ?_
        refine L_seq ?_
        refine L_region ?_
        refine F_val rfl rfl rfl (O_move rfl rfl) ?_
        refine F_val rfl rfl rfl (O_move rfl rfl) ?_
        refine F_val rfl rfl rfl (O_len rfl rfl Tryd.underlying26) ?_
        refine F_val rfl rfl rfl (O_lt rfl rfl rfl) ?_
        refine F_nil ?_
        refine L_condP rfl (fun c991 => ?_) (fun c991 => ?_)
        · have H := of_pos H c991
          refine L_skip ?_
          refine L_blk (fun Q992 hN992 hX992 hO992 => ?_)
          refine L_seq ?_
          refine L_region ?_
          refine F_val rfl rfl rfl (O_move rfl rfl) ?_
          refine F_val rfl rfl rfl (O_move rfl rfl) ?_
          obtain ⟨⟨g993, g994⟩, H⟩ := of_gd H
          refine F_val rfl rfl rfl (O_idx rfl rfl rfl Tryd.underlying26 size3 g993 g994 (Cells.isA (HS990.cells_rd (i := 0) rfl) (rowC_ne (E := (Eint .i64)) g993 g994 (by decide)))) ?_
          refine F_val rfl rfl rfl (O_loadC rfl rfl flat3 (HS990.cells_rd (i := 0) rfl) (int_cell g993 g994)) ?_
          obtain ⟨x995, h996, H⟩ := of_bnd H
          refine F_val rfl rfl rfl (O_assign' rfl rfl (congrArg (Value.int .i64) h996)) ?_
          refine F_nil ?_
          refine L_seq ?_
          refine L_region ?_
          refine F_val rfl rfl rfl (O_assign rfl rfl) ?_
          refine F_nil ?_
          refine L_seq ?_
          obtain ⟨yj997, Hyj997, H⟩ := of_bind H
          refine L_join (fun a w => ∃ (m_1043 : Int), yj997 = m_1043 ∧ Is Tryd.f22.ntmps a [(0, .slice A_lens_0 l_lens_0.length c_lens_0), (4, .slice A985 l987.length c986), (5, .int .i64 at_988), (6, .int .i64 x995), (7, .int .i64 m_1043)] ∧ Hp S0 w0 w [.rd A_lens_0 (rowC (Eint .i64) l_lens_0), .own A985 c986 (rowC E_api_Run l987) 25 E_api_Run.sz]) (fun Qj997 hNj997 hOj997 => ?_) (fun a w hR => ?_)
          · skip
            have H := Hyj997
            refine L_blk (fun Qb1044 hNb1044 hXb1044 hOb1044 => ?_)
            refine L_lp (fun k a w => ∃ (m_1073 : Int), Is Tryd.f22.ntmps a [(0, .slice A_lens_0 l_lens_0.length c_lens_0), (4, .slice A985 l987.length c986), (5, .int .i64 at_988), (6, .int .i64 x995), (7, .int .i64 m_1073)] ∧ Hp S0 w0 w [.rd A_lens_0 (rowC (Eint .i64) l_lens_0), .own A985 c986 (rowC E_api_Run l987) 25 E_api_Run.sz] ∧ header_Runs.l13 k m_1073 l_lens_0 at_988 x995 = some yj997) FU (fun a ha => ⟨_, Is.cons ha (Is.cons ha (Is.cons ha (Is.cons ha (Is.cons ha (Is.nil ha) rfl) rfl) rfl) rfl) rfl, HS990.sel [0, 1] rfl, H⟩) (fun kp1072 a w1074 hI Qp1072 hNp1072 hOp1072 => ?_)
            obtain ⟨m_1073, ha, HS1075, HAp1072⟩ := hI
            cases kp1072 with
            | zero => cases (show (none : Option _) = some _ from HAp1072)
            | succ kp1072 =>
              have H := (header_Runs.l13.eq_2 ..).symm.trans HAp1072
              refine wpLF_app ?_ ha
              refine L_seq ?_
              refine L_seq ?_
              refine L_region ?_
              refine F_val rfl rfl rfl (O_move rfl rfl) ?_
              refine F_val rfl rfl rfl (O_move rfl rfl) ?_
              refine F_val rfl rfl rfl (O_add rfl rfl rfl) ?_
              refine F_val rfl rfl rfl (O_move rfl rfl) ?_
              refine F_val rfl rfl rfl (O_len rfl rfl Tryd.underlying26) ?_
              refine F_val rfl rfl rfl (O_lt rfl rfl rfl) ?_
              refine F_val rfl rfl rfl (O_move rfl rfl) ?_
              obtain ⟨b1078, Hb1078, H⟩ := of_bind H
              refine F_grp 9 [(35, .bool b1078), (0, .slice A_lens_0 l_lens_0.length c_lens_0), (4, .slice A985 l987.length c986), (5, .int .i64 at_988), (6, .int .i64 x995), (7, .int .i64 m_1073)] ?_ ?_
              · rcases Decidable.em (IntKind.i64.wrap (at_988 + m_1073) < (l_lens_0.length : Int)) with c1082 | c1082
                · refine F_know (i := 26) rfl (dec_t c1082) ?_
                  have H := of_pos Hb1078 c1082
                  refine F_gval rfl rfl rfl rfl rfl rfl (O_move rfl rfl) ?_
                  refine F_gval rfl rfl rfl rfl rfl rfl (O_move rfl rfl) ?_
                  refine F_gval rfl rfl rfl rfl rfl rfl (O_move rfl rfl) ?_
                  refine F_gval rfl rfl rfl rfl rfl rfl (O_add rfl rfl rfl) ?_
                  obtain ⟨⟨g1083, g1084⟩, H⟩ := of_gd H
                  refine F_gval rfl rfl rfl rfl rfl rfl (O_idx rfl rfl rfl Tryd.underlying26 size3 g1083 g1084 (Cells.isA (HS1075.cells_rd (i := 0) rfl) (rowC_ne (E := (Eint .i64)) g1083 g1084 (by decide)))) ?_
                  refine F_gval rfl rfl rfl rfl rfl rfl (O_loadC rfl rfl flat3 (HS1075.cells_rd (i := 0) rfl) (int_cell g1083 g1084)) ?_
                  refine F_gval rfl rfl rfl rfl rfl rfl (O_move rfl rfl) ?_
                  refine F_gval rfl rfl rfl rfl rfl rfl (O_eq rfl rfl rfl) ?_
                  refine F_val rfl rfl rfl (O_pickT rfl rfl rfl) ?_
                  refine F_know (i := 35) rfl (congrArg Value.bool (Option.some.inj H)) ?_
                  exact F_grpE (fun a ha => Is.cons ha (Is.cons ha (Is.cons ha (Is.cons ha (Is.cons ha (Is.cons ha (Is.nil ha) rfl) rfl) rfl) rfl) rfl) rfl)
                · refine F_know (i := 26) rfl (dec_f c1082) ?_
                  have H := of_neg Hb1078 c1082
                  refine F_gskip rfl rfl rfl rfl rfl rfl rfl ?_
                  refine F_gskip rfl rfl rfl rfl rfl rfl rfl ?_
                  refine F_gskip rfl rfl rfl rfl rfl rfl rfl ?_
                  refine F_gskip rfl rfl rfl rfl rfl rfl rfl ?_
                  refine F_gskip rfl rfl rfl rfl rfl rfl rfl ?_
                  refine F_gskip rfl rfl rfl rfl rfl rfl rfl ?_
                  refine F_gskip rfl rfl rfl rfl rfl rfl rfl ?_
                  refine F_gskip rfl rfl rfl rfl rfl rfl rfl ?_
                  refine F_val rfl rfl rfl (O_pickF rfl rfl rfl) ?_
                  refine F_know (i := 35) rfl (congrArg Value.bool (Option.some.inj H)) ?_
                  exact F_grpE (fun a ha => Is.cons ha (Is.cons ha (Is.cons ha (Is.cons ha (Is.cons ha (Is.cons ha (Is.nil ha) rfl) rfl) rfl) rfl) rfl) rfl)
              · skip
                refine F_nil ?_
                refine L_cond rfl (fun c1085 => ?_) (fun c1085 => ?_)
                · have H := of_pos H c1085
                  refine L_skip ?_
                  refine L_blk (fun Q1086 hN1086 hX1086 hO1086 => ?_)
                  refine L_region ?_
                  refine F_val rfl rfl rfl (O_move rfl rfl) ?_
                  refine F_val rfl rfl rfl (O_add rfl rfl rfl) ?_
                  obtain ⟨x1087, h1088, H⟩ := of_bnd H
                  refine F_val rfl rfl rfl (O_assign' rfl rfl (congrArg (Value.int .i64) h1088)) ?_
                  refine F_nil ?_
                  refine L_endB hN1086 ?_
                  refine L_nil (fun a ha => hNp1072 _ a _ (Nat.lt_succ_self _) ⟨_, Is.cons ha (Is.cons ha (Is.cons ha (Is.cons ha (Is.cons ha (Is.nil ha) rfl) rfl) rfl) rfl) rfl, HS1075.sel [0, 1] rfl, H⟩)
                · have H := of_neg H (by rw [c1085]; exact Bool.false_ne_true)
                  refine L_exitB (fun a w h => hOp1072 (.exit 2) a w rfl (hXb1044 a w h)) ?_
                  refine L_nil (fun a ha => hNj997 a _ ⟨_, (Option.some.inj H).symm, Is.cons ha (Is.cons ha (Is.cons ha (Is.cons ha (Is.cons ha (Is.nil ha) rfl) rfl) rfl) rfl) rfl, HS1075.sel [0, 1] rfl⟩)
          · obtain ⟨m_1043, ej, ha, HS1090⟩ := hR
            obtain rfl := ej.symm
            refine wpLF_app ?_ ha
            refine L_seq ?_
            refine L_region ?_
            refine F_val rfl rfl rfl (O_move rfl rfl) ?_
            refine F_val rfl rfl rfl (O_build (vs := [(0, .int .i64 x995), (1, .int .i64 1)]) (v := .agg #[.int .i64 x995, .int .i64 1]) rfl rfl rfl (fun w => by kernel_rfl)) ?_
            refine F_alloc (C := [.int .i64 0, .int .i64 0]) rfl rfl rfl rfl zero25 rfl HS1090 (fun w1091 g1093 HS1092 => ?_)
            have HS1092 : Hp S0 w0 w1091 [.rd A_lens_0 (rowC (Eint .i64) l_lens_0), .own A985 c986 (rowC E_api_Run l987) 25 E_api_Run.sz, .box g1093 [.int .i64 0, .int .i64 0] 25] := HS1092
            refine F_stB 2 ([.int .i64 x995, .int .i64 1]) rfl rfl rfl rfl rfl size25 HS1092 rfl rfl rfl rfl rfl (fun w1095 HS1096 => ?_)
            have HS1096 : Hp S0 w0 w1095 [.rd A_lens_0 (rowC (Eint .i64) l_lens_0), .own A985 c986 (rowC E_api_Run l987) 25 E_api_Run.sz, .box g1093 [.int .i64 x995, .int .i64 1] 25] := HS1096
            refine F_nil ?_
            refine L_seq ?_
            refine L_blk (fun Q1097 hN1097 hX1097 hO1097 => ?_)
            refine L_seq ?_
            refine L_region ?_
            refine F_val rfl rfl rfl (O_move rfl rfl) ?_
            refine F_val rfl rfl rfl (O_eq rfl rfl rfl) ?_
            refine F_val rfl rfl rfl (O_move rfl rfl) ?_
            refine F_grp 3 [(46, .bool (decide ((x995 = 0) ∧ (11 ≤ m_1043)))), (0, .slice A_lens_0 l_lens_0.length c_lens_0), (4, .slice A985 l987.length c986), (5, .int .i64 at_988), (6, .int .i64 x995), (7, .int .i64 m_1043), (8, .pointer (some ⟨g1093, 0, none⟩))] ?_ ?_
            · rcases Decidable.em (x995 = 0) with c1101 | c1101
              · refine F_know (i := 43) rfl (dec_t c1101) ?_
                refine F_gval rfl rfl rfl rfl rfl rfl (O_move rfl rfl) ?_
                refine F_gval rfl rfl rfl rfl rfl rfl (O_ge rfl rfl rfl) ?_
                refine F_val rfl rfl rfl (O_pickT rfl rfl rfl) ?_
                refine F_know (i := 46) rfl (dec_and_t (q := 11 ≤ m_1043) c1101) ?_
                exact F_grpE (fun a ha => Is.cons ha (Is.cons ha (Is.cons ha (Is.cons ha (Is.cons ha (Is.cons ha (Is.cons ha (Is.nil ha) rfl) rfl) rfl) rfl) rfl) rfl) rfl)
              · refine F_know (i := 43) rfl (dec_f c1101) ?_
                refine F_gskip rfl rfl rfl rfl rfl rfl rfl ?_
                refine F_gskip rfl rfl rfl rfl rfl rfl rfl ?_
                refine F_val rfl rfl rfl (O_pickF rfl rfl rfl) ?_
                refine F_know (i := 46) rfl (dec_and_f (q := 11 ≤ m_1043) c1101) ?_
                exact F_grpE (fun a ha => Is.cons ha (Is.cons ha (Is.cons ha (Is.cons ha (Is.cons ha (Is.cons ha (Is.cons ha (Is.nil ha) rfl) rfl) rfl) rfl) rfl) rfl) rfl)
            · skip
              refine F_val rfl rfl rfl (O_assign rfl rfl) ?_
              refine F_nil ?_
              obtain ⟨yj1102, Hyj1102, H⟩ := of_bind H
              refine L_join (fun a w => ∃ (y1133 : Int), ∃ (y1134 : Int), yj1102 = (y1133, y1134) ∧ Is Tryd.f22.ntmps a [(0, .slice A_lens_0 l_lens_0.length c_lens_0), (4, .slice A985 l987.length c986), (5, .int .i64 at_988), (8, .pointer (some ⟨g1093, 0, none⟩))] ∧ Hp S0 w0 w [.rd A_lens_0 (rowC (Eint .i64) l_lens_0), .own A985 c986 (rowC E_api_Run l987) 25 E_api_Run.sz, .box g1093 [.int .i64 y1133, .int .i64 y1134] 25]) (fun Qj1102 hNj1102 hOj1102 => ?_) (fun a w hR => ?_)
              · skip
                have H := Hyj1102
                refine L_condP rfl (fun c1135 => ?_) (fun c1135 => ?_)
                · have H := of_pos H c1135
                  refine L_region ?_
                  refine F_val rfl rfl rfl (O_move rfl rfl) ?_
                  refine F_val rfl rfl rfl (O_min rfl rfl rfl) ?_
                  refine F_val rfl rfl rfl (O_build (vs := [(0, .int .i64 18), (1, .int .i64 (min m_1043 138))]) (v := .agg #[.int .i64 18, .int .i64 (min m_1043 138)]) rfl rfl rfl (fun w => by kernel_rfl)) ?_
                  refine F_stB 2 ([.int .i64 18, .int .i64 (min m_1043 138)]) rfl rfl rfl rfl rfl size25 HS1096 rfl rfl rfl rfl rfl (fun w1136 HS1137 => ?_)
                  have HS1137 : Hp S0 w0 w1136 [.rd A_lens_0 (rowC (Eint .i64) l_lens_0), .own A985 c986 (rowC E_api_Run l987) 25 E_api_Run.sz, .box g1093 [.int .i64 18, .int .i64 (min m_1043 138)] 25] := HS1137
                  refine F_nil ?_
                  refine L_nil (fun a ha => hNj1102 a _ ⟨_, _, (Option.some.inj H).symm, Is.cons ha (Is.cons ha (Is.cons ha (Is.cons ha (Is.nil ha) rfl) rfl) rfl) rfl, HS1137.sel [0, 1, 2] rfl⟩)
                · have H := of_neg H c1135
                  refine L_seq ?_
                  refine L_region ?_
                  refine F_val rfl rfl rfl (O_move rfl rfl) ?_
                  refine F_val rfl rfl rfl (O_eq rfl rfl rfl) ?_
                  refine F_val rfl rfl rfl (O_move rfl rfl) ?_
                  refine F_grp 3 [(56, .bool (decide ((x995 = 0) ∧ (3 ≤ m_1043)))), (0, .slice A_lens_0 l_lens_0.length c_lens_0), (4, .slice A985 l987.length c986), (5, .int .i64 at_988), (6, .int .i64 x995), (7, .int .i64 m_1043), (8, .pointer (some ⟨g1093, 0, none⟩))] ?_ ?_
                  · rcases Decidable.em (x995 = 0) with c1141 | c1141
                    · refine F_know (i := 53) rfl (dec_t c1141) ?_
                      refine F_gval rfl rfl rfl rfl rfl rfl (O_move rfl rfl) ?_
                      refine F_gval rfl rfl rfl rfl rfl rfl (O_ge rfl rfl rfl) ?_
                      refine F_val rfl rfl rfl (O_pickT rfl rfl rfl) ?_
                      refine F_know (i := 56) rfl (dec_and_t (q := 3 ≤ m_1043) c1141) ?_
                      exact F_grpE (fun a ha => Is.cons ha (Is.cons ha (Is.cons ha (Is.cons ha (Is.cons ha (Is.cons ha (Is.cons ha (Is.nil ha) rfl) rfl) rfl) rfl) rfl) rfl) rfl)
                    · refine F_know (i := 53) rfl (dec_f c1141) ?_
                      refine F_gskip rfl rfl rfl rfl rfl rfl rfl ?_
                      refine F_gskip rfl rfl rfl rfl rfl rfl rfl ?_
                      refine F_val rfl rfl rfl (O_pickF rfl rfl rfl) ?_
                      refine F_know (i := 56) rfl (dec_and_f (q := 3 ≤ m_1043) c1141) ?_
                      exact F_grpE (fun a ha => Is.cons ha (Is.cons ha (Is.cons ha (Is.cons ha (Is.cons ha (Is.cons ha (Is.cons ha (Is.nil ha) rfl) rfl) rfl) rfl) rfl) rfl) rfl)
                  · skip
                    refine F_val rfl rfl rfl (O_assign rfl rfl) ?_
                    refine F_nil ?_
                    refine L_condP rfl (fun c1142 => ?_) (fun c1142 => ?_)
                    · have H := of_pos H c1142
                      refine L_region ?_
                      refine F_val rfl rfl rfl (O_move rfl rfl) ?_
                      refine F_val rfl rfl rfl (O_build (vs := [(0, .int .i64 17), (1, .int .i64 m_1043)]) (v := .agg #[.int .i64 17, .int .i64 m_1043]) rfl rfl rfl (fun w => by kernel_rfl)) ?_
                      refine F_stB 2 ([.int .i64 17, .int .i64 m_1043]) rfl rfl rfl rfl rfl size25 HS1096 rfl rfl rfl rfl rfl (fun w1143 HS1144 => ?_)
                      have HS1144 : Hp S0 w0 w1143 [.rd A_lens_0 (rowC (Eint .i64) l_lens_0), .own A985 c986 (rowC E_api_Run l987) 25 E_api_Run.sz, .box g1093 [.int .i64 17, .int .i64 m_1043] 25] := HS1144
                      refine F_nil ?_
                      refine L_nil (fun a ha => hNj1102 a _ ⟨_, _, (Option.some.inj H).symm, Is.cons ha (Is.cons ha (Is.cons ha (Is.cons ha (Is.nil ha) rfl) rfl) rfl) rfl, HS1144.sel [0, 1, 2] rfl⟩)
                    · have H := of_neg H c1142
                      refine L_seq ?_
                      refine L_region ?_
                      refine F_val rfl rfl rfl (O_move rfl rfl) ?_
                      refine F_val rfl rfl rfl (O_ne rfl rfl rfl) ?_
                      refine F_val rfl rfl rfl (O_move rfl rfl) ?_
                      refine F_grp 3 [(65, .bool (decide ((x995 ≠ 0) ∧ (3 ≤ m_1043)))), (0, .slice A_lens_0 l_lens_0.length c_lens_0), (4, .slice A985 l987.length c986), (5, .int .i64 at_988), (6, .int .i64 x995), (7, .int .i64 m_1043), (8, .pointer (some ⟨g1093, 0, none⟩))] ?_ ?_
                      · rcases Decidable.em (x995 ≠ 0) with c1148 | c1148
                        · refine F_know (i := 62) rfl (dec_t c1148) ?_
                          refine F_gval rfl rfl rfl rfl rfl rfl (O_move rfl rfl) ?_
                          refine F_gval rfl rfl rfl rfl rfl rfl (O_ge rfl rfl rfl) ?_
                          refine F_val rfl rfl rfl (O_pickT rfl rfl rfl) ?_
                          refine F_know (i := 65) rfl (dec_and_t (q := 3 ≤ m_1043) c1148) ?_
                          exact F_grpE (fun a ha => Is.cons ha (Is.cons ha (Is.cons ha (Is.cons ha (Is.cons ha (Is.cons ha (Is.cons ha (Is.nil ha) rfl) rfl) rfl) rfl) rfl) rfl) rfl)
                        · refine F_know (i := 62) rfl (dec_f c1148) ?_
                          refine F_gskip rfl rfl rfl rfl rfl rfl rfl ?_
                          refine F_gskip rfl rfl rfl rfl rfl rfl rfl ?_
                          refine F_val rfl rfl rfl (O_pickF rfl rfl rfl) ?_
                          refine F_know (i := 65) rfl (dec_and_f (q := 3 ≤ m_1043) c1148) ?_
                          exact F_grpE (fun a ha => Is.cons ha (Is.cons ha (Is.cons ha (Is.cons ha (Is.cons ha (Is.cons ha (Is.cons ha (Is.nil ha) rfl) rfl) rfl) rfl) rfl) rfl) rfl)
                      · skip
                        refine F_val rfl rfl rfl (O_move rfl rfl) ?_
                        refine F_grp 3 [(69, .bool (decide (((x995 ≠ 0) ∧ (3 ≤ m_1043)) ∧ (0 < at_988)))), (0, .slice A_lens_0 l_lens_0.length c_lens_0), (4, .slice A985 l987.length c986), (5, .int .i64 at_988), (6, .int .i64 x995), (7, .int .i64 m_1043), (8, .pointer (some ⟨g1093, 0, none⟩))] ?_ ?_
                        · rcases Decidable.em ((x995 ≠ 0) ∧ (3 ≤ m_1043)) with c1152 | c1152
                          · refine F_know (i := 66) rfl (dec_t c1152) ?_
                            refine F_gval rfl rfl rfl rfl rfl rfl (O_move rfl rfl) ?_
                            refine F_gval rfl rfl rfl rfl rfl rfl (O_gt rfl rfl rfl) ?_
                            refine F_val rfl rfl rfl (O_pickT rfl rfl rfl) ?_
                            refine F_know (i := 69) rfl (dec_and_t (q := 0 < at_988) c1152) ?_
                            exact F_grpE (fun a ha => Is.cons ha (Is.cons ha (Is.cons ha (Is.cons ha (Is.cons ha (Is.cons ha (Is.cons ha (Is.nil ha) rfl) rfl) rfl) rfl) rfl) rfl) rfl)
                          · refine F_know (i := 66) rfl (dec_f c1152) ?_
                            refine F_gskip rfl rfl rfl rfl rfl rfl rfl ?_
                            refine F_gskip rfl rfl rfl rfl rfl rfl rfl ?_
                            refine F_val rfl rfl rfl (O_pickF rfl rfl rfl) ?_
                            refine F_know (i := 69) rfl (dec_and_f (q := 0 < at_988) c1152) ?_
                            exact F_grpE (fun a ha => Is.cons ha (Is.cons ha (Is.cons ha (Is.cons ha (Is.cons ha (Is.cons ha (Is.cons ha (Is.nil ha) rfl) rfl) rfl) rfl) rfl) rfl) rfl)
                        · skip
                          refine F_val rfl rfl rfl (O_move rfl rfl) ?_
                          obtain ⟨b1155, Hb1155, H⟩ := of_bind H
                          refine F_grp 8 [(78, .bool b1155), (0, .slice A_lens_0 l_lens_0.length c_lens_0), (4, .slice A985 l987.length c986), (5, .int .i64 at_988), (7, .int .i64 m_1043), (8, .pointer (some ⟨g1093, 0, none⟩))] ?_ ?_
                          · rcases Decidable.em (((x995 ≠ 0) ∧ (3 ≤ m_1043)) ∧ (0 < at_988)) with c1159 | c1159
                            · refine F_know (i := 70) rfl (dec_t c1159) ?_
                              have H := of_pos Hb1155 c1159
                              refine F_gval rfl rfl rfl rfl rfl rfl (O_move rfl rfl) ?_
                              refine F_gval rfl rfl rfl rfl rfl rfl (O_move rfl rfl) ?_
                              refine F_gval rfl rfl rfl rfl rfl rfl (O_sub rfl rfl rfl) ?_
                              obtain ⟨⟨g1160, g1161⟩, H⟩ := of_gd H
                              refine F_gval rfl rfl rfl rfl rfl rfl (O_idx rfl rfl rfl Tryd.underlying26 size3 g1160 g1161 (Cells.isA (HS1096.cells_rd (i := 0) rfl) (rowC_ne (E := (Eint .i64)) g1160 g1161 (by decide)))) ?_
                              refine F_gval rfl rfl rfl rfl rfl rfl (O_loadC rfl rfl flat3 (HS1096.cells_rd (i := 0) rfl) (int_cell g1160 g1161)) ?_
                              refine F_gval rfl rfl rfl rfl rfl rfl (O_move rfl rfl) ?_
                              refine F_gval rfl rfl rfl rfl rfl rfl (O_eq rfl rfl rfl) ?_
                              refine F_val rfl rfl rfl (O_pickT rfl rfl rfl) ?_
                              refine F_know (i := 78) rfl (congrArg Value.bool (Option.some.inj H)) ?_
                              exact F_grpE (fun a ha => Is.cons ha (Is.cons ha (Is.cons ha (Is.cons ha (Is.cons ha (Is.cons ha (Is.nil ha) rfl) rfl) rfl) rfl) rfl) rfl)
                            · refine F_know (i := 70) rfl (dec_f c1159) ?_
                              have H := of_neg Hb1155 c1159
                              refine F_gskip rfl rfl rfl rfl rfl rfl rfl ?_
                              refine F_gskip rfl rfl rfl rfl rfl rfl rfl ?_
                              refine F_gskip rfl rfl rfl rfl rfl rfl rfl ?_
                              refine F_gskip rfl rfl rfl rfl rfl rfl rfl ?_
                              refine F_gskip rfl rfl rfl rfl rfl rfl rfl ?_
                              refine F_gskip rfl rfl rfl rfl rfl rfl rfl ?_
                              refine F_gskip rfl rfl rfl rfl rfl rfl rfl ?_
                              refine F_val rfl rfl rfl (O_pickF rfl rfl rfl) ?_
                              refine F_know (i := 78) rfl (congrArg Value.bool (Option.some.inj H)) ?_
                              exact F_grpE (fun a ha => Is.cons ha (Is.cons ha (Is.cons ha (Is.cons ha (Is.cons ha (Is.cons ha (Is.nil ha) rfl) rfl) rfl) rfl) rfl) rfl)
                          · skip
                            refine F_val rfl rfl rfl (O_assign rfl rfl) ?_
                            refine F_nil ?_
                            refine L_cond rfl (fun c1162 => ?_) (fun c1162 => ?_)
                            · have H := of_pos H c1162
                              refine L_region ?_
                              refine F_val rfl rfl rfl (O_move rfl rfl) ?_
                              refine F_val rfl rfl rfl (O_min rfl rfl rfl) ?_
                              refine F_val rfl rfl rfl (O_build (vs := [(0, .int .i64 16), (1, .int .i64 (min m_1043 6))]) (v := .agg #[.int .i64 16, .int .i64 (min m_1043 6)]) rfl rfl rfl (fun w => by kernel_rfl)) ?_
                              refine F_stB 2 ([.int .i64 16, .int .i64 (min m_1043 6)]) rfl rfl rfl rfl rfl size25 HS1096 rfl rfl rfl rfl rfl (fun w1163 HS1164 => ?_)
                              have HS1164 : Hp S0 w0 w1163 [.rd A_lens_0 (rowC (Eint .i64) l_lens_0), .own A985 c986 (rowC E_api_Run l987) 25 E_api_Run.sz, .box g1093 [.int .i64 16, .int .i64 (min m_1043 6)] 25] := HS1164
                              refine F_nil ?_
                              refine L_nil (fun a ha => hNj1102 a _ ⟨_, _, (Option.some.inj H).symm, Is.cons ha (Is.cons ha (Is.cons ha (Is.cons ha (Is.nil ha) rfl) rfl) rfl) rfl, HS1164.sel [0, 1, 2] rfl⟩)
                            · have H := of_neg H (by rw [c1162]; exact Bool.false_ne_true)
                              refine L_skip ?_
                              refine L_nil (fun a ha => hNj1102 a _ ⟨_, _, (Option.some.inj H).symm, Is.cons ha (Is.cons ha (Is.cons ha (Is.cons ha (Is.nil ha) rfl) rfl) rfl) rfl, HS1096.sel [0, 1, 2] rfl⟩)
              · obtain ⟨y1133, y1134, rfl, ha, HS1166⟩ := hR
                refine wpLF_app ?_ ha
                refine L_endB hN1097 ?_
                refine L_seq ?_
                refine L_region ?_
                refine F_val rfl rfl rfl (O_move rfl rfl) ?_
                refine F_val rfl rfl rfl (O_loadWB' (k := 0) (vs := [.int .i64 y1133, .int .i64 y1134]) rfl rfl wide25 (HS1166.cells_box (i := 2) rfl) rfl rfl (by simp)) ?_
                refine F_litE (E := E_api_Run) (e := 25) [(0, .agg #[.int .i64 y1133, .int .i64 y1134])] [(y1133, y1134)] rfl rfl rfl rfl rfl rfl rfl (by decide) (fun w => by kernel_rfl) HS1166 (fun w1167 A1169 c1170 HS1168 => ?_)
                have HS1168 : Hp S0 w0 w1167 [.rd A_lens_0 (rowC (Eint .i64) l_lens_0), .own A985 c986 (rowC E_api_Run l987) 25 E_api_Run.sz, .box g1093 [.int .i64 y1133, .int .i64 y1134] 25, .own A1169 c1170 (rowC E_api_Run [(y1133, y1134)]) 25 E_api_Run.sz] := HS1168
                obtain ⟨l1174, h1175, H⟩ := of_bnd H
                obtain ⟨g1176, H⟩ := of_gd H
                refine F_appE (E := E_api_Run) (xs := l987) (ys := [(y1133, y1134)]) (i := 1) rfl rfl rfl rfl Tryd.underlying22 info25 rfl (by decide) (by decide) rfl rfl HS1168 rfl (HS1168.cells_own (i := 3) rfl) h1175 g1176 (fun w1172 A1177 c1178 HS1173 => ?_)
                have HS1173 : Hp S0 w0 w1172 [.rd A_lens_0 (rowC (Eint .i64) l_lens_0), .own A1177 c1178 (rowC E_api_Run l1174) 25 E_api_Run.sz, .box g1093 [.int .i64 y1133, .int .i64 y1134] 25, .own A1169 c1170 (rowC E_api_Run [(y1133, y1134)]) 25 E_api_Run.sz] := HS1173
                refine F_val rfl rfl rfl (O_assign rfl rfl) ?_
                refine F_nil ?_
                refine L_seq ?_
                refine L_region ?_
                refine F_val rfl rfl rfl (O_move rfl rfl) ?_
                refine F_val rfl rfl rfl (O_fieldB rfl rfl field25_1) ?_
                refine F_val rfl rfl rfl (O_loadB rfl rfl flat3 (HS1173.cells_box (i := 2) rfl) rfl) ?_
                refine F_val rfl rfl rfl (O_add rfl rfl rfl) ?_
                obtain ⟨x1179, h1180, H⟩ := of_bnd H
                refine F_val rfl rfl rfl (O_assign' rfl rfl (congrArg (Value.int .i64) h1180)) ?_
                refine F_nil ?_
                refine L_exitB hX992 ?_
                refine L_nil (fun a ha => hNp984 _ a _ (Nat.lt_succ_self _) ⟨_, _, _, _, Is.cons ha (Is.cons ha (Is.cons ha (Is.nil ha) rfl) rfl) rfl, HS1173.sel [0, 1] rfl, H⟩)
        · have H := of_neg H c991
          refine L_exitB (fun a w h => hOp984 (.exit 0) a w rfl (hXb599 a w h)) ?_
          refine L_nil (fun a ha => hNj13 a _ ⟨_, _, _, (Option.some.inj H).symm, Is.cons ha (Is.nil ha) rfl, HS990.sel [0, 1] rfl⟩)
    · obtain ⟨l598, A596, c597, ej, ha, HS1182⟩ := hR
      obtain rfl := ej.symm
      refine wpLF_app ?_ ha
      refine L_seq ?_
      refine L_region ?_
      refine F_val rfl rfl rfl (O_move rfl rfl) ?_
      refine F_val rfl rfl rfl (O_assign rfl rfl) ?_
      refine F_val rfl rfl rfl (O_assign rfl rfl) ?_
      refine F_nil ?_
      refine L_ret (fun a ha => (hO1 .ret a _ rfl (post_ret2 ha rfl rfl rfl ?_)))
      obtain rfl := Option.some.inj H
      exact ⟨_, _, rfl, HS1182.sel [1] rfl⟩

/-! function 24: valise/valiselaw7.within -/
theorem valiselaw7_within.calls {S0 : Nat → Prop} {w0 : World} {A_lens_0 : Option Addr} {c_lens_0 : Nat} {l_lens_0 : List Int} {r : Bool} (HS0 : Hp S0 w0 w0 [.rd A_lens_0 (rowC (Eint .i64) l_lens_0)]) (hc_lens_0 : l_lens_0.length ≤ c_lens_0) (h : valiselaw7_within.f l_lens_0 = some r) :
    Calls Tryd.prog 24 ([.slice A_lens_0 l_lens_0.length c_lens_0] : List Value).toArray w0 (fun e w => e = .returned (.bool r) ∧ Hp S0 w0 w []) := by
  have H : (((valiselaw7_within.l1 FU 0 l_lens_0).bind fun (yj1 : Sum (Bool) (Unit)) => onR yj1 (fun r => some r) fun () => some true) : Option (Bool)) = some r := h
  refine calls_start Tryd.func24 rfl rfl ?_
  refine L_seq ?_
  refine L_region ?_
  refine F_val rfl rfl rfl (O_assign rfl rfl) ?_
  refine F_nil ?_
  refine L_seq ?_
  refine L_seq ?_
  refine L_region ?_
  refine F_val rfl rfl rfl (O_assign rfl rfl) ?_
  refine F_nil ?_
  obtain ⟨yj1, Hyj1, H⟩ := of_bind H
  refine L_join (fun a w => yj1 = Sum.inr () ∧ Is Tryd.f24.ntmps a [] ∧ Hp S0 w0 w [.rd A_lens_0 (rowC (Eint .i64) l_lens_0)]) (fun Qj1 hNj1 hOj1 => ?_) (fun a w hR => ?_)
  · have HOj1 := H
    have H := Hyj1
    refine L_blk (fun Qb41 hNb41 hXb41 hOb41 => ?_)
    refine L_lp (fun k a w => ∃ (i_66 : Int), Is Tryd.f24.ntmps a [(0, .slice A_lens_0 l_lens_0.length c_lens_0), (3, .int .i64 i_66)] ∧ Hp S0 w0 w [.rd A_lens_0 (rowC (Eint .i64) l_lens_0)] ∧ valiselaw7_within.l1 k i_66 l_lens_0 = some yj1) FU (fun a ha => ⟨_, Is.cons ha (Is.cons ha (Is.nil ha) rfl) rfl, HS0.sel [0] rfl, H⟩) (fun kp65 a w67 hI Qp65 hNp65 hOp65 => ?_)
    obtain ⟨i_66, ha, HS68, HAp65⟩ := hI
    cases kp65 with
    | zero => cases (show (none : Option _) = some _ from HAp65)
    | succ kp65 =>
      have H := (valiselaw7_within.l1.eq_2 ..).symm.trans HAp65
      refine wpLF_app ?_ ha
      refine L_seq ?_
      refine L_seq ?_
      refine L_region ?_
      refine F_val rfl rfl rfl (O_move rfl rfl) ?_
      refine F_val rfl rfl rfl (O_move rfl rfl) ?_
      refine F_val rfl rfl rfl (O_len rfl rfl Tryd.underlying26) ?_
      refine F_val rfl rfl rfl (O_lt rfl rfl rfl) ?_
      refine F_nil ?_
      refine L_condP rfl (fun c69 => ?_) (fun c69 => ?_)
      · have H := of_pos H c69
        refine L_skip ?_
        refine L_seq ?_
        refine L_blk (fun Q70 hN70 hX70 hO70 => ?_)
        refine L_seq ?_
        refine L_region ?_
        refine F_val rfl rfl rfl (O_move rfl rfl) ?_
        refine F_val rfl rfl rfl (O_move rfl rfl) ?_
        obtain ⟨⟨g71, g72⟩, H⟩ := of_gd H
        refine F_val rfl rfl rfl (O_idx rfl rfl rfl Tryd.underlying26 size3 g71 g72 (Cells.isA (HS68.cells_rd (i := 0) rfl) (rowC_ne (E := (Eint .i64)) g71 g72 (by decide)))) ?_
        refine F_val rfl rfl rfl (O_loadC rfl rfl flat3 (HS68.cells_rd (i := 0) rfl) (int_cell g71 g72)) ?_
        refine F_val rfl rfl rfl (O_lt rfl rfl rfl) ?_
        refine F_val rfl rfl rfl (O_move rfl rfl) ?_
        refine F_grp 6 [(21, .bool (decide ((rd l_lens_0 i_66 < 0) ∨ (15 < rd l_lens_0 i_66)))), (0, .slice A_lens_0 l_lens_0.length c_lens_0), (3, .int .i64 i_66)] ?_ ?_
        · rcases Decidable.em (rd l_lens_0 i_66 < 0) with c76 | c76
          · refine F_know (i := 15) rfl (dec_t c76) ?_
            refine F_gskip rfl rfl rfl rfl rfl rfl rfl ?_
            refine F_gskip rfl rfl rfl rfl rfl rfl rfl ?_
            refine F_gskip rfl rfl rfl rfl rfl rfl rfl ?_
            refine F_gskip rfl rfl rfl rfl rfl rfl rfl ?_
            refine F_gskip rfl rfl rfl rfl rfl rfl rfl ?_
            refine F_val rfl rfl rfl (O_pickT rfl rfl rfl) ?_
            refine F_know (i := 21) rfl (dec_or_t (q := 15 < rd l_lens_0 i_66) c76) ?_
            exact F_grpE (fun a ha => Is.cons ha (Is.cons ha (Is.cons ha (Is.nil ha) rfl) rfl) rfl)
          · refine F_know (i := 15) rfl (dec_f c76) ?_
            refine F_gval rfl rfl rfl rfl rfl rfl (O_move rfl rfl) ?_
            refine F_gval rfl rfl rfl rfl rfl rfl (O_move rfl rfl) ?_
            refine F_gval rfl rfl rfl rfl rfl rfl (O_idx rfl rfl rfl Tryd.underlying26 size3 g71 g72 (Cells.isA (HS68.cells_rd (i := 0) rfl) (rowC_ne (E := (Eint .i64)) g71 g72 (by decide)))) ?_
            refine F_gval rfl rfl rfl rfl rfl rfl (O_loadC rfl rfl flat3 (HS68.cells_rd (i := 0) rfl) (int_cell g71 g72)) ?_
            refine F_gval rfl rfl rfl rfl rfl rfl (O_gt rfl rfl rfl) ?_
            refine F_val rfl rfl rfl (O_pickF rfl rfl rfl) ?_
            refine F_know (i := 21) rfl (dec_or_f (q := 15 < rd l_lens_0 i_66) c76) ?_
            exact F_grpE (fun a ha => Is.cons ha (Is.cons ha (Is.cons ha (Is.nil ha) rfl) rfl) rfl)
        · skip
          refine F_nil ?_
          refine L_condP rfl (fun c77 => ?_) (fun c77 => ?_)
          · have H := of_pos H c77
            refine L_seq ?_
            refine L_region ?_
            refine F_val rfl rfl rfl (O_assign rfl rfl) ?_
            refine F_nil ?_
            refine L_ret (fun a ha => (hO70 .ret a _ rfl (hOp65 .ret a _ rfl (hOb41 .ret a _ rfl (hOj1 .ret a _ rfl (post_ret1 ha rfl rfl ?_))))))
            obtain rfl := Option.some.inj H
            obtain rfl := Option.some.inj (show (some false : Option (Bool)) = some _ from HOj1)
            exact ⟨rfl, HS68.sel [] rfl⟩
          · have H := of_neg H c77
            refine L_skip ?_
            refine L_endB hN70 ?_
            refine L_region ?_
            refine F_val rfl rfl rfl (O_move rfl rfl) ?_
            refine F_val rfl rfl rfl (O_add rfl rfl rfl) ?_
            obtain ⟨x78, h79, H⟩ := of_bnd H
            refine F_val rfl rfl rfl (O_assign' rfl rfl (congrArg (Value.int .i64) h79)) ?_
            refine F_nil ?_
            refine L_nil (fun a ha => hNp65 _ a _ (Nat.lt_succ_self _) ⟨_, Is.cons ha (Is.cons ha (Is.nil ha) rfl) rfl, HS68.sel [0] rfl, H⟩)
      · have H := of_neg H c69
        refine L_exitB (fun a w h => hOp65 (.exit 0) a w rfl (hXb41 a w h)) ?_
        refine L_nil (fun a ha => hNj1 a _ ⟨(Option.some.inj H).symm, Is.nil ha, HS68.sel [0] rfl⟩)
  · obtain ⟨rfl, ha, HS81⟩ := hR
    refine wpLF_app ?_ ha
    have H := (onR_inr _ _ _).symm.trans H
    refine L_seq ?_
    refine L_region ?_
    refine F_val rfl rfl rfl (O_assign rfl rfl) ?_
    refine F_nil ?_
    refine L_ret (fun a ha => (post_ret1 ha rfl rfl ?_))
    obtain rfl := Option.some.inj H
    exact ⟨rfl, HS81.sel [] rfl⟩

/-! function 19: valise/valiselaw7.num -/
theorem valiselaw7_num.calls {S0 : Nat → Prop} {w0 : World} {e_0 : Int} {r : Int} (HS0 : Hp S0 w0 w0 []) (h : valiselaw7_num.f e_0 = some r) :
    Calls Tryd.prog 19 ([.int .i64 e_0] : List Value).toArray w0 (fun e w => e = .returned (.int .i64 r) ∧ Hp S0 w0 w []) := by
  have H : ((some e_0) : Option (Int)) = some r := h
  refine calls_start Tryd.func19 rfl rfl ?_
  refine L_seq ?_
  refine L_region ?_
  refine F_val rfl rfl rfl (O_assign rfl rfl) ?_
  refine F_nil ?_
  refine L_seq ?_
  refine L_region ?_
  refine F_val rfl rfl rfl (O_move rfl rfl) ?_
  refine F_val rfl rfl rfl (O_assign rfl rfl) ?_
  refine F_nil ?_
  refine L_ret (fun a ha => (post_ret1 ha rfl rfl ?_))
  obtain rfl := Option.some.inj H
  exact ⟨rfl, HS0.sel [] rfl⟩

/-! function 25: valise/valiselaw7.further -/
theorem valiselaw7_further.calls {S0 : Nat → Prop} {w0 : World} {sym_0 : Int} {r : Int × Int × Int} (HS0 : Hp S0 w0 w0 []) (h : valiselaw7_further.f sym_0 = some r) :
    Calls Tryd.prog 25 ([.int .i64 sym_0] : List Value).toArray w0 (fun e w => e = .returned (.tuple #[.int .i64 r.1, .int .i64 r.2.1, .int .i64 r.2.2]) ∧ Hp S0 w0 w []) := by
  have H : ((if sym_0 = 16 then (some (2, 3, 6)) else (if sym_0 = 17 then (some (3, 3, 10)) else (if sym_0 = 18 then (some (7, 11, 138)) else (some (0, 1, 1))))) : Option (Int × Int × Int)) = some r := h
  refine calls_start Tryd.func25 rfl rfl ?_
  refine L_seq ?_
  refine L_region ?_
  refine F_val rfl rfl rfl (O_assign rfl rfl) ?_
  refine F_val rfl rfl rfl (O_assign rfl rfl) ?_
  refine F_val rfl rfl rfl (O_assign rfl rfl) ?_
  refine F_nil ?_
  refine L_seq ?_
  refine L_seq ?_
  refine L_region ?_
  refine F_val rfl rfl rfl (O_move rfl rfl) ?_
  refine F_nil ?_
  refine L_blk (fun Q1 hN1 hX1 hO1 => ?_)
  refine L_seq ?_
  refine L_region ?_
  refine F_val rfl rfl rfl (O_eq rfl rfl rfl) ?_
  refine F_val rfl rfl rfl (O_assign rfl rfl) ?_
  refine F_nil ?_
  refine L_condP rfl (fun c2 => ?_) (fun c2 => ?_)
  · have H := of_pos H c2
    refine L_seq ?_
    refine L_region ?_
    refine F_val rfl rfl rfl (O_assign rfl rfl) ?_
    refine F_val rfl rfl rfl (O_assign rfl rfl) ?_
    refine F_val rfl rfl rfl (O_assign rfl rfl) ?_
    refine F_nil ?_
    refine L_ret (fun a ha => (hO1 .ret a _ rfl (post_ret3 ha rfl rfl rfl rfl ?_)))
    obtain rfl := Option.some.inj H
    exact ⟨rfl, HS0.sel [] rfl⟩
  · have H := of_neg H c2
    refine L_seq ?_
    refine L_region ?_
    refine F_val rfl rfl rfl (O_eq rfl rfl rfl) ?_
    refine F_val rfl rfl rfl (O_assign rfl rfl) ?_
    refine F_nil ?_
    refine L_condP rfl (fun c3 => ?_) (fun c3 => ?_)
    · have H := of_pos H c3
      refine L_seq ?_
      refine L_region ?_
      refine F_val rfl rfl rfl (O_assign rfl rfl) ?_
      refine F_val rfl rfl rfl (O_assign rfl rfl) ?_
      refine F_val rfl rfl rfl (O_assign rfl rfl) ?_
      refine F_nil ?_
      refine L_ret (fun a ha => (hO1 .ret a _ rfl (post_ret3 ha rfl rfl rfl rfl ?_)))
      obtain rfl := Option.some.inj H
      exact ⟨rfl, HS0.sel [] rfl⟩
    · have H := of_neg H c3
      refine L_seq ?_
      refine L_region ?_
      refine F_val rfl rfl rfl (O_eq rfl rfl rfl) ?_
      refine F_val rfl rfl rfl (O_assign rfl rfl) ?_
      refine F_nil ?_
      refine L_condP rfl (fun c4 => ?_) (fun c4 => ?_)
      · have H := of_pos H c4
        refine L_seq ?_
        refine L_region ?_
        refine F_val rfl rfl rfl (O_assign rfl rfl) ?_
        refine F_val rfl rfl rfl (O_assign rfl rfl) ?_
        refine F_val rfl rfl rfl (O_assign rfl rfl) ?_
        refine F_nil ?_
        refine L_ret (fun a ha => (hO1 .ret a _ rfl (post_ret3 ha rfl rfl rfl rfl ?_)))
        obtain rfl := Option.some.inj H
        exact ⟨rfl, HS0.sel [] rfl⟩
      · have H := of_neg H c4
        refine L_skip ?_
        refine L_endB hN1 ?_
        refine L_seq ?_
        refine L_region ?_
        refine F_val rfl rfl rfl (O_assign rfl rfl) ?_
        refine F_val rfl rfl rfl (O_assign rfl rfl) ?_
        refine F_val rfl rfl rfl (O_assign rfl rfl) ?_
        refine F_nil ?_
        refine L_ret (fun a ha => (post_ret3 ha rfl rfl rfl rfl ?_))
        obtain rfl := Option.some.inj H
        exact ⟨rfl, HS0.sel [] rfl⟩

/-! function 54: valise/header.lay -/
theorem header_lay.calls {S0 : Nat → Prop} {w0 : World} {A_l_0 : Option Addr} {c_l_0 : Nat} {l_l_0 : List Int} {r_1_Sym : Int} {r_1_Count : Int} {r : List Int} (HS0 : Hp S0 w0 w0 [.own A_l_0 c_l_0 (rowC (Eint .i64) l_l_0) 3 (Eint .i64).sz]) (h : header_lay.f l_l_0 r_1_Sym r_1_Count = some r) :
    Calls Tryd.prog 54 ([.slice A_l_0 l_l_0.length c_l_0, .agg #[.int .i64 r_1_Sym, .int .i64 r_1_Count]] : List Value).toArray w0 (fun e w => ∃ (A1 : Option Addr), ∃ (c1 : Nat), e = .returned (.slice A1 r.length c1) ∧ Hp S0 w0 w [.own A1 c1 (rowC (Eint .i64) r) 3 (Eint .i64).sz]) := by
  have H : (((if r_1_Sym = 16 then (gd ((0 : Int) ≤ (IntKind.i64.wrap ((l_l_0.length : Int) - 1)) ∧ (IntKind.i64.wrap ((l_l_0.length : Int) - 1)) < (l_l_0.length : Int)) (bnd (rd l_l_0 (IntKind.i64.wrap ((l_l_0.length : Int) - 1))) fun x23 => some x23)) else ((if r_1_Sym = 17 then (some (decide (r_1_Sym = 17))) else (some (decide (r_1_Sym = 18)))).bind fun t27 => if t27 = true then (some 0) else (some r_1_Sym))).bind fun v_19 => (header_lay.l1 FU l_l_0 0 r_1_Count v_19).bind fun l91 => some l91) : Option (List Int)) = some r := h
  refine calls_start Tryd.func54 rfl rfl ?_
  refine L_seq ?_
  refine L_region ?_
  refine F_box (C := [.int .i64 r_1_Sym, .int .i64 r_1_Count]) rfl rfl rfl rfl rfl rfl HS0 (fun w1 g3 HS2 => ?_)
  have HS2 : Hp S0 w0 w1 [.own A_l_0 c_l_0 (rowC (Eint .i64) l_l_0) 3 (Eint .i64).sz, .box g3 [.int .i64 r_1_Sym, .int .i64 r_1_Count] 25] := HS2
  refine F_val rfl rfl rfl (O_assign rfl rfl) ?_
  refine F_nil ?_
  refine L_seq ?_
  refine L_region ?_
  refine F_val rfl rfl rfl (O_fieldB rfl rfl field25_0) ?_
  refine F_val rfl rfl rfl (O_loadB rfl rfl flat3 (HS2.cells_box (i := 1) rfl) rfl) ?_
  refine F_val rfl rfl rfl (O_assign rfl rfl) ?_
  refine F_nil ?_
  refine L_seq ?_
  refine L_seq ?_
  refine L_region ?_
  refine F_val rfl rfl rfl (O_fieldB rfl rfl field25_0) ?_
  refine F_val rfl rfl rfl (O_loadB rfl rfl flat3 (HS2.cells_box (i := 1) rfl) rfl) ?_
  refine F_nil ?_
  refine L_blk (fun Q5 hN5 hX5 hO5 => ?_)
  refine L_seq ?_
  refine L_region ?_
  refine F_val rfl rfl rfl (O_eq rfl rfl rfl) ?_
  refine F_val rfl rfl rfl (O_assign rfl rfl) ?_
  refine F_nil ?_
  obtain ⟨yj6, Hyj6, H⟩ := of_bind H
  refine L_join (fun a w => ∃ (v_19 : Int), yj6 = v_19 ∧ Is Tryd.f54.ntmps a [(0, .slice A_l_0 l_l_0.length c_l_0), (3, .pointer (some ⟨g3, 0, none⟩)), (5, .int .i64 v_19)] ∧ Hp S0 w0 w [.own A_l_0 c_l_0 (rowC (Eint .i64) l_l_0) 3 (Eint .i64).sz, .box g3 [.int .i64 r_1_Sym, .int .i64 r_1_Count] 25]) (fun Qj6 hNj6 hOj6 => ?_) (fun a w hR => ?_)
  · skip
    have H := Hyj6
    refine L_condP rfl (fun c20 => ?_) (fun c20 => ?_)
    · have H := of_pos H c20
      refine L_region ?_
      refine F_val rfl rfl rfl (O_move rfl rfl) ?_
      refine F_val rfl rfl rfl (O_move rfl rfl) ?_
      refine F_val rfl rfl rfl (O_len rfl rfl Tryd.underlying26) ?_
      refine F_val rfl rfl rfl (O_sub rfl rfl rfl) ?_
      obtain ⟨⟨g21, g22⟩, H⟩ := of_gd H
      refine F_val rfl rfl rfl (O_idx rfl rfl rfl Tryd.underlying26 size3 g21 g22 (Cells.isA (HS2.cells_own (i := 0) rfl) (rowC_ne (E := (Eint .i64)) g21 g22 (by decide)))) ?_
      refine F_val rfl rfl rfl (O_loadC rfl rfl flat3 (HS2.cells_own (i := 0) rfl) (int_cell g21 g22)) ?_
      obtain ⟨x23, h24, H⟩ := of_bnd H
      refine F_val rfl rfl rfl (O_assign' rfl rfl (congrArg (Value.int .i64) h24)) ?_
      refine F_nil ?_
      refine L_nil (fun a ha => hNj6 a _ ⟨_, (Option.some.inj H).symm, Is.cons ha (Is.cons ha (Is.cons ha (Is.nil ha) rfl) rfl) rfl, HS2.sel [0, 1] rfl⟩)
    · have H := of_neg H c20
      refine L_seq ?_
      refine L_seq ?_
      refine L_region ?_
      refine F_val rfl rfl rfl (O_eq rfl rfl rfl) ?_
      refine F_val rfl rfl rfl (O_assign rfl rfl) ?_
      refine F_nil ?_
      obtain ⟨yj25, Hyj25, H⟩ := of_bind H
      refine L_join (fun a w => ∃ (t27 : Bool), yj25 = t27 ∧ Is Tryd.f54.ntmps a [(0, .slice A_l_0 l_l_0.length c_l_0), (3, .pointer (some ⟨g3, 0, none⟩)), (5, .int .i64 r_1_Sym), (18, .bool t27)] ∧ Hp S0 w0 w [.own A_l_0 c_l_0 (rowC (Eint .i64) l_l_0) 3 (Eint .i64).sz, .box g3 [.int .i64 r_1_Sym, .int .i64 r_1_Count] 25]) (fun Qj25 hNj25 hOj25 => ?_) (fun a w hR => ?_)
      · skip
        have H := Hyj25
        refine L_condP rfl (fun c28 => ?_) (fun c28 => ?_)
        · have H := of_pos H c28
          refine L_skip ?_
          refine L_nil (fun a ha => hNj25 a _ ⟨_, (Option.some.inj H).symm, Is.cons ha (Is.cons ha (Is.cons ha (Is.cons ha (Is.nil ha) rfl) rfl) rfl) rfl, HS2.sel [0, 1] rfl⟩)
        · have H := of_neg H c28
          refine L_region ?_
          refine F_val rfl rfl rfl (O_eq rfl rfl rfl) ?_
          refine F_val rfl rfl rfl (O_assign rfl rfl) ?_
          refine F_nil ?_
          refine L_nil (fun a ha => hNj25 a _ ⟨_, (Option.some.inj H).symm, Is.cons ha (Is.cons ha (Is.cons ha (Is.cons ha (Is.nil ha) rfl) rfl) rfl) rfl, HS2.sel [0, 1] rfl⟩)
      · obtain ⟨t27, ej, ha, HS30⟩ := hR
        obtain rfl := ej.symm
        refine wpLF_app ?_ ha
        refine L_cond rfl (fun c31 => ?_) (fun c31 => ?_)
        · have H := of_pos H c31
          refine L_region ?_
          refine F_val rfl rfl rfl (O_assign rfl rfl) ?_
          refine F_nil ?_
          refine L_nil (fun a ha => hNj6 a _ ⟨_, (Option.some.inj H).symm, Is.cons ha (Is.cons ha (Is.cons ha (Is.nil ha) rfl) rfl) rfl, HS30.sel [0, 1] rfl⟩)
        · have H := of_neg H (by rw [c31]; exact Bool.false_ne_true)
          refine L_skip ?_
          refine L_nil (fun a ha => hNj6 a _ ⟨_, (Option.some.inj H).symm, Is.cons ha (Is.cons ha (Is.cons ha (Is.nil ha) rfl) rfl) rfl, HS30.sel [0, 1] rfl⟩)
  · obtain ⟨v_19, ej, ha, HS33⟩ := hR
    obtain rfl := ej.symm
    refine wpLF_app ?_ ha
    refine L_endB hN5 ?_
    refine L_seq ?_
    refine L_seq ?_
    refine L_region ?_
    refine F_val rfl rfl rfl (O_fieldB rfl rfl field25_1) ?_
    refine F_val rfl rfl rfl (O_loadB rfl rfl flat3 (HS33.cells_box (i := 1) rfl) rfl) ?_
    refine F_val rfl rfl rfl (O_move rfl rfl) ?_
    refine F_nil ?_
    obtain ⟨yj34, Hyj34, H⟩ := of_bind H
    refine L_join (fun a w => ∃ (l91 : List Int), ∃ (A89 : Option Addr), ∃ (c90 : Nat), yj34 = l91 ∧ Is Tryd.f54.ntmps a [(0, .slice A89 l91.length c90)] ∧ Hp S0 w0 w [.own A89 c90 (rowC (Eint .i64) l91) 3 (Eint .i64).sz]) (fun Qj34 hNj34 hOj34 => ?_) (fun a w hR => ?_)
    · skip
      have H := Hyj34
      refine L_blk (fun Qb92 hNb92 hXb92 hOb92 => ?_)
      refine L_lp (fun k a w => ∃ (l128 : List Int), ∃ (t129 : Int), ∃ (A126 : Option Addr), ∃ (c127 : Nat), Is Tryd.f54.ntmps a [(0, .slice A126 l128.length c127), (5, .int .i64 v_19), (22, .int .i64 r_1_Count), (23, .int .i64 t129)] ∧ Hp S0 w0 w [.own A126 c127 (rowC (Eint .i64) l128) 3 (Eint .i64).sz] ∧ header_lay.l1 k l128 t129 r_1_Count v_19 = some yj34) FU (fun a ha => ⟨_, _, _, _, Is.cons ha (Is.cons ha (Is.cons ha (Is.cons ha (Is.nil ha) rfl) rfl) rfl) rfl, HS33.sel [0] rfl, H⟩) (fun kp125 a w130 hI Qp125 hNp125 hOp125 => ?_)
      obtain ⟨l128, t129, A126, c127, ha, HS131, HAp125⟩ := hI
      cases kp125 with
      | zero => cases (show (none : Option _) = some _ from HAp125)
      | succ kp125 =>
        have H := (header_lay.l1.eq_2 ..).symm.trans HAp125
        refine wpLF_app ?_ ha
        refine L_seq ?_
        refine L_region ?_
        refine F_val rfl rfl rfl (O_lt rfl rfl rfl) ?_
        refine F_nil ?_
        refine L_seq ?_
        refine L_condP rfl (fun c132 => ?_) (fun c132 => ?_)
        · have H := of_pos H c132
          refine L_skip ?_
          refine L_seq ?_
          refine L_blk (fun Q133 hN133 hX133 hO133 => ?_)
          refine L_region ?_
          refine F_val rfl rfl rfl (O_move rfl rfl) ?_
          refine F_val rfl rfl rfl (O_move rfl rfl) ?_
          refine F_litE (E := (Eint .i64)) (e := 3) [(0, .int .i64 v_19)] [v_19] rfl rfl rfl rfl rfl rfl rfl (by decide) (fun w => by kernel_rfl) HS131 (fun w134 A136 c137 HS135 => ?_)
          have HS135 : Hp S0 w0 w134 [.own A126 c127 (rowC (Eint .i64) l128) 3 (Eint .i64).sz, .own A136 c137 (rowC (Eint .i64) [v_19]) 3 (Eint .i64).sz] := HS135
          obtain ⟨l141, h142, H⟩ := of_bnd H
          obtain ⟨g143, H⟩ := of_gd H
          refine F_appE (E := (Eint .i64)) (xs := l128) (ys := [v_19]) (i := 0) rfl rfl rfl rfl Tryd.underlying26 info3 rfl (by decide) (by decide) rfl rfl HS135 rfl (HS135.cells_own (i := 1) rfl) h142 g143 (fun w139 A144 c145 HS140 => ?_)
          have HS140 : Hp S0 w0 w139 [.own A144 c145 (rowC (Eint .i64) l141) 3 (Eint .i64).sz, .own A136 c137 (rowC (Eint .i64) [v_19]) 3 (Eint .i64).sz] := HS140
          refine F_val rfl rfl rfl (O_assign rfl rfl) ?_
          refine F_nil ?_
          refine L_endB hN133 ?_
          refine L_region ?_
          refine F_val rfl rfl rfl (O_add rfl rfl rfl) ?_
          refine F_val rfl rfl rfl (O_move rfl rfl) ?_
          refine F_nil ?_
          refine L_nil (fun a ha => hNp125 _ a _ (Nat.lt_succ_self _) ⟨_, _, _, _, Is.cons ha (Is.cons ha (Is.cons ha (Is.cons ha (Is.nil ha) rfl) rfl) rfl) rfl, HS140.sel [0] rfl, H⟩)
        · have H := of_neg H c132
          refine L_exitB (fun a w h => hOp125 (.exit 1) a w rfl (hXb92 a w h)) ?_
          refine L_nil (fun a ha => hNj34 a _ ⟨_, _, _, (Option.some.inj H).symm, Is.cons ha (Is.nil ha) rfl, HS131.sel [0] rfl⟩)
    · obtain ⟨l91, A89, c90, ej, ha, HS147⟩ := hR
      obtain rfl := ej.symm
      refine wpLF_app ?_ ha
      refine L_seq ?_
      refine L_region ?_
      refine F_val rfl rfl rfl (O_move rfl rfl) ?_
      refine F_val rfl rfl rfl (O_assign rfl rfl) ?_
      refine F_nil ?_
      refine L_ret (fun a ha => (post_ret1 ha rfl rfl ?_))
      obtain rfl := Option.some.inj H
      exact ⟨_, _, rfl, HS147.sel [0] rfl⟩

/-! function 17: valise/header.Expand -/
theorem header_Expand.calls {S0 : Nat → Prop} {w0 : World} {A_runs_0 : Option Addr} {c_runs_0 : Nat} {l_runs_0 : List (Int × Int)} {r : List Int × Int} (HS0 : Hp S0 w0 w0 [.rd A_runs_0 (rowC E_api_Run l_runs_0), .rd (some ⟨0, 0, none⟩) (rowC (Eint .i64) T_header_least), .rd (some ⟨1, 0, none⟩) (rowC (Eint .i64) T_header_further)]) (hc_runs_0 : l_runs_0.length ≤ c_runs_0) (h : header_Expand.f l_runs_0 = some r) :
    Calls Tryd.prog 17 ([.slice A_runs_0 l_runs_0.length c_runs_0] : List Value).toArray w0 (fun e w => ∃ (A1 : Option Addr), ∃ (c1 : Nat), e = .returned (.tuple #[.slice A1 r.1.length c1, .int .i64 r.2]) ∧ Hp S0 w0 w [.own A1 c1 (rowC (Eint .i64) r.1) 3 (Eint .i64).sz]) := by
  have H : (((header_Expand.l1 FU ([] : List Int) 0 l_runs_0).bind fun (yj3 : Sum (List Int × Int) (List Int)) => onR yj3 (fun r => some r) fun l189 => some (l189, 0)) : Option (List Int × Int)) = some r := h
  refine calls_start Tryd.func17 rfl rfl ?_
  refine L_seq ?_
  refine L_region ?_
  refine F_val rfl rfl rfl (O_assign rfl rfl) ?_
  refine F_val rfl rfl rfl (O_assign rfl rfl) ?_
  refine F_nil ?_
  refine L_seq ?_
  refine L_region ?_
  refine F_val rfl rfl rfl (O_assign rfl rfl) ?_
  have HS1 := HS0.addNil 3 (Eint .i64).sz
  have HS1 : Hp S0 w0 w0 [.rd A_runs_0 (rowC E_api_Run l_runs_0), .rd (some ⟨0, 0, none⟩) (rowC (Eint .i64) T_header_least), .rd (some ⟨1, 0, none⟩) (rowC (Eint .i64) T_header_further), .own none 0 (rowC (Eint .i64) ([] : List Int)) 3 (Eint .i64).sz] := HS1
  refine F_nil ?_
  refine L_seq ?_
  refine L_seq ?_
  refine L_region ?_
  refine F_val rfl rfl rfl (O_move rfl rfl) ?_
  refine F_val rfl rfl rfl (O_len rfl rfl Tryd.underlying22) ?_
  refine F_val rfl rfl rfl (O_move rfl rfl) ?_
  refine F_nil ?_
  obtain ⟨yj3, Hyj3, H⟩ := of_bind H
  refine L_join (fun a w => ∃ (l189 : List Int), ∃ (A187 : Option Addr), ∃ (c188 : Nat), yj3 = Sum.inr l189 ∧ Is Tryd.f17.ntmps a [(4, .slice A187 l189.length c188)] ∧ Hp S0 w0 w [.rd A_runs_0 (rowC E_api_Run l_runs_0), .rd (some ⟨0, 0, none⟩) (rowC (Eint .i64) T_header_least), .rd (some ⟨1, 0, none⟩) (rowC (Eint .i64) T_header_further), .own A187 c188 (rowC (Eint .i64) l189) 3 (Eint .i64).sz]) (fun Qj3 hNj3 hOj3 => ?_) (fun a w hR => ?_)
  · have HOj3 := H
    have H := Hyj3
    refine L_blk (fun Qb190 hNb190 hXb190 hOb190 => ?_)
    refine L_lp (fun k a w => ∃ (l312 : List Int), ∃ (t313 : Int), ∃ (A310 : Option Addr), ∃ (c311 : Nat), Is Tryd.f17.ntmps a [(4, .slice A310 l312.length c311), (7, .slice A_runs_0 l_runs_0.length c_runs_0), (8, .int .i64 (l_runs_0.length : Int)), (9, .int .i64 t313)] ∧ Hp S0 w0 w [.rd A_runs_0 (rowC E_api_Run l_runs_0), .rd (some ⟨0, 0, none⟩) (rowC (Eint .i64) T_header_least), .rd (some ⟨1, 0, none⟩) (rowC (Eint .i64) T_header_further), .own A310 c311 (rowC (Eint .i64) l312) 3 (Eint .i64).sz] ∧ header_Expand.l1 k l312 t313 l_runs_0 = some yj3) FU (fun a ha => ⟨_, _, _, _, Is.cons ha (Is.cons ha (Is.cons ha (Is.cons ha (Is.nil ha) rfl) rfl) rfl) rfl, HS1.sel [0, 1, 2, 3] rfl, H⟩) (fun kp309 a w314 hI Qp309 hNp309 hOp309 => ?_)
    obtain ⟨l312, t313, A310, c311, ha, HS315, HAp309⟩ := hI
    cases kp309 with
    | zero => cases (show (none : Option _) = some _ from HAp309)
    | succ kp309 =>
      have H := (header_Expand.l1.eq_2 ..).symm.trans HAp309
      refine wpLF_app ?_ ha
      refine L_seq ?_
      refine L_region ?_
      refine F_val rfl rfl rfl (O_lt rfl rfl rfl) ?_
      refine F_nil ?_
      refine L_seq ?_
      refine L_condP rfl (fun c316 => ?_) (fun c316 => ?_)
      · have H := of_pos H c316
        refine L_skip ?_
        refine L_seq ?_
        refine L_blk (fun Q317 hN317 hX317 hO317 => ?_)
        refine L_seq ?_
        refine L_region ?_
        obtain ⟨⟨g318, g319⟩, H⟩ := of_gd H
        refine F_val rfl rfl rfl (O_idx rfl rfl rfl Tryd.underlying22 size25 g318 g319 (Cells.isA (HS315.cells_rd (i := 0) rfl) (rowC_ne (E := E_api_Run) g318 g319 (by decide)))) ?_
        refine F_val rfl rfl rfl (O_loadEl (E := E_api_Run) rfl rfl wide25 (HS315.cells_rd (i := 0) rfl) g318 g319 (by decide)) ?_
        refine F_alloc (C := [.int .i64 0, .int .i64 0]) rfl rfl rfl rfl zero25 rfl HS315 (fun w320 g322 HS321 => ?_)
        have HS321 : Hp S0 w0 w320 [.rd A_runs_0 (rowC E_api_Run l_runs_0), .rd (some ⟨0, 0, none⟩) (rowC (Eint .i64) T_header_least), .rd (some ⟨1, 0, none⟩) (rowC (Eint .i64) T_header_further), .own A310 c311 (rowC (Eint .i64) l312) 3 (Eint .i64).sz, .box g322 [.int .i64 0, .int .i64 0] 25] := HS321
        refine F_stB 4 ([.int .i64 ((rdx E_api_Run l_runs_0 t313).1), .int .i64 ((rdx E_api_Run l_runs_0 t313).2)]) rfl rfl rfl rfl rfl size25 HS321 rfl rfl rfl rfl rfl (fun w324 HS325 => ?_)
        have HS325 : Hp S0 w0 w324 [.rd A_runs_0 (rowC E_api_Run l_runs_0), .rd (some ⟨0, 0, none⟩) (rowC (Eint .i64) T_header_least), .rd (some ⟨1, 0, none⟩) (rowC (Eint .i64) T_header_further), .own A310 c311 (rowC (Eint .i64) l312) 3 (Eint .i64).sz, .box g322 [.int .i64 ((rdx E_api_Run l_runs_0 t313).1), .int .i64 ((rdx E_api_Run l_runs_0 t313).2)] 25] := HS325
        refine F_nil ?_
        refine L_seq ?_
        refine L_seq ?_
        refine L_quiet mix (by kernel_rfl) ?_
        refine Q_val rfl rfl rfl (fun wq hq => O_fieldB rfl rfl field25_0) ?_
        refine Q_val rfl rfl rfl (fun wq hq => O_loadB rfl rfl flat3 ((HS325.keep hq).cells_box (i := 4) rfl) rfl) ?_
        refine Q_val rfl rfl rfl (fun wq hq => O_lt rfl rfl rfl) ?_
        refine Q_val rfl rfl rfl (fun wq hq => O_move rfl rfl) ?_
        refine Q_grp 4 [(20, .bool (decide (((rdx E_api_Run l_runs_0 t313).1 < 0) ∨ (19 ≤ (rdx E_api_Run l_runs_0 t313).1)))), (4, .slice A310 l312.length c311), (6, .pointer (some ⟨g322, 0, none⟩)), (7, .slice A_runs_0 l_runs_0.length c_runs_0), (8, .int .i64 (l_runs_0.length : Int)), (9, .int .i64 t313)] ?_ ?_
        · rcases Decidable.em ((rdx E_api_Run l_runs_0 t313).1 < 0) with c329 | c329
          · refine Q_know (i := 16) rfl (dec_t c329) ?_
            refine Q_gskip rfl rfl rfl rfl rfl rfl rfl ?_
            refine Q_gskip rfl rfl rfl rfl rfl rfl rfl ?_
            refine Q_gskip rfl rfl rfl rfl rfl rfl rfl ?_
            refine Q_val rfl rfl rfl (fun wq hq => O_pickT rfl rfl rfl) ?_
            refine Q_know (i := 20) rfl (dec_or_t (q := 19 ≤ (rdx E_api_Run l_runs_0 t313).1) c329) ?_
            exact Q_grpE (fun a ha => Is.cons ha (Is.cons ha (Is.cons ha (Is.cons ha (Is.cons ha (Is.cons ha (Is.nil ha) rfl) rfl) rfl) rfl) rfl) rfl)
          · refine Q_know (i := 16) rfl (dec_f c329) ?_
            refine Q_gval rfl rfl rfl rfl rfl rfl (fun wq hq => O_fieldB rfl rfl field25_0) ?_
            refine Q_gval rfl rfl rfl rfl rfl rfl (fun wq hq => O_loadB rfl rfl flat3 ((HS325.keep hq).cells_box (i := 4) rfl) rfl) ?_
            refine Q_gval rfl rfl rfl rfl rfl rfl (fun wq hq => O_ge rfl rfl rfl) ?_
            refine Q_val rfl rfl rfl (fun wq hq => O_pickF rfl rfl rfl) ?_
            refine Q_know (i := 20) rfl (dec_or_f (q := 19 ≤ (rdx E_api_Run l_runs_0 t313).1) c329) ?_
            exact Q_grpE (fun a ha => Is.cons ha (Is.cons ha (Is.cons ha (Is.cons ha (Is.cons ha (Is.cons ha (Is.nil ha) rfl) rfl) rfl) rfl) rfl) rfl)
        · skip
          refine Q_val rfl rfl rfl (fun wq hq => O_move rfl rfl) ?_
          obtain ⟨b332, Hb332, H⟩ := of_bind H
          refine Q_grp 8 [(29, .bool b332), (4, .slice A310 l312.length c311), (6, .pointer (some ⟨g322, 0, none⟩)), (7, .slice A_runs_0 l_runs_0.length c_runs_0), (8, .int .i64 (l_runs_0.length : Int)), (9, .int .i64 t313)] ?_ ?_
          · rcases Decidable.em (((rdx E_api_Run l_runs_0 t313).1 < 0) ∨ (19 ≤ (rdx E_api_Run l_runs_0 t313).1)) with c336 | c336
            · refine Q_know (i := 21) rfl (dec_t c336) ?_
              have H := of_pos Hb332 c336
              refine Q_gskip rfl rfl rfl rfl rfl rfl rfl ?_
              refine Q_gskip rfl rfl rfl rfl rfl rfl rfl ?_
              refine Q_gskip rfl rfl rfl rfl rfl rfl rfl ?_
              refine Q_gskip rfl rfl rfl rfl rfl rfl rfl ?_
              refine Q_gskip rfl rfl rfl rfl rfl rfl rfl ?_
              refine Q_gskip rfl rfl rfl rfl rfl rfl rfl ?_
              refine Q_gskip rfl rfl rfl rfl rfl rfl rfl ?_
              refine Q_val rfl rfl rfl (fun wq hq => O_pickT rfl rfl rfl) ?_
              refine Q_know (i := 29) rfl (congrArg Value.bool (Option.some.inj H)) ?_
              exact Q_grpE (fun a ha => Is.cons ha (Is.cons ha (Is.cons ha (Is.cons ha (Is.cons ha (Is.cons ha (Is.nil ha) rfl) rfl) rfl) rfl) rfl) rfl)
            · refine Q_know (i := 21) rfl (dec_f c336) ?_
              have H := of_neg Hb332 c336
              refine Q_gval rfl rfl rfl rfl rfl rfl (fun wq hq => O_fieldB rfl rfl field25_1) ?_
              refine Q_gval rfl rfl rfl rfl rfl rfl (fun wq hq => O_loadB rfl rfl flat3 ((HS325.keep hq).cells_box (i := 4) rfl) rfl) ?_
              refine Q_gval rfl rfl rfl rfl rfl rfl (fun wq hq => O_fieldB rfl rfl field25_0) ?_
              refine Q_gval rfl rfl rfl rfl rfl rfl (fun wq hq => O_loadB rfl rfl flat3 ((HS325.keep hq).cells_box (i := 4) rfl) rfl) ?_
              obtain ⟨⟨g337, g338⟩, H⟩ := of_gd H
              refine Q_gval rfl rfl rfl rfl rfl rfl (fun wq hq => O_idxA rfl rfl rfl Tryd.underlying86 size3 g337 g338) ?_
              refine Q_gval rfl rfl rfl rfl rfl rfl (fun wq hq => O_loadB rfl rfl flat3 ((HS325.keep hq).cells_rd (i := 1) rfl) (at0 (int_cell g337 (arr_lt T_header_least_len g338)))) ?_
              refine Q_gval rfl rfl rfl rfl rfl rfl (fun wq hq => O_lt rfl rfl rfl) ?_
              refine Q_val rfl rfl rfl (fun wq hq => O_pickF rfl rfl rfl) ?_
              refine Q_know (i := 29) rfl (congrArg Value.bool (Option.some.inj H)) ?_
              exact Q_grpE (fun a ha => Is.cons ha (Is.cons ha (Is.cons ha (Is.cons ha (Is.cons ha (Is.cons ha (Is.nil ha) rfl) rfl) rfl) rfl) rfl) rfl)
          · skip
            refine Q_val rfl rfl rfl (fun wq hq => O_move rfl rfl) ?_
            obtain ⟨b342, Hb342, H⟩ := of_bind H
            refine Q_grp 14 [(44, .bool b342), (4, .slice A310 l312.length c311), (6, .pointer (some ⟨g322, 0, none⟩)), (7, .slice A_runs_0 l_runs_0.length c_runs_0), (8, .int .i64 (l_runs_0.length : Int)), (9, .int .i64 t313)] ?_ ?_
            · rcases Decidable.em (b332 = true) with c346 | c346
              · refine Q_know (i := 30) rfl (congrArg Value.bool c346) ?_
                have H := of_pos Hb342 c346
                refine Q_gskip rfl rfl rfl rfl rfl rfl rfl ?_
                refine Q_gskip rfl rfl rfl rfl rfl rfl rfl ?_
                refine Q_gskip rfl rfl rfl rfl rfl rfl rfl ?_
                refine Q_gskip rfl rfl rfl rfl rfl rfl rfl ?_
                refine Q_gskip rfl rfl rfl rfl rfl rfl rfl ?_
                refine Q_gskip rfl rfl rfl rfl rfl rfl rfl ?_
                refine Q_gskip rfl rfl rfl rfl rfl rfl rfl ?_
                refine Q_gskip rfl rfl rfl rfl rfl rfl rfl ?_
                refine Q_gskip rfl rfl rfl rfl rfl rfl rfl ?_
                refine Q_gskip rfl rfl rfl rfl rfl rfl rfl ?_
                refine Q_gskip rfl rfl rfl rfl rfl rfl rfl ?_
                refine Q_gskip rfl rfl rfl rfl rfl rfl rfl ?_
                refine Q_gskip rfl rfl rfl rfl rfl rfl rfl ?_
                refine Q_val rfl rfl rfl (fun wq hq => O_pickT rfl rfl rfl) ?_
                refine Q_know (i := 44) rfl (congrArg Value.bool (Option.some.inj H)) ?_
                exact Q_grpE (fun a ha => Is.cons ha (Is.cons ha (Is.cons ha (Is.cons ha (Is.cons ha (Is.cons ha (Is.nil ha) rfl) rfl) rfl) rfl) rfl) rfl)
              · refine Q_know (i := 30) rfl (congrArg Value.bool (Bool.eq_false_iff.mpr c346)) ?_
                have H := of_neg Hb342 c346
                refine Q_gval rfl rfl rfl rfl rfl rfl (fun wq hq => O_fieldB rfl rfl field25_1) ?_
                refine Q_gval rfl rfl rfl rfl rfl rfl (fun wq hq => O_loadB rfl rfl flat3 ((HS325.keep hq).cells_box (i := 4) rfl) rfl) ?_
                refine Q_gval rfl rfl rfl rfl rfl rfl (fun wq hq => O_fieldB rfl rfl field25_0) ?_
                refine Q_gval rfl rfl rfl rfl rfl rfl (fun wq hq => O_loadB rfl rfl flat3 ((HS325.keep hq).cells_box (i := 4) rfl) rfl) ?_
                obtain ⟨⟨g347, g348⟩, H⟩ := of_gd H
                refine Q_gval rfl rfl rfl rfl rfl rfl (fun wq hq => O_idxA rfl rfl rfl Tryd.underlying86 size3 g347 g348) ?_
                refine Q_gval rfl rfl rfl rfl rfl rfl (fun wq hq => O_loadB rfl rfl flat3 ((HS325.keep hq).cells_rd (i := 1) rfl) (at0 (int_cell g347 (arr_lt T_header_least_len g348)))) ?_
                refine Q_gval rfl rfl rfl rfl rfl rfl (fun wq hq => O_sub rfl rfl rfl) ?_
                refine Q_gval rfl rfl rfl rfl rfl rfl (fun wq hq => O_fieldB rfl rfl field25_0) ?_
                refine Q_gval rfl rfl rfl rfl rfl rfl (fun wq hq => O_loadB rfl rfl flat3 ((HS325.keep hq).cells_box (i := 4) rfl) rfl) ?_
                refine Q_gval rfl rfl rfl rfl rfl rfl (fun wq hq => O_idxA rfl rfl rfl Tryd.underlying86 size3 g347 g348) ?_
                refine Q_gval rfl rfl rfl rfl rfl rfl (fun wq hq => O_loadB rfl rfl flat3 ((HS325.keep hq).cells_rd (i := 2) rfl) (at0 (int_cell g347 (arr_lt T_header_further_len g348)))) ?_
                obtain ⟨g349, H⟩ := of_gd H
                refine Q_gval rfl rfl rfl rfl rfl rfl (fun wq hq => O_shl rfl rfl rfl g349) ?_
                refine Q_gval rfl rfl rfl rfl rfl rfl (fun wq hq => O_ge rfl rfl rfl) ?_
                refine Q_val rfl rfl rfl (fun wq hq => O_pickF rfl rfl rfl) ?_
                refine Q_know (i := 44) rfl (congrArg Value.bool (Option.some.inj H)) ?_
                exact Q_grpE (fun a ha => Is.cons ha (Is.cons ha (Is.cons ha (Is.cons ha (Is.cons ha (Is.cons ha (Is.nil ha) rfl) rfl) rfl) rfl) rfl) rfl)
            · skip
              refine Q_nil (fun w350 hw351 => ?_)
              have HS352 := HS325.keep hw351
              refine L_cond rfl (fun c353 => ?_) (fun c353 => ?_)
              · have H := of_pos H c353
                refine L_seq ?_
                refine L_region ?_
                refine F_val rfl rfl rfl (O_assign rfl rfl) ?_
                refine F_val rfl rfl rfl (O_assign rfl rfl) ?_
                refine F_nil ?_
                have HS354 := HS352.addNil 3 (Eint .i64).sz
                refine L_ret (fun a ha => (hO317 .ret a _ rfl (hOp309 .ret a _ rfl (hOb190 .ret a _ rfl (hOj3 .ret a _ rfl (post_ret2 ha rfl rfl rfl ?_))))))
                obtain rfl := Option.some.inj H
                obtain rfl := Option.some.inj (show (some (([] : List Int), 77) : Option (List Int × Int)) = some _ from HOj3)
                exact ⟨_, _, rfl, HS354.sel [5] rfl⟩
              · have H := of_neg H (by rw [c353]; exact Bool.false_ne_true)
                refine L_skip ?_
                refine L_seq ?_
                refine L_seq ?_
                refine L_region ?_
                refine F_val rfl rfl rfl (O_fieldB rfl rfl field25_0) ?_
                refine F_val rfl rfl rfl (O_loadB rfl rfl flat3 (HS352.cells_box (i := 4) rfl) rfl) ?_
                refine F_val rfl rfl rfl (O_eq rfl rfl rfl) ?_
                refine F_val rfl rfl rfl (O_move rfl rfl) ?_
                refine F_grp 4 [(52, .bool (decide (((rdx E_api_Run l_runs_0 t313).1 = 16) ∧ ((l312.length : Int) = 0)))), (4, .slice A310 l312.length c311), (6, .pointer (some ⟨g322, 0, none⟩)), (7, .slice A_runs_0 l_runs_0.length c_runs_0), (8, .int .i64 (l_runs_0.length : Int)), (9, .int .i64 t313)] ?_ ?_
                · rcases Decidable.em ((rdx E_api_Run l_runs_0 t313).1 = 16) with c359 | c359
                  · refine F_know (i := 48) rfl (dec_t c359) ?_
                    refine F_gval rfl rfl rfl rfl rfl rfl (O_move rfl rfl) ?_
                    refine F_gval rfl rfl rfl rfl rfl rfl (O_len rfl rfl Tryd.underlying26) ?_
                    refine F_gval rfl rfl rfl rfl rfl rfl (O_eq rfl rfl rfl) ?_
                    refine F_val rfl rfl rfl (O_pickT rfl rfl rfl) ?_
                    refine F_know (i := 52) rfl (dec_and_t (q := (l312.length : Int) = 0) c359) ?_
                    exact F_grpE (fun a ha => Is.cons ha (Is.cons ha (Is.cons ha (Is.cons ha (Is.cons ha (Is.cons ha (Is.nil ha) rfl) rfl) rfl) rfl) rfl) rfl)
                  · refine F_know (i := 48) rfl (dec_f c359) ?_
                    refine F_gskip rfl rfl rfl rfl rfl rfl rfl ?_
                    refine F_gskip rfl rfl rfl rfl rfl rfl rfl ?_
                    refine F_gskip rfl rfl rfl rfl rfl rfl rfl ?_
                    refine F_val rfl rfl rfl (O_pickF rfl rfl rfl) ?_
                    refine F_know (i := 52) rfl (dec_and_f (q := (l312.length : Int) = 0) c359) ?_
                    exact F_grpE (fun a ha => Is.cons ha (Is.cons ha (Is.cons ha (Is.cons ha (Is.cons ha (Is.cons ha (Is.nil ha) rfl) rfl) rfl) rfl) rfl) rfl)
                · skip
                  refine F_nil ?_
                  refine L_condP rfl (fun c360 => ?_) (fun c360 => ?_)
                  · have H := of_pos H c360
                    refine L_seq ?_
                    refine L_region ?_
                    refine F_val rfl rfl rfl (O_assign rfl rfl) ?_
                    refine F_val rfl rfl rfl (O_assign rfl rfl) ?_
                    refine F_nil ?_
                    have HS361 := HS352.addNil 3 (Eint .i64).sz
                    refine L_ret (fun a ha => (hO317 .ret a _ rfl (hOp309 .ret a _ rfl (hOb190 .ret a _ rfl (hOj3 .ret a _ rfl (post_ret2 ha rfl rfl rfl ?_))))))
                    obtain rfl := Option.some.inj H
                    obtain rfl := Option.some.inj (show (some (([] : List Int), 73) : Option (List Int × Int)) = some _ from HOj3)
                    exact ⟨_, _, rfl, HS361.sel [5] rfl⟩
                  · have H := of_neg H c360
                    refine L_skip ?_
                    refine L_region ?_
                    refine F_val rfl rfl rfl (O_move rfl rfl) ?_
                    refine F_val rfl rfl rfl (O_loadWB' (k := 0) (vs := [.int .i64 ((rdx E_api_Run l_runs_0 t313).1), .int .i64 ((rdx E_api_Run l_runs_0 t313).2)]) rfl rfl wide25 (HS352.cells_box (i := 4) rfl) rfl rfl (by simp)) ?_
                    obtain ⟨z367, h366, H⟩ := of_bind H
                    refine F_call (xs := [.tmp 53, .tmp 54]) rfl rfl rfl rfl Tryd.func54 nm54 rfl rfl ((header_lay.calls (HS352.give [3] rfl (Lent.nil)) h366).mono (fun e w hc => ?_))
                    obtain ⟨A370, c371, rfl, HSo⟩ := hc
                    refine ⟨.slice A370 z367.length c371, rfl, ?_⟩
                    have HS369 : Hp S0 w0 w [.rd A_runs_0 (rowC E_api_Run l_runs_0), .rd (some ⟨0, 0, none⟩) (rowC (Eint .i64) T_header_least), .rd (some ⟨1, 0, none⟩) (rowC (Eint .i64) T_header_further), .own A370 c371 (rowC (Eint .i64) z367) 3 (Eint .i64).sz, .box g322 [.int .i64 ((rdx E_api_Run l_runs_0 t313).1), .int .i64 ((rdx E_api_Run l_runs_0 t313).2)] 25] := (HS352.back [3] HSo rfl).sel [0, 1, 2, 5, 4] rfl
                    refine F_val rfl rfl rfl (O_assign rfl rfl) ?_
                    refine F_nil ?_
                    refine L_endB hN317 ?_
                    refine L_region ?_
                    refine F_val rfl rfl rfl (O_add rfl rfl rfl) ?_
                    refine F_val rfl rfl rfl (O_move rfl rfl) ?_
                    refine F_nil ?_
                    refine L_nil (fun a ha => hNp309 _ a _ (Nat.lt_succ_self _) ⟨_, _, _, _, Is.cons ha (Is.cons ha (Is.cons ha (Is.cons ha (Is.nil ha) rfl) rfl) rfl) rfl, HS369.sel [0, 1, 2, 3] rfl, H⟩)
      · have H := of_neg H c316
        refine L_exitB (fun a w h => hOp309 (.exit 0) a w rfl (hXb190 a w h)) ?_
        refine L_nil (fun a ha => hNj3 a _ ⟨_, _, _, (Option.some.inj H).symm, Is.cons ha (Is.nil ha) rfl, HS315.sel [0, 1, 2, 3] rfl⟩)
  · obtain ⟨l189, A187, c188, rfl, ha, HS374⟩ := hR
    refine wpLF_app ?_ ha
    have H := (onR_inr _ _ _).symm.trans H
    refine L_seq ?_
    refine L_region ?_
    refine F_val rfl rfl rfl (O_move rfl rfl) ?_
    refine F_val rfl rfl rfl (O_assign rfl rfl) ?_
    refine F_val rfl rfl rfl (O_assign rfl rfl) ?_
    refine F_nil ?_
    refine L_ret (fun a ha => (post_ret2 ha rfl rfl rfl ?_))
    obtain rfl := Option.some.inj H
    exact ⟨_, _, rfl, HS374.sel [3] rfl⟩

/-! function 20: valise/valiselaw7.equal -/
theorem valiselaw7_equal.calls {S0 : Nat → Prop} {w0 : World} {A_a_0 : Option Addr} {c_a_0 : Nat} {A_b_1 : Option Addr} {c_b_1 : Nat} {l_a_0 : List Int} {l_b_1 : List Int} {r : Bool} (HS0 : Hp S0 w0 w0 [.rd A_a_0 (rowC (Eint .i64) l_a_0), .rd A_b_1 (rowC (Eint .i64) l_b_1)]) (hc_a_0 : l_a_0.length ≤ c_a_0) (hc_b_1 : l_b_1.length ≤ c_b_1) (h : valiselaw7_equal.f l_a_0 l_b_1 = some r) :
    Calls Tryd.prog 20 ([.slice A_a_0 l_a_0.length c_a_0, .slice A_b_1 l_b_1.length c_b_1] : List Value).toArray w0 (fun e w => e = .returned (.bool r) ∧ Hp S0 w0 w []) := by
  have H : ((if (l_a_0.length : Int) ≠ (l_b_1.length : Int) then (some false) else ((valiselaw7_equal.l1 FU 0 l_a_0 l_b_1).bind fun (yj2 : Sum (Bool) (Unit)) => onR yj2 (fun r => some r) fun () => some true)) : Option (Bool)) = some r := h
  refine calls_start Tryd.func20 rfl rfl ?_
  refine L_seq ?_
  refine L_region ?_
  refine F_val rfl rfl rfl (O_assign rfl rfl) ?_
  refine F_nil ?_
  refine L_seq ?_
  refine L_seq ?_
  refine L_region ?_
  refine F_val rfl rfl rfl (O_move rfl rfl) ?_
  refine F_val rfl rfl rfl (O_len rfl rfl Tryd.underlying26) ?_
  refine F_val rfl rfl rfl (O_move rfl rfl) ?_
  refine F_val rfl rfl rfl (O_len rfl rfl Tryd.underlying26) ?_
  refine F_val rfl rfl rfl (O_ne rfl rfl rfl) ?_
  refine F_nil ?_
  refine L_condP rfl (fun c1 => ?_) (fun c1 => ?_)
  · have H := of_pos H c1
    refine L_seq ?_
    refine L_region ?_
    refine F_val rfl rfl rfl (O_assign rfl rfl) ?_
    refine F_nil ?_
    refine L_ret (fun a ha => (post_ret1 ha rfl rfl ?_))
    obtain rfl := Option.some.inj H
    exact ⟨rfl, HS0.sel [] rfl⟩
  · have H := of_neg H c1
    refine L_skip ?_
    refine L_seq ?_
    refine L_seq ?_
    refine L_region ?_
    refine F_val rfl rfl rfl (O_assign rfl rfl) ?_
    refine F_nil ?_
    obtain ⟨yj2, Hyj2, H⟩ := of_bind H
    refine L_join (fun a w => yj2 = Sum.inr () ∧ Is Tryd.f20.ntmps a [] ∧ Hp S0 w0 w [.rd A_a_0 (rowC (Eint .i64) l_a_0), .rd A_b_1 (rowC (Eint .i64) l_b_1)]) (fun Qj2 hNj2 hOj2 => ?_) (fun a w hR => ?_)
    · have HOj2 := H
      have H := Hyj2
      refine L_blk (fun Qb45 hNb45 hXb45 hOb45 => ?_)
      refine L_lp (fun k a w => ∃ (i_72 : Int), Is Tryd.f20.ntmps a [(0, .slice A_a_0 l_a_0.length c_a_0), (1, .slice A_b_1 l_b_1.length c_b_1), (5, .int .i64 i_72)] ∧ Hp S0 w0 w [.rd A_a_0 (rowC (Eint .i64) l_a_0), .rd A_b_1 (rowC (Eint .i64) l_b_1)] ∧ valiselaw7_equal.l1 k i_72 l_a_0 l_b_1 = some yj2) FU (fun a ha => ⟨_, Is.cons ha (Is.cons ha (Is.cons ha (Is.nil ha) rfl) rfl) rfl, HS0.sel [0, 1] rfl, H⟩) (fun kp71 a w73 hI Qp71 hNp71 hOp71 => ?_)
      obtain ⟨i_72, ha, HS74, HAp71⟩ := hI
      cases kp71 with
      | zero => cases (show (none : Option _) = some _ from HAp71)
      | succ kp71 =>
        have H := (valiselaw7_equal.l1.eq_2 ..).symm.trans HAp71
        refine wpLF_app ?_ ha
        refine L_seq ?_
        refine L_seq ?_
        refine L_region ?_
        refine F_val rfl rfl rfl (O_move rfl rfl) ?_
        refine F_val rfl rfl rfl (O_move rfl rfl) ?_
        refine F_val rfl rfl rfl (O_len rfl rfl Tryd.underlying26) ?_
        refine F_val rfl rfl rfl (O_lt rfl rfl rfl) ?_
        refine F_nil ?_
        refine L_condP rfl (fun c75 => ?_) (fun c75 => ?_)
        · have H := of_pos H c75
          refine L_skip ?_
          refine L_seq ?_
          refine L_blk (fun Q76 hN76 hX76 hO76 => ?_)
          refine L_seq ?_
          refine L_quiet mix (by kernel_rfl) ?_
          refine Q_val rfl rfl rfl (fun wq hq => O_move rfl rfl) ?_
          refine Q_val rfl rfl rfl (fun wq hq => O_move rfl rfl) ?_
          obtain ⟨⟨g77, g78⟩, H⟩ := of_gd H
          refine Q_val rfl rfl rfl (fun wq hq => O_idx rfl rfl rfl Tryd.underlying26 size3 g77 g78 (Cells.isA ((HS74.keep hq).cells_rd (i := 0) rfl) (rowC_ne (E := (Eint .i64)) g77 g78 (by decide)))) ?_
          refine Q_val rfl rfl rfl (fun wq hq => O_loadC rfl rfl flat3 ((HS74.keep hq).cells_rd (i := 0) rfl) (int_cell g77 g78)) ?_
          refine Q_val rfl rfl rfl (fun wq hq => O_move rfl rfl) ?_
          refine Q_val rfl rfl rfl (fun wq hq => O_move rfl rfl) ?_
          obtain ⟨⟨g79, g80⟩, H⟩ := of_gd H
          refine Q_val rfl rfl rfl (fun wq hq => O_idx rfl rfl rfl Tryd.underlying26 size3 g79 g80 (Cells.isA ((HS74.keep hq).cells_rd (i := 1) rfl) (rowC_ne (E := (Eint .i64)) g79 g80 (by decide)))) ?_
          refine Q_val rfl rfl rfl (fun wq hq => O_loadC rfl rfl flat3 ((HS74.keep hq).cells_rd (i := 1) rfl) (int_cell g79 g80)) ?_
          refine Q_val rfl rfl rfl (fun wq hq => O_ne rfl rfl rfl) ?_
          refine Q_nil (fun w81 hw82 => ?_)
          have HS83 := HS74.keep hw82
          refine L_condP rfl (fun c84 => ?_) (fun c84 => ?_)
          · have H := of_pos H c84
            refine L_seq ?_
            refine L_region ?_
            refine F_val rfl rfl rfl (O_assign rfl rfl) ?_
            refine F_nil ?_
            refine L_ret (fun a ha => (hO76 .ret a _ rfl (hOp71 .ret a _ rfl (hOb45 .ret a _ rfl (hOj2 .ret a _ rfl (post_ret1 ha rfl rfl ?_))))))
            obtain rfl := Option.some.inj H
            obtain rfl := Option.some.inj (show (some false : Option (Bool)) = some _ from HOj2)
            exact ⟨rfl, HS83.sel [] rfl⟩
          · have H := of_neg H c84
            refine L_skip ?_
            refine L_endB hN76 ?_
            refine L_region ?_
            refine F_val rfl rfl rfl (O_move rfl rfl) ?_
            refine F_val rfl rfl rfl (O_add rfl rfl rfl) ?_
            obtain ⟨x85, h86, H⟩ := of_bnd H
            refine F_val rfl rfl rfl (O_assign' rfl rfl (congrArg (Value.int .i64) h86)) ?_
            refine F_nil ?_
            refine L_nil (fun a ha => hNp71 _ a _ (Nat.lt_succ_self _) ⟨_, Is.cons ha (Is.cons ha (Is.cons ha (Is.nil ha) rfl) rfl) rfl, HS83.sel [0, 1] rfl, H⟩)
        · have H := of_neg H c75
          refine L_exitB (fun a w h => hOp71 (.exit 0) a w rfl (hXb45 a w h)) ?_
          refine L_nil (fun a ha => hNj2 a _ ⟨(Option.some.inj H).symm, Is.nil ha, HS74.sel [0, 1] rfl⟩)
    · obtain ⟨rfl, ha, HS88⟩ := hR
      refine wpLF_app ?_ ha
      have H := (onR_inr _ _ _).symm.trans H
      refine L_seq ?_
      refine L_region ?_
      refine F_val rfl rfl rfl (O_assign rfl rfl) ?_
      refine F_nil ?_
      refine L_ret (fun a ha => (post_ret1 ha rfl rfl ?_))
      obtain rfl := Option.some.inj H
      exact ⟨rfl, HS88.sel [] rfl⟩

/-! function 4: valise/valiselaw7.HeaderRunsGoBack -/
theorem valiselaw7_HeaderRunsGoBack.calls {S0 : Nat → Prop} {w0 : World} {A_lens_0 : Option Addr} {c_lens_0 : Nat} {l_lens_0 : List Int} {r : Bool} (HS0 : Hp S0 w0 w0 [.rd A_lens_0 (rowC (Eint .i64) l_lens_0), .rd (some ⟨0, 0, none⟩) (rowC (Eint .i64) T_header_least), .rd (some ⟨1, 0, none⟩) (rowC (Eint .i64) T_header_further)]) (hc_lens_0 : l_lens_0.length ≤ c_lens_0) (h : valiselaw7_HeaderRunsGoBack.f l_lens_0 = some r) :
    Calls Tryd.prog 4 ([.slice A_lens_0 l_lens_0.length c_lens_0] : List Value).toArray w0 (fun e w => e = .returned (.bool r) ∧ Hp S0 w0 w []) := by
  have H : (((valiselaw7_ints.f l_lens_0).bind fun z5 => (header_Runs.f z5).bind fun (z15, z16) => (valiselaw7_within.f l_lens_0).bind fun z24 => if (!z24) = true then (some (decide ((z16 = 1) ∧ ((z15.length : Int) = 0)))) else (if (z16 ≠ 0) ∨ ((l_lens_0.length : Int) < (z15.length : Int)) then (some false) else ((valiselaw7_HeaderRunsGoBack.l1 FU 0 z15).bind fun (yj44 : Sum (Bool) (Unit)) => onR yj44 (fun r => some r) fun () => (header_Expand.f z15).bind fun (z225, z226) => (if z226 = 0 then ((valiselaw7_equal.f z225 l_lens_0).bind fun z245 => some z245) else (some false)).bind fun b238 => some b238))) : Option (Bool)) = some r := h
  refine calls_start Tryd.func4 rfl rfl ?_
  refine L_seq ?_
  refine L_region ?_
  refine F_val rfl rfl rfl (O_assign rfl rfl) ?_
  refine F_nil ?_
  refine L_seq ?_
  refine L_region ?_
  refine F_val rfl rfl rfl (O_move rfl rfl) ?_
  obtain ⟨z5, h4, H⟩ := of_bind H
  refine F_call (xs := [.tmp 12]) rfl rfl rfl rfl Tryd.func23 nm23 rfl rfl ((valiselaw7_ints.calls (HS0.give [] rfl (Lent.rd HS0 (Lent.nil) (i := 0) rfl ((HS0.cells_rd (i := 0) rfl).self))) hc_lens_0 h4).mono (fun e w hc => ?_))
  obtain ⟨A8, c9, rfl, HSo⟩ := hc
  refine ⟨.slice A8 z5.length c9, rfl, ?_⟩
  have HS7 : Hp S0 w0 w [.rd A_lens_0 (rowC (Eint .i64) l_lens_0), .rd (some ⟨0, 0, none⟩) (rowC (Eint .i64) T_header_least), .rd (some ⟨1, 0, none⟩) (rowC (Eint .i64) T_header_further), .own A8 c9 (rowC (Eint .i64) z5) 3 (Eint .i64).sz] := (HS0.back [] HSo rfl).sel [0, 1, 2, 3] rfl
  obtain ⟨⟨z15, z16⟩, h14, H⟩ := of_bind H
  refine F_call (xs := [.tmp 13]) rfl rfl rfl rfl Tryd.func22 nm22 rfl rfl ((header_Runs.calls (HS7.give [] rfl (Lent.own HS7 (Lent.nil) (i := 3) rfl rfl ((HS7.cells_own (i := 3) rfl).self))) (HS7.own_capE (i := 3) rfl (by decide)) h14).mono (fun e w hc => ?_))
  obtain ⟨A19, c20, rfl, HSo⟩ := hc
  refine ⟨.tuple #[.slice A19 z15.length c20, .int .i64 z16], rfl, ?_⟩
  have HS18 : Hp S0 w0 w [.rd A_lens_0 (rowC (Eint .i64) l_lens_0), .rd (some ⟨0, 0, none⟩) (rowC (Eint .i64) T_header_least), .rd (some ⟨1, 0, none⟩) (rowC (Eint .i64) T_header_further), .own A8 c9 (rowC (Eint .i64) z5) 3 (Eint .i64).sz, .own A19 c20 (rowC E_api_Run z15) 25 E_api_Run.sz] := (HS7.back [] HSo rfl).sel [0, 1, 2, 3, 4] rfl
  refine F_val rfl rfl rfl (O_move rfl rfl) ?_
  refine F_val rfl rfl rfl (O_extract (v := .slice A19 z15.length c20) rfl rfl rfl) ?_
  refine F_val rfl rfl rfl (O_extract (v := .int .i64 z16) rfl rfl rfl) ?_
  refine F_val rfl rfl rfl (O_assign rfl rfl) ?_
  refine F_val rfl rfl rfl (O_assign rfl rfl) ?_
  refine F_nil ?_
  refine L_seq ?_
  refine L_seq ?_
  refine L_region ?_
  refine F_val rfl rfl rfl (O_move rfl rfl) ?_
  obtain ⟨z24, h23, H⟩ := of_bind H
  refine F_qcall (v := .bool z24) (xs := [.tmp 17]) rfl rfl rfl rfl Tryd.func24 nm24 rfl rfl ((valiselaw7_within.calls (HS18.give [] rfl (Lent.rd HS18 (Lent.nil) (i := 0) rfl ((HS18.cells_rd (i := 0) rfl).self))) hc_lens_0 h23).mono (fun e w hc => ?_)) (fun w25 hw26 => ?_)
  · obtain ⟨rfl, h⟩ := hc
    exact ⟨rfl, h.chg0⟩
  have HS27 := HS18.keep hw26
  refine F_val rfl rfl rfl (O_notb rfl rfl) ?_
  refine F_nil ?_
  refine L_cond rfl (fun c28 => ?_) (fun c28 => ?_)
  · have H := of_pos H c28
    refine L_seq ?_
    refine L_region ?_
    refine F_val rfl rfl rfl (O_move rfl rfl) ?_
    refine F_qcall (v := .int .i64 z16) (xs := [.tmp 20]) rfl rfl rfl rfl Tryd.func19 nm19 rfl rfl ((valiselaw7_num.calls (HS27.give [] rfl (Lent.nil)) (rfl : valiselaw7_num.f z16 = some z16)).mono (fun e w hc => ?_)) (fun w32 hw33 => ?_)
    · obtain ⟨rfl, h⟩ := hc
      exact ⟨rfl, h.chg0⟩
    have HS34 := HS27.keep hw33
    refine F_val rfl rfl rfl (O_eq rfl rfl rfl) ?_
    refine F_val rfl rfl rfl (O_move rfl rfl) ?_
    refine F_grp 4 [(27, .bool (decide ((z16 = 1) ∧ ((z15.length : Int) = 0))))] ?_ ?_
    · rcases Decidable.em (z16 = 1) with c38 | c38
      · refine F_know (i := 23) rfl (dec_t c38) ?_
        refine F_gval rfl rfl rfl rfl rfl rfl (O_move rfl rfl) ?_
        refine F_gval rfl rfl rfl rfl rfl rfl (O_len rfl rfl Tryd.underlying22) ?_
        refine F_gval rfl rfl rfl rfl rfl rfl (O_eq rfl rfl rfl) ?_
        refine F_val rfl rfl rfl (O_pickT rfl rfl rfl) ?_
        refine F_know (i := 27) rfl (dec_and_t (q := (z15.length : Int) = 0) c38) ?_
        exact F_grpE (fun a ha => Is.cons ha (Is.nil ha) rfl)
      · refine F_know (i := 23) rfl (dec_f c38) ?_
        refine F_gskip rfl rfl rfl rfl rfl rfl rfl ?_
        refine F_gskip rfl rfl rfl rfl rfl rfl rfl ?_
        refine F_gskip rfl rfl rfl rfl rfl rfl rfl ?_
        refine F_val rfl rfl rfl (O_pickF rfl rfl rfl) ?_
        refine F_know (i := 27) rfl (dec_and_f (q := (z15.length : Int) = 0) c38) ?_
        exact F_grpE (fun a ha => Is.cons ha (Is.nil ha) rfl)
    · skip
      refine F_val rfl rfl rfl (O_assign rfl rfl) ?_
      refine F_nil ?_
      refine L_ret (fun a ha => (post_ret1 ha rfl rfl ?_))
      obtain rfl := Option.some.inj H
      exact ⟨rfl, HS34.sel [] rfl⟩
  · have H := of_neg H (by rw [c28]; exact Bool.false_ne_true)
    refine L_skip ?_
    refine L_seq ?_
    refine L_seq ?_
    refine L_region ?_
    refine F_val rfl rfl rfl (O_move rfl rfl) ?_
    refine F_val rfl rfl rfl (O_ne rfl rfl rfl) ?_
    refine F_val rfl rfl rfl (O_move rfl rfl) ?_
    refine F_grp 6 [(36, .bool (decide ((z16 ≠ 0) ∨ ((l_lens_0.length : Int) < (z15.length : Int))))), (0, .slice A_lens_0 l_lens_0.length c_lens_0), (3, .slice A19 z15.length c20)] ?_ ?_
    · rcases Decidable.em (z16 ≠ 0) with c42 | c42
      · refine F_know (i := 30) rfl (dec_t c42) ?_
        refine F_gskip rfl rfl rfl rfl rfl rfl rfl ?_
        refine F_gskip rfl rfl rfl rfl rfl rfl rfl ?_
        refine F_gskip rfl rfl rfl rfl rfl rfl rfl ?_
        refine F_gskip rfl rfl rfl rfl rfl rfl rfl ?_
        refine F_gskip rfl rfl rfl rfl rfl rfl rfl ?_
        refine F_val rfl rfl rfl (O_pickT rfl rfl rfl) ?_
        refine F_know (i := 36) rfl (dec_or_t (q := (l_lens_0.length : Int) < (z15.length : Int)) c42) ?_
        exact F_grpE (fun a ha => Is.cons ha (Is.cons ha (Is.cons ha (Is.nil ha) rfl) rfl) rfl)
      · refine F_know (i := 30) rfl (dec_f c42) ?_
        refine F_gval rfl rfl rfl rfl rfl rfl (O_move rfl rfl) ?_
        refine F_gval rfl rfl rfl rfl rfl rfl (O_len rfl rfl Tryd.underlying22) ?_
        refine F_gval rfl rfl rfl rfl rfl rfl (O_move rfl rfl) ?_
        refine F_gval rfl rfl rfl rfl rfl rfl (O_len rfl rfl Tryd.underlying26) ?_
        refine F_gval rfl rfl rfl rfl rfl rfl (O_gt rfl rfl rfl) ?_
        refine F_val rfl rfl rfl (O_pickF rfl rfl rfl) ?_
        refine F_know (i := 36) rfl (dec_or_f (q := (l_lens_0.length : Int) < (z15.length : Int)) c42) ?_
        exact F_grpE (fun a ha => Is.cons ha (Is.cons ha (Is.cons ha (Is.nil ha) rfl) rfl) rfl)
    · skip
      refine F_nil ?_
      refine L_condP rfl (fun c43 => ?_) (fun c43 => ?_)
      · have H := of_pos H c43
        refine L_seq ?_
        refine L_region ?_
        refine F_val rfl rfl rfl (O_assign rfl rfl) ?_
        refine F_nil ?_
        refine L_ret (fun a ha => (post_ret1 ha rfl rfl ?_))
        obtain rfl := Option.some.inj H
        exact ⟨rfl, HS27.sel [] rfl⟩
      · have H := of_neg H c43
        refine L_skip ?_
        refine L_seq ?_
        refine L_seq ?_
        refine L_region ?_
        refine F_val rfl rfl rfl (O_assign rfl rfl) ?_
        refine F_nil ?_
        obtain ⟨yj44, Hyj44, H⟩ := of_bind H
        refine L_join (fun a w => yj44 = Sum.inr () ∧ Is Tryd.f4.ntmps a [(0, .slice A_lens_0 l_lens_0.length c_lens_0), (3, .slice A19 z15.length c20)] ∧ Hp S0 w0 w [.rd A_lens_0 (rowC (Eint .i64) l_lens_0), .rd (some ⟨0, 0, none⟩) (rowC (Eint .i64) T_header_least), .rd (some ⟨1, 0, none⟩) (rowC (Eint .i64) T_header_further), .own A19 c20 (rowC E_api_Run z15) 25 E_api_Run.sz]) (fun Qj44 hNj44 hOj44 => ?_) (fun a w hR => ?_)
        · have HOj44 := H
          have H := Hyj44
          refine L_blk (fun Qb132 hNb132 hXb132 hOb132 => ?_)
          refine L_lp (fun k a w => ∃ (i_189 : Int), Is Tryd.f4.ntmps a [(0, .slice A_lens_0 l_lens_0.length c_lens_0), (3, .slice A19 z15.length c20), (5, .int .i64 i_189)] ∧ Hp S0 w0 w [.rd A_lens_0 (rowC (Eint .i64) l_lens_0), .rd (some ⟨0, 0, none⟩) (rowC (Eint .i64) T_header_least), .rd (some ⟨1, 0, none⟩) (rowC (Eint .i64) T_header_further), .own A19 c20 (rowC E_api_Run z15) 25 E_api_Run.sz] ∧ valiselaw7_HeaderRunsGoBack.l1 k i_189 z15 = some yj44) FU (fun a ha => ⟨_, Is.cons ha (Is.cons ha (Is.cons ha (Is.nil ha) rfl) rfl) rfl, HS27.sel [0, 1, 2, 4] rfl, H⟩) (fun kp188 a w190 hI Qp188 hNp188 hOp188 => ?_)
          obtain ⟨i_189, ha, HS191, HAp188⟩ := hI
          cases kp188 with
          | zero => cases (show (none : Option _) = some _ from HAp188)
          | succ kp188 =>
            have H := (valiselaw7_HeaderRunsGoBack.l1.eq_2 ..).symm.trans HAp188
            refine wpLF_app ?_ ha
            refine L_seq ?_
            refine L_seq ?_
            refine L_region ?_
            refine F_val rfl rfl rfl (O_move rfl rfl) ?_
            refine F_val rfl rfl rfl (O_move rfl rfl) ?_
            refine F_val rfl rfl rfl (O_len rfl rfl Tryd.underlying22) ?_
            refine F_val rfl rfl rfl (O_lt rfl rfl rfl) ?_
            refine F_nil ?_
            refine L_condP rfl (fun c192 => ?_) (fun c192 => ?_)
            · have H := of_pos H c192
              refine L_skip ?_
              refine L_seq ?_
              refine L_blk (fun Q193 hN193 hX193 hO193 => ?_)
              refine L_seq ?_
              refine L_region ?_
              refine F_val rfl rfl rfl (O_move rfl rfl) ?_
              refine F_val rfl rfl rfl (O_move rfl rfl) ?_
              obtain ⟨⟨g194, g195⟩, H⟩ := of_gd H
              refine F_val rfl rfl rfl (O_idx rfl rfl rfl Tryd.underlying22 size25 g194 g195 (Cells.isA (HS191.cells_own (i := 3) rfl) (rowC_ne (E := E_api_Run) g194 g195 (by decide)))) ?_
              refine F_val rfl rfl rfl (O_fieldC rfl rfl (Cells.isA (HS191.cells_own (i := 3) rfl) (rowC_ne (E := E_api_Run) g194 g195 (by decide))) field25_0) ?_
              refine F_val rfl rfl rfl (O_loadC rfl rfl flat3 (HS191.cells_own (i := 3) rfl) (rowC_cell (E := E_api_Run) (j := 0) g194 g195 rfl)) ?_
              obtain ⟨⟨z198, z199, z200⟩, h197, H⟩ := of_bind H
              refine F_qcall (v := .tuple #[.int .i64 z198, .int .i64 z199, .int .i64 z200]) (xs := [.tmp 48]) rfl rfl rfl rfl Tryd.func25 nm25 rfl rfl ((valiselaw7_further.calls (HS191.give [] rfl (Lent.nil)) h197).mono (fun e w hc => ?_)) (fun w201 hw202 => ?_)
              · obtain ⟨rfl, h⟩ := hc
                exact ⟨rfl, h.chg0⟩
              have HS203 := HS191.keep hw202
              refine F_val rfl rfl rfl (O_move rfl rfl) ?_
              refine F_val rfl rfl rfl (O_extract (v := .int .i64 z198) rfl rfl rfl) ?_
              refine F_val rfl rfl rfl (O_extract (v := .int .i64 z199) rfl rfl rfl) ?_
              refine F_val rfl rfl rfl (O_extract (v := .int .i64 z200) rfl rfl rfl) ?_
              refine F_val rfl rfl rfl (O_assign rfl rfl) ?_
              refine F_val rfl rfl rfl (O_assign rfl rfl) ?_
              refine F_val rfl rfl rfl (O_assign rfl rfl) ?_
              refine F_nil ?_
              refine L_seq ?_
              refine L_region ?_
              refine F_val rfl rfl rfl (O_move rfl rfl) ?_
              refine F_val rfl rfl rfl (O_move rfl rfl) ?_
              refine F_val rfl rfl rfl (O_idx rfl rfl rfl Tryd.underlying22 size25 g194 g195 (Cells.isA (HS203.cells_own (i := 3) rfl) (rowC_ne (E := E_api_Run) g194 g195 (by decide)))) ?_
              refine F_val rfl rfl rfl (O_fieldC rfl rfl (Cells.isA (HS203.cells_own (i := 3) rfl) (rowC_ne (E := E_api_Run) g194 g195 (by decide))) field25_0) ?_
              refine F_val rfl rfl rfl (O_loadC rfl rfl flat3 (HS203.cells_own (i := 3) rfl) (rowC_cell (E := E_api_Run) (j := 0) g194 g195 rfl)) ?_
              refine F_val rfl rfl rfl (O_lt rfl rfl rfl) ?_
              refine F_val rfl rfl rfl (O_move rfl rfl) ?_
              refine F_grp 7 [(66, .bool (decide (((rdx E_api_Run z15 i_189).1 < 0) ∨ (18 < (rdx E_api_Run z15 i_189).1)))), (0, .slice A_lens_0 l_lens_0.length c_lens_0), (3, .slice A19 z15.length c20), (5, .int .i64 i_189), (7, .int .i64 z199), (8, .int .i64 z200)] ?_ ?_
              · rcases Decidable.em ((rdx E_api_Run z15 i_189).1 < 0) with c207 | c207
                · refine F_know (i := 59) rfl (dec_t c207) ?_
                  refine F_gskip rfl rfl rfl rfl rfl rfl rfl ?_
                  refine F_gskip rfl rfl rfl rfl rfl rfl rfl ?_
                  refine F_gskip rfl rfl rfl rfl rfl rfl rfl ?_
                  refine F_gskip rfl rfl rfl rfl rfl rfl rfl ?_
                  refine F_gskip rfl rfl rfl rfl rfl rfl rfl ?_
                  refine F_gskip rfl rfl rfl rfl rfl rfl rfl ?_
                  refine F_val rfl rfl rfl (O_pickT rfl rfl rfl) ?_
                  refine F_know (i := 66) rfl (dec_or_t (q := 18 < (rdx E_api_Run z15 i_189).1) c207) ?_
                  exact F_grpE (fun a ha => Is.cons ha (Is.cons ha (Is.cons ha (Is.cons ha (Is.cons ha (Is.cons ha (Is.nil ha) rfl) rfl) rfl) rfl) rfl) rfl)
                · refine F_know (i := 59) rfl (dec_f c207) ?_
                  refine F_gval rfl rfl rfl rfl rfl rfl (O_move rfl rfl) ?_
                  refine F_gval rfl rfl rfl rfl rfl rfl (O_move rfl rfl) ?_
                  refine F_gval rfl rfl rfl rfl rfl rfl (O_idx rfl rfl rfl Tryd.underlying22 size25 g194 g195 (Cells.isA (HS203.cells_own (i := 3) rfl) (rowC_ne (E := E_api_Run) g194 g195 (by decide)))) ?_
                  refine F_gval rfl rfl rfl rfl rfl rfl (O_fieldC rfl rfl (Cells.isA (HS203.cells_own (i := 3) rfl) (rowC_ne (E := E_api_Run) g194 g195 (by decide))) field25_0) ?_
                  refine F_gval rfl rfl rfl rfl rfl rfl (O_loadC rfl rfl flat3 (HS203.cells_own (i := 3) rfl) (rowC_cell (E := E_api_Run) (j := 0) g194 g195 rfl)) ?_
                  refine F_gval rfl rfl rfl rfl rfl rfl (O_gt rfl rfl rfl) ?_
                  refine F_val rfl rfl rfl (O_pickF rfl rfl rfl) ?_
                  refine F_know (i := 66) rfl (dec_or_f (q := 18 < (rdx E_api_Run z15 i_189).1) c207) ?_
                  exact F_grpE (fun a ha => Is.cons ha (Is.cons ha (Is.cons ha (Is.cons ha (Is.cons ha (Is.cons ha (Is.nil ha) rfl) rfl) rfl) rfl) rfl) rfl)
              · skip
                refine F_val rfl rfl rfl (O_move rfl rfl) ?_
                refine F_grp 8 [(75, .bool (decide ((((rdx E_api_Run z15 i_189).1 < 0) ∨ (18 < (rdx E_api_Run z15 i_189).1)) ∨ ((rdx E_api_Run z15 i_189).2 < z199)))), (0, .slice A_lens_0 l_lens_0.length c_lens_0), (3, .slice A19 z15.length c20), (5, .int .i64 i_189), (8, .int .i64 z200)] ?_ ?_
                · rcases Decidable.em (((rdx E_api_Run z15 i_189).1 < 0) ∨ (18 < (rdx E_api_Run z15 i_189).1)) with c211 | c211
                  · refine F_know (i := 67) rfl (dec_t c211) ?_
                    refine F_gskip rfl rfl rfl rfl rfl rfl rfl ?_
                    refine F_gskip rfl rfl rfl rfl rfl rfl rfl ?_
                    refine F_gskip rfl rfl rfl rfl rfl rfl rfl ?_
                    refine F_gskip rfl rfl rfl rfl rfl rfl rfl ?_
                    refine F_gskip rfl rfl rfl rfl rfl rfl rfl ?_
                    refine F_gskip rfl rfl rfl rfl rfl rfl rfl ?_
                    refine F_gskip rfl rfl rfl rfl rfl rfl rfl ?_
                    refine F_val rfl rfl rfl (O_pickT rfl rfl rfl) ?_
                    refine F_know (i := 75) rfl (dec_or_t (q := (rdx E_api_Run z15 i_189).2 < z199) c211) ?_
                    exact F_grpE (fun a ha => Is.cons ha (Is.cons ha (Is.cons ha (Is.cons ha (Is.cons ha (Is.nil ha) rfl) rfl) rfl) rfl) rfl)
                  · refine F_know (i := 67) rfl (dec_f c211) ?_
                    refine F_gval rfl rfl rfl rfl rfl rfl (O_move rfl rfl) ?_
                    refine F_gval rfl rfl rfl rfl rfl rfl (O_move rfl rfl) ?_
                    refine F_gval rfl rfl rfl rfl rfl rfl (O_idx rfl rfl rfl Tryd.underlying22 size25 g194 g195 (Cells.isA (HS203.cells_own (i := 3) rfl) (rowC_ne (E := E_api_Run) g194 g195 (by decide)))) ?_
                    refine F_gval rfl rfl rfl rfl rfl rfl (O_fieldC rfl rfl (Cells.isA (HS203.cells_own (i := 3) rfl) (rowC_ne (E := E_api_Run) g194 g195 (by decide))) field25_1) ?_
                    refine F_gval rfl rfl rfl rfl rfl rfl (O_loadC rfl rfl flat3 (HS203.cells_own (i := 3) rfl) (rowC_cell (E := E_api_Run) (j := 1) g194 g195 rfl)) ?_
                    refine F_gval rfl rfl rfl rfl rfl rfl (O_move rfl rfl) ?_
                    refine F_gval rfl rfl rfl rfl rfl rfl (O_lt rfl rfl rfl) ?_
                    refine F_val rfl rfl rfl (O_pickF rfl rfl rfl) ?_
                    refine F_know (i := 75) rfl (dec_or_f (q := (rdx E_api_Run z15 i_189).2 < z199) c211) ?_
                    exact F_grpE (fun a ha => Is.cons ha (Is.cons ha (Is.cons ha (Is.cons ha (Is.cons ha (Is.nil ha) rfl) rfl) rfl) rfl) rfl)
                · skip
                  refine F_val rfl rfl rfl (O_move rfl rfl) ?_
                  refine F_grp 8 [(84, .bool (decide (((((rdx E_api_Run z15 i_189).1 < 0) ∨ (18 < (rdx E_api_Run z15 i_189).1)) ∨ ((rdx E_api_Run z15 i_189).2 < z199)) ∨ (z200 < (rdx E_api_Run z15 i_189).2)))), (0, .slice A_lens_0 l_lens_0.length c_lens_0), (3, .slice A19 z15.length c20), (5, .int .i64 i_189)] ?_ ?_
                  · rcases Decidable.em ((((rdx E_api_Run z15 i_189).1 < 0) ∨ (18 < (rdx E_api_Run z15 i_189).1)) ∨ ((rdx E_api_Run z15 i_189).2 < z199)) with c215 | c215
                    · refine F_know (i := 76) rfl (dec_t c215) ?_
                      refine F_gskip rfl rfl rfl rfl rfl rfl rfl ?_
                      refine F_gskip rfl rfl rfl rfl rfl rfl rfl ?_
                      refine F_gskip rfl rfl rfl rfl rfl rfl rfl ?_
                      refine F_gskip rfl rfl rfl rfl rfl rfl rfl ?_
                      refine F_gskip rfl rfl rfl rfl rfl rfl rfl ?_
                      refine F_gskip rfl rfl rfl rfl rfl rfl rfl ?_
                      refine F_gskip rfl rfl rfl rfl rfl rfl rfl ?_
                      refine F_val rfl rfl rfl (O_pickT rfl rfl rfl) ?_
                      refine F_know (i := 84) rfl (dec_or_t (q := z200 < (rdx E_api_Run z15 i_189).2) c215) ?_
                      exact F_grpE (fun a ha => Is.cons ha (Is.cons ha (Is.cons ha (Is.cons ha (Is.nil ha) rfl) rfl) rfl) rfl)
                    · refine F_know (i := 76) rfl (dec_f c215) ?_
                      refine F_gval rfl rfl rfl rfl rfl rfl (O_move rfl rfl) ?_
                      refine F_gval rfl rfl rfl rfl rfl rfl (O_move rfl rfl) ?_
                      refine F_gval rfl rfl rfl rfl rfl rfl (O_idx rfl rfl rfl Tryd.underlying22 size25 g194 g195 (Cells.isA (HS203.cells_own (i := 3) rfl) (rowC_ne (E := E_api_Run) g194 g195 (by decide)))) ?_
                      refine F_gval rfl rfl rfl rfl rfl rfl (O_fieldC rfl rfl (Cells.isA (HS203.cells_own (i := 3) rfl) (rowC_ne (E := E_api_Run) g194 g195 (by decide))) field25_1) ?_
                      refine F_gval rfl rfl rfl rfl rfl rfl (O_loadC rfl rfl flat3 (HS203.cells_own (i := 3) rfl) (rowC_cell (E := E_api_Run) (j := 1) g194 g195 rfl)) ?_
                      refine F_gval rfl rfl rfl rfl rfl rfl (O_move rfl rfl) ?_
                      refine F_gval rfl rfl rfl rfl rfl rfl (O_gt rfl rfl rfl) ?_
                      refine F_val rfl rfl rfl (O_pickF rfl rfl rfl) ?_
                      refine F_know (i := 84) rfl (dec_or_f (q := z200 < (rdx E_api_Run z15 i_189).2) c215) ?_
                      exact F_grpE (fun a ha => Is.cons ha (Is.cons ha (Is.cons ha (Is.cons ha (Is.nil ha) rfl) rfl) rfl) rfl)
                  · skip
                    refine F_nil ?_
                    refine L_condP rfl (fun c216 => ?_) (fun c216 => ?_)
                    · have H := of_pos H c216
                      refine L_seq ?_
                      refine L_region ?_
                      refine F_val rfl rfl rfl (O_assign rfl rfl) ?_
                      refine F_nil ?_
                      refine L_ret (fun a ha => (hO193 .ret a _ rfl (hOp188 .ret a _ rfl (hOb132 .ret a _ rfl (hOj44 .ret a _ rfl (post_ret1 ha rfl rfl ?_))))))
                      obtain rfl := Option.some.inj H
                      obtain rfl := Option.some.inj (show (some false : Option (Bool)) = some _ from HOj44)
                      exact ⟨rfl, HS203.sel [] rfl⟩
                    · have H := of_neg H c216
                      refine L_skip ?_
                      refine L_endB hN193 ?_
                      refine L_region ?_
                      refine F_val rfl rfl rfl (O_move rfl rfl) ?_
                      refine F_val rfl rfl rfl (O_add rfl rfl rfl) ?_
                      obtain ⟨x217, h218, H⟩ := of_bnd H
                      refine F_val rfl rfl rfl (O_assign' rfl rfl (congrArg (Value.int .i64) h218)) ?_
                      refine F_nil ?_
                      refine L_nil (fun a ha => hNp188 _ a _ (Nat.lt_succ_self _) ⟨_, Is.cons ha (Is.cons ha (Is.cons ha (Is.nil ha) rfl) rfl) rfl, HS203.sel [0, 1, 2, 3] rfl, H⟩)
            · have H := of_neg H c192
              refine L_exitB (fun a w h => hOp188 (.exit 0) a w rfl (hXb132 a w h)) ?_
              refine L_nil (fun a ha => hNj44 a _ ⟨(Option.some.inj H).symm, Is.cons ha (Is.cons ha (Is.nil ha) rfl) rfl, HS191.sel [0, 1, 2, 3] rfl⟩)
        · obtain ⟨rfl, ha, HS220⟩ := hR
          refine wpLF_app ?_ ha
          have H := (onR_inr _ _ _).symm.trans H
          refine L_seq ?_
          refine L_region ?_
          refine F_val rfl rfl rfl (O_move rfl rfl) ?_
          obtain ⟨⟨z225, z226⟩, h224, H⟩ := of_bind H
          refine F_call (xs := [.tmp 86]) rfl rfl rfl rfl Tryd.func17 nm17 rfl rfl ((header_Expand.calls (HS220.give [] rfl (Lent.own HS220 (Lent.rd HS220 (Lent.rd HS220 (Lent.nil) (i := 2) rfl (HS220.cells_rd (i := 2) rfl).self) (i := 1) rfl (HS220.cells_rd (i := 1) rfl).self) (i := 3) rfl rfl ((HS220.cells_own (i := 3) rfl).self))) (HS220.own_capE (i := 3) rfl (by decide)) h224).mono (fun e w hc => ?_))
          obtain ⟨A229, c230, rfl, HSo⟩ := hc
          refine ⟨.tuple #[.slice A229 z225.length c230, .int .i64 z226], rfl, ?_⟩
          have HS228 : Hp S0 w0 w [.rd A_lens_0 (rowC (Eint .i64) l_lens_0), .rd (some ⟨0, 0, none⟩) (rowC (Eint .i64) T_header_least), .rd (some ⟨1, 0, none⟩) (rowC (Eint .i64) T_header_further), .own A19 c20 (rowC E_api_Run z15) 25 E_api_Run.sz, .own A229 c230 (rowC (Eint .i64) z225) 3 (Eint .i64).sz] := (HS220.back [] HSo rfl).sel [0, 1, 2, 3, 4] rfl
          refine F_val rfl rfl rfl (O_move rfl rfl) ?_
          refine F_val rfl rfl rfl (O_extract (v := .slice A229 z225.length c230) rfl rfl rfl) ?_
          refine F_val rfl rfl rfl (O_extract (v := .int .i64 z226) rfl rfl rfl) ?_
          refine F_val rfl rfl rfl (O_assign rfl rfl) ?_
          refine F_val rfl rfl rfl (O_assign rfl rfl) ?_
          refine F_nil ?_
          refine L_seq ?_
          refine L_region ?_
          refine F_val rfl rfl rfl (O_move rfl rfl) ?_
          refine F_val rfl rfl rfl (O_eq rfl rfl rfl) ?_
          refine F_val rfl rfl rfl (O_move rfl rfl) ?_
          obtain ⟨b238, Hb238, H⟩ := of_bind H
          refine F_grpQ 4 [(96, .bool b238)] ?_ (fun w239 hw240 => ?_)
          · rcases Decidable.em (z226 = 0) with c242 | c242
            · refine F_know (i := 92) rfl (dec_t c242) ?_
              have H := of_pos Hb238 c242
              refine F_gval rfl rfl rfl rfl rfl rfl (O_move rfl rfl) ?_
              refine F_gval rfl rfl rfl rfl rfl rfl (O_move rfl rfl) ?_
              obtain ⟨z245, h244, H⟩ := of_bind H
              refine F_gqcall (v := .bool z245) (xs := [.tmp 93, .tmp 94]) rfl rfl rfl rfl rfl rfl rfl Tryd.func20 nm20 rfl rfl ((valiselaw7_equal.calls (HS228.give [] rfl (Lent.own HS228 (Lent.rd HS228 (Lent.nil) (i := 0) rfl ((HS228.cells_rd (i := 0) rfl).self)) (i := 4) rfl rfl ((HS228.cells_own (i := 4) rfl).self))) (HS228.own_capE (i := 4) rfl (by decide)) hc_lens_0 h244).mono (fun e w hc => ?_)) (fun w246 hw247 => ?_)
              · obtain ⟨rfl, h⟩ := hc
                exact ⟨rfl, h.chg0⟩
              have HS248 := HS228.keep hw247
              refine F_val rfl rfl rfl (O_pickT rfl rfl rfl) ?_
              refine F_know (i := 96) rfl (congrArg Value.bool (Option.some.inj H)) ?_
              exact F_grpQE ((Chg.refl NoB _).trans hw247) (fun a ha => Is.cons ha (Is.nil ha) rfl)
            · refine F_know (i := 92) rfl (dec_f c242) ?_
              have H := of_neg Hb238 c242
              refine F_gskip rfl rfl rfl rfl rfl rfl rfl ?_
              refine F_gskip rfl rfl rfl rfl rfl rfl rfl ?_
              refine F_gskip rfl rfl rfl rfl rfl rfl rfl ?_
              refine F_val rfl rfl rfl (O_pickF rfl rfl rfl) ?_
              refine F_know (i := 96) rfl (congrArg Value.bool (Option.some.inj H)) ?_
              exact F_grpQE (Chg.refl NoB _) (fun a ha => Is.cons ha (Is.nil ha) rfl)
          · have HS241 := HS228.keep hw240
            refine F_val rfl rfl rfl (O_assign rfl rfl) ?_
            refine F_nil ?_
            refine L_ret (fun a ha => (post_ret1 ha rfl rfl ?_))
            obtain rfl := Option.some.inj H
            exact ⟨rfl, HS241.sel [] rfl⟩

end Go.Proofs.YtlmlbahoaendpaaDoor
