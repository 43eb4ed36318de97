import Derived.Test.YtbegkkmngkpjmaaChecked
import Derived.Test.YtbegkkmngkpjmaaGBuildSpreadPure
set_option linter.unusedVariables false
set_option linter.unusedSimpArgs false
set_option maxRecDepth 10000
set_option maxHeartbeats 1000000
namespace Go.Proofs.Ytbegkkmngkpjmaa
open Go Go.V Go.V.Pu
theorem mix : Try.prog.follows .mixedOrders = true := by kernel_rfl
theorem size3 : (Try.prog.info? 3).map (·.size) = some 1 := by kernel_rfl
theorem flat3 : Flat Try.prog 3 := Flat.of Try.underlying3 rfl
theorem nm23 : (Try.f23.name == "runtime.NumGoroutine") = false := by kernel_rfl
theorem nm30 : (Try.f30.name == "runtime.NumGoroutine") = false := by kernel_rfl
theorem info3 : (Try.prog.info? 3).map (fun i => (i.zero, i.size, i.bytes)) = some (some (.int .i64 0), 1, 8) := by kernel_rfl
theorem nm24 : (Try.f24.name == "runtime.NumGoroutine") = false := by kernel_rfl
theorem nm35 : (Try.f35.name == "runtime.NumGoroutine") = false := by kernel_rfl
theorem nm37 : (Try.f37.name == "runtime.NumGoroutine") = false := by kernel_rfl
theorem nm38 : (Try.f38.name == "runtime.NumGoroutine") = false := by kernel_rfl
theorem field93_0 : FieldAt Try.prog 93 0 0 := fun w a => by kernel_rfl
theorem flat91 : Flat Try.prog 91 := Flat.of Try.underlying91 rfl
theorem field93_1 : FieldAt Try.prog 93 1 1 := fun w a => by kernel_rfl
theorem info95 : (Try.prog.info? 95).map (fun i => (i.zero, i.size, i.bytes)) = some (some (.agg #[.int .i64 0, .int .i64 0, .int .i64 0]), 3, 24) := by kernel_rfl
theorem size91 : (Try.prog.info? 91).map (·.size) = some 1 := by kernel_rfl
theorem size95 : (Try.prog.info? 95).map (·.size) = some 3 := by kernel_rfl
theorem wide95 : Wide Try.prog 95 3 := Wide.of Try.underlying95 rfl (by kernel_rfl)
theorem field95_0 : FieldAt Try.prog 95 0 0 := fun w a => by kernel_rfl
theorem field95_1 : FieldAt Try.prog 95 1 1 := fun w a => by kernel_rfl
theorem nm66 : (Try.f66.name == "runtime.NumGoroutine") = false := by kernel_rfl
theorem nm39 : (Try.f39.name == "runtime.NumGoroutine") = false := by kernel_rfl
theorem nm40 : (Try.f40.name == "runtime.NumGoroutine") = false := by kernel_rfl
theorem field95_2 : FieldAt Try.prog 95 2 2 := fun w a => by kernel_rfl
theorem nm67 : (Try.f67.name == "runtime.NumGoroutine") = false := by kernel_rfl
theorem nm68 : (Try.f68.name == "runtime.NumGoroutine") = false := by kernel_rfl
theorem nm41 : (Try.f41.name == "runtime.NumGoroutine") = false := by kernel_rfl
theorem nm20 : (Try.f20.name == "runtime.NumGoroutine") = false := by kernel_rfl
theorem flat22 : Flat Try.prog 22 := Flat.of Try.underlying22 rfl
theorem nm46 : (Try.f46.name == "runtime.NumGoroutine") = false := by kernel_rfl
theorem nm70 : (Try.f70.name == "runtime.NumGoroutine") = false := by kernel_rfl
theorem nm49 : (Try.f49.name == "runtime.NumGoroutine") = false := by kernel_rfl
theorem nm48 : (Try.f48.name == "runtime.NumGoroutine") = false := by kernel_rfl
theorem nm81 : (Try.f81.name == "runtime.NumGoroutine") = false := by kernel_rfl
theorem nm89 : (Try.f89.name == "runtime.NumGoroutine") = false := by kernel_rfl
theorem nm88 : (Try.f88.name == "runtime.NumGoroutine") = false := by kernel_rfl
theorem nm82 : (Try.f82.name == "runtime.NumGoroutine") = false := by kernel_rfl
theorem nm69 : (Try.f69.name == "runtime.NumGoroutine") = false := by kernel_rfl
theorem nm47 : (Try.f47.name == "runtime.NumGoroutine") = false := by kernel_rfl
theorem info69 : (Try.prog.info? 69).map (fun i => (i.zero, i.size, i.bytes)) = some (some (.agg #[.int .i64 0, .int .i64 0, .pointer none]), 3, 24) := by kernel_rfl
theorem size69 : (Try.prog.info? 69).map (·.size) = some 3 := by kernel_rfl
theorem field69_0 : FieldAt Try.prog 69 0 0 := fun w a => by kernel_rfl
theorem wide69 : Wide Try.prog 69 3 := Wide.of Try.underlying69 rfl (by kernel_rfl)
theorem nm51 : (Try.f51.name == "runtime.NumGoroutine") = false := by kernel_rfl
theorem nm50 : (Try.f50.name == "runtime.NumGoroutine") = false := by kernel_rfl
theorem zero69 : (Try.prog.info? 69).map (·.zero) = some (some (.agg #[.int .i64 0, .int .i64 0, .pointer none])) := by kernel_rfl
theorem field69_2 : FieldAt Try.prog 69 2 2 := fun w a => by kernel_rfl
theorem field69_1 : FieldAt Try.prog 69 1 1 := fun w a => by kernel_rfl
theorem nm52 : (Try.f52.name == "runtime.NumGoroutine") = false := by kernel_rfl
theorem flat67 : Flat Try.prog 67 := Flat.of Try.underlying67 rfl
theorem nm28 : (Try.f28.name == "runtime.NumGoroutine") = false := by kernel_rfl
theorem nm26 : (Try.f26.name == "runtime.NumGoroutine") = false := by kernel_rfl
theorem nm25 : (Try.f25.name == "runtime.NumGoroutine") = false := by kernel_rfl
/-! function 23: valise/valiselaw6.sound -/
theorem valiselaw6_sound.calls {S0 : Nat → Prop} {w0 : World} {A_freq_0 : Option Addr} {c_freq_0 : Nat} {l_freq_0 : List Int} {r : Bool} (HS0 : Hp S0 w0 w0 [.rd A_freq_0 (rowC (Eint .i64) l_freq_0)]) (hc_freq_0 : l_freq_0.length ≤ c_freq_0) (h : valiselaw6_sound.f l_freq_0 = some r) :
    Calls Try.prog 23 ([.slice A_freq_0 l_freq_0.length c_freq_0] : List Value).toArray w0 (fun e w => e = .returned (.bool r) ∧ Hp S0 w0 w []) := by
  have H : ((if 288 < (l_freq_0.length : Int) then (some false) else ((valiselaw6_sound.l1 FU 0 l_freq_0).bind fun (yj2 : Sum (Bool) (Unit)) => onR yj2 (fun r => some r) fun () => some true)) : Option (Bool)) = some r := h
  refine calls_start Try.func23 rfl rfl ?_
  refine L_seq ?_
  refine L_region ?_
  refine F_val rfl rfl rfl (O_assign rfl rfl) ?_
  refine F_nil ?_
  refine L_seq ?_
  refine L_seq ?_
  refine L_region ?_
  refine F_val rfl rfl rfl (O_move rfl rfl) ?_
  refine F_val rfl rfl rfl (O_len rfl rfl Try.underlying22) ?_
  refine F_val rfl rfl rfl (O_gt rfl rfl rfl) ?_
  refine F_nil ?_
  refine L_condP rfl (fun c1 => ?_) (fun c1 => ?_)
  · have H := of_pos H c1
    refine L_seq ?_
    refine L_region ?_
    refine F_val rfl rfl rfl (O_assign rfl rfl) ?_
    refine F_nil ?_
    refine L_ret (fun a ha => (post_ret1 ha rfl rfl ?_))
    obtain rfl := Option.some.inj H
    exact ⟨rfl, HS0.sel [] rfl⟩
  · have H := of_neg H c1
    refine L_skip ?_
    refine L_seq ?_
    refine L_seq ?_
    refine L_region ?_
    refine F_val rfl rfl rfl (O_assign rfl rfl) ?_
    refine F_nil ?_
    obtain ⟨yj2, Hyj2, H⟩ := of_bind H
    refine L_join (fun a w => yj2 = Sum.inr () ∧ Is Try.f23.ntmps a [] ∧ Hp S0 w0 w [.rd A_freq_0 (rowC (Eint .i64) l_freq_0)]) (fun Qj2 hNj2 hOj2 => ?_) (fun a w hR => ?_)
    · have HOj2 := H
      have H := Hyj2
      refine L_blk (fun Qb42 hNb42 hXb42 hOb42 => ?_)
      refine L_lp (fun k a w => ∃ (s_67 : Int), Is Try.f23.ntmps a [(0, .slice A_freq_0 l_freq_0.length c_freq_0), (3, .int .i64 s_67)] ∧ Hp S0 w0 w [.rd A_freq_0 (rowC (Eint .i64) l_freq_0)] ∧ valiselaw6_sound.l1 k s_67 l_freq_0 = some yj2) FU (fun a ha => ⟨_, Is.cons ha (Is.cons ha (Is.nil ha) rfl) rfl, HS0.sel [0] rfl, H⟩) (fun kp66 a w68 hI Qp66 hNp66 hOp66 => ?_)
      obtain ⟨s_67, ha, HS69, HAp66⟩ := hI
      cases kp66 with
      | zero => cases (show (none : Option _) = some _ from HAp66)
      | succ kp66 =>
        have H := (valiselaw6_sound.l1.eq_2 ..).symm.trans HAp66
        refine wpLF_app ?_ ha
        refine L_seq ?_
        refine L_seq ?_
        refine L_region ?_
        refine F_val rfl rfl rfl (O_move rfl rfl) ?_
        refine F_val rfl rfl rfl (O_move rfl rfl) ?_
        refine F_val rfl rfl rfl (O_len rfl rfl Try.underlying22) ?_
        refine F_val rfl rfl rfl (O_lt rfl rfl rfl) ?_
        refine F_nil ?_
        refine L_condP rfl (fun c70 => ?_) (fun c70 => ?_)
        · have H := of_pos H c70
          refine L_skip ?_
          refine L_seq ?_
          refine L_blk (fun Q71 hN71 hX71 hO71 => ?_)
          refine L_seq ?_
          refine L_region ?_
          refine F_val rfl rfl rfl (O_move rfl rfl) ?_
          refine F_val rfl rfl rfl (O_move rfl rfl) ?_
          obtain ⟨⟨g72, g73⟩, H⟩ := of_gd H
          refine F_val rfl rfl rfl (O_idx rfl rfl rfl Try.underlying22 size3 g72 g73 (Cells.isA (HS69.cells_rd (i := 0) rfl) (rowC_ne (E := (Eint .i64)) g72 g73 (by decide)))) ?_
          refine F_val rfl rfl rfl (O_loadC rfl rfl flat3 (HS69.cells_rd (i := 0) rfl) (int_cell g72 g73)) ?_
          refine F_val rfl rfl rfl (O_lt rfl rfl rfl) ?_
          refine F_val rfl rfl rfl (O_move rfl rfl) ?_
          refine F_grp 6 [(24, .bool (decide ((rd l_freq_0 s_67 < 0) ∨ (4294967296 < rd l_freq_0 s_67)))), (0, .slice A_freq_0 l_freq_0.length c_freq_0), (3, .int .i64 s_67)] ?_ ?_
          · rcases Decidable.em (rd l_freq_0 s_67 < 0) with c77 | c77
            · refine F_know (i := 18) rfl (dec_t c77) ?_
              refine F_gskip rfl rfl rfl rfl rfl rfl rfl ?_
              refine F_gskip rfl rfl rfl rfl rfl rfl rfl ?_
              refine F_gskip rfl rfl rfl rfl rfl rfl rfl ?_
              refine F_gskip rfl rfl rfl rfl rfl rfl rfl ?_
              refine F_gskip rfl rfl rfl rfl rfl rfl rfl ?_
              refine F_val rfl rfl rfl (O_pickT rfl rfl rfl) ?_
              refine F_know (i := 24) rfl (dec_or_t (q := 4294967296 < rd l_freq_0 s_67) c77) ?_
              exact F_grpE (fun a ha => Is.cons ha (Is.cons ha (Is.cons ha (Is.nil ha) rfl) rfl) rfl)
            · refine F_know (i := 18) rfl (dec_f c77) ?_
              refine F_gval rfl rfl rfl rfl rfl rfl (O_move rfl rfl) ?_
              refine F_gval rfl rfl rfl rfl rfl rfl (O_move rfl rfl) ?_
              refine F_gval rfl rfl rfl rfl rfl rfl (O_idx rfl rfl rfl Try.underlying22 size3 g72 g73 (Cells.isA (HS69.cells_rd (i := 0) rfl) (rowC_ne (E := (Eint .i64)) g72 g73 (by decide)))) ?_
              refine F_gval rfl rfl rfl rfl rfl rfl (O_loadC rfl rfl flat3 (HS69.cells_rd (i := 0) rfl) (int_cell g72 g73)) ?_
              refine F_gval rfl rfl rfl rfl rfl rfl (O_gt rfl rfl rfl) ?_
              refine F_val rfl rfl rfl (O_pickF rfl rfl rfl) ?_
              refine F_know (i := 24) rfl (dec_or_f (q := 4294967296 < rd l_freq_0 s_67) c77) ?_
              exact F_grpE (fun a ha => Is.cons ha (Is.cons ha (Is.cons ha (Is.nil ha) rfl) rfl) rfl)
          · skip
            refine F_nil ?_
            refine L_condP rfl (fun c78 => ?_) (fun c78 => ?_)
            · have H := of_pos H c78
              refine L_seq ?_
              refine L_region ?_
              refine F_val rfl rfl rfl (O_assign rfl rfl) ?_
              refine F_nil ?_
              refine L_ret (fun a ha => (hO71 .ret a _ rfl (hOp66 .ret a _ rfl (hOb42 .ret a _ rfl (hOj2 .ret a _ rfl (post_ret1 ha rfl rfl ?_))))))
              obtain rfl := Option.some.inj H
              obtain rfl := Option.some.inj (show (some false : Option (Bool)) = some _ from HOj2)
              exact ⟨rfl, HS69.sel [] rfl⟩
            · have H := of_neg H c78
              refine L_skip ?_
              refine L_endB hN71 ?_
              refine L_region ?_
              refine F_val rfl rfl rfl (O_move rfl rfl) ?_
              refine F_val rfl rfl rfl (O_add rfl rfl rfl) ?_
              obtain ⟨x79, h80, H⟩ := of_bnd H
              refine F_val rfl rfl rfl (O_assign' rfl rfl (congrArg (Value.int .i64) h80)) ?_
              refine F_nil ?_
              refine L_nil (fun a ha => hNp66 _ a _ (Nat.lt_succ_self _) ⟨_, Is.cons ha (Is.cons ha (Is.nil ha) rfl) rfl, HS69.sel [0] rfl, H⟩)
        · have H := of_neg H c70
          refine L_exitB (fun a w h => hOp66 (.exit 0) a w rfl (hXb42 a w h)) ?_
          refine L_nil (fun a ha => hNj2 a _ ⟨(Option.some.inj H).symm, Is.nil ha, HS69.sel [0] rfl⟩)
    · obtain ⟨rfl, ha, HS82⟩ := hR
      refine wpLF_app ?_ ha
      have H := (onR_inr _ _ _).symm.trans H
      refine L_seq ?_
      refine L_region ?_
      refine F_val rfl rfl rfl (O_assign rfl rfl) ?_
      refine F_nil ?_
      refine L_ret (fun a ha => (post_ret1 ha rfl rfl ?_))
      obtain rfl := Option.some.inj H
      exact ⟨rfl, HS82.sel [] rfl⟩

/-! function 30: valise/valiselaw6.uses -/
theorem valiselaw6_uses.calls {S0 : Nat → Prop} {w0 : World} {A_freq_0 : Option Addr} {c_freq_0 : Nat} {l_freq_0 : List Int} {r : Int} (HS0 : Hp S0 w0 w0 [.rd A_freq_0 (rowC (Eint .i64) l_freq_0)]) (hc_freq_0 : l_freq_0.length ≤ c_freq_0) (h : valiselaw6_uses.f l_freq_0 = some r) :
    Calls Try.prog 30 ([.slice A_freq_0 l_freq_0.length c_freq_0] : List Value).toArray w0 (fun e w => e = .returned (.int .i64 r) ∧ Hp S0 w0 w []) := by
  have H : (((valiselaw6_uses.l1 FU 0 0 l_freq_0).bind fun u_58 => some u_58) : Option (Int)) = some r := h
  refine calls_start Try.func30 rfl rfl ?_
  refine L_seq ?_
  refine L_region ?_
  refine F_val rfl rfl rfl (O_assign rfl rfl) ?_
  refine F_nil ?_
  refine L_seq ?_
  refine L_region ?_
  refine F_val rfl rfl rfl (O_assign rfl rfl) ?_
  refine F_nil ?_
  refine L_seq ?_
  refine L_seq ?_
  refine L_region ?_
  refine F_val rfl rfl rfl (O_assign rfl rfl) ?_
  refine F_nil ?_
  obtain ⟨yj1, Hyj1, H⟩ := of_bind H
  refine L_join (fun a w => ∃ (u_58 : Int), yj1 = u_58 ∧ Is Try.f30.ntmps a [(3, .int .i64 u_58)] ∧ Hp S0 w0 w [.rd A_freq_0 (rowC (Eint .i64) l_freq_0)]) (fun Qj1 hNj1 hOj1 => ?_) (fun a w hR => ?_)
  · skip
    have H := Hyj1
    refine L_blk (fun Qb59 hNb59 hXb59 hOb59 => ?_)
    refine L_lp (fun k a w => ∃ (u_95 : Int), ∃ (s_96 : Int), Is Try.f30.ntmps a [(0, .slice A_freq_0 l_freq_0.length c_freq_0), (3, .int .i64 u_95), (4, .int .i64 s_96)] ∧ Hp S0 w0 w [.rd A_freq_0 (rowC (Eint .i64) l_freq_0)] ∧ valiselaw6_uses.l1 k u_95 s_96 l_freq_0 = some yj1) FU (fun a ha => ⟨_, _, Is.cons ha (Is.cons ha (Is.cons ha (Is.nil ha) rfl) rfl) rfl, HS0.sel [0] rfl, H⟩) (fun kp94 a w97 hI Qp94 hNp94 hOp94 => ?_)
    obtain ⟨u_95, s_96, ha, HS98, HAp94⟩ := hI
    cases kp94 with
    | zero => cases (show (none : Option _) = some _ from HAp94)
    | succ kp94 =>
      have H := (valiselaw6_uses.l1.eq_2 ..).symm.trans HAp94
      refine wpLF_app ?_ ha
      refine L_seq ?_
      refine L_seq ?_
      refine L_region ?_
      refine F_val rfl rfl rfl (O_move rfl rfl) ?_
      refine F_val rfl rfl rfl (O_move rfl rfl) ?_
      refine F_val rfl rfl rfl (O_len rfl rfl Try.underlying22) ?_
      refine F_val rfl rfl rfl (O_lt rfl rfl rfl) ?_
      refine F_nil ?_
      refine L_condP rfl (fun c99 => ?_) (fun c99 => ?_)
      · have H := of_pos H c99
        refine L_skip ?_
        refine L_seq ?_
        refine L_blk (fun Q100 hN100 hX100 hO100 => ?_)
        refine L_seq ?_
        refine L_region ?_
        refine F_val rfl rfl rfl (O_move rfl rfl) ?_
        refine F_val rfl rfl rfl (O_move rfl rfl) ?_
        obtain ⟨⟨g101, g102⟩, H⟩ := of_gd H
        refine F_val rfl rfl rfl (O_idx rfl rfl rfl Try.underlying22 size3 g101 g102 (Cells.isA (HS98.cells_rd (i := 0) rfl) (rowC_ne (E := (Eint .i64)) g101 g102 (by decide)))) ?_
        refine F_val rfl rfl rfl (O_loadC rfl rfl flat3 (HS98.cells_rd (i := 0) rfl) (int_cell g101 g102)) ?_
        refine F_val rfl rfl rfl (O_gt rfl rfl rfl) ?_
        refine F_nil ?_
        obtain ⟨yj103, Hyj103, H⟩ := of_bind H
        refine L_join (fun a w => ∃ (u_107 : Int), yj103 = u_107 ∧ Is Try.f30.ntmps a [(0, .slice A_freq_0 l_freq_0.length c_freq_0), (3, .int .i64 u_107), (4, .int .i64 s_96)] ∧ Hp S0 w0 w [.rd A_freq_0 (rowC (Eint .i64) l_freq_0)]) (fun Qj103 hNj103 hOj103 => ?_) (fun a w hR => ?_)
        · skip
          have H := Hyj103
          refine L_condP rfl (fun c108 => ?_) (fun c108 => ?_)
          · have H := of_pos H c108
            refine L_region ?_
            refine F_val rfl rfl rfl (O_move rfl rfl) ?_
            refine F_val rfl rfl rfl (O_add rfl rfl rfl) ?_
            obtain ⟨x109, h110, H⟩ := of_bnd H
            refine F_val rfl rfl rfl (O_assign' rfl rfl (congrArg (Value.int .i64) h110)) ?_
            refine F_nil ?_
            refine L_nil (fun a ha => hNj103 a _ ⟨_, (Option.some.inj H).symm, Is.cons ha (Is.cons ha (Is.cons ha (Is.nil ha) rfl) rfl) rfl, HS98.sel [0] rfl⟩)
          · have H := of_neg H c108
            refine L_skip ?_
            refine L_nil (fun a ha => hNj103 a _ ⟨_, (Option.some.inj H).symm, Is.cons ha (Is.cons ha (Is.cons ha (Is.nil ha) rfl) rfl) rfl, HS98.sel [0] rfl⟩)
        · obtain ⟨u_107, ej, ha, HS112⟩ := hR
          obtain rfl := ej.symm
          refine wpLF_app ?_ ha
          refine L_endB hN100 ?_
          refine L_region ?_
          refine F_val rfl rfl rfl (O_move rfl rfl) ?_
          refine F_val rfl rfl rfl (O_add rfl rfl rfl) ?_
          obtain ⟨x113, h114, H⟩ := of_bnd H
          refine F_val rfl rfl rfl (O_assign' rfl rfl (congrArg (Value.int .i64) h114)) ?_
          refine F_nil ?_
          refine L_nil (fun a ha => hNp94 _ a _ (Nat.lt_succ_self _) ⟨_, _, Is.cons ha (Is.cons ha (Is.cons ha (Is.nil ha) rfl) rfl) rfl, HS112.sel [0] rfl, H⟩)
      · have H := of_neg H c99
        refine L_exitB (fun a w h => hOp94 (.exit 0) a w rfl (hXb59 a w h)) ?_
        refine L_nil (fun a ha => hNj1 a _ ⟨_, (Option.some.inj H).symm, Is.cons ha (Is.nil ha) rfl, HS98.sel [0] rfl⟩)
  · obtain ⟨u_58, ej, ha, HS116⟩ := hR
    obtain rfl := ej.symm
    refine wpLF_app ?_ ha
    refine L_seq ?_
    refine L_region ?_
    refine F_val rfl rfl rfl (O_move rfl rfl) ?_
    refine F_val rfl rfl rfl (O_assign rfl rfl) ?_
    refine F_nil ?_
    refine L_ret (fun a ha => (post_ret1 ha rfl rfl ?_))
    obtain rfl := Option.some.inj H
    exact ⟨rfl, HS116.sel [] rfl⟩

/-! function 24: valise/valiselaw6.copied -/
theorem valiselaw6_copied.calls {S0 : Nat → Prop} {w0 : World} {A_a_0 : Option Addr} {c_a_0 : Nat} {l_a_0 : List Int} {r : List Int} (HS0 : Hp S0 w0 w0 [.rd A_a_0 (rowC (Eint .i64) l_a_0)]) (hc_a_0 : l_a_0.length ≤ c_a_0) (h : valiselaw6_copied.f l_a_0 = some r) :
    Calls Try.prog 24 ([.slice A_a_0 l_a_0.length c_a_0] : List Value).toArray w0 (fun e w => ∃ (A1 : Option Addr), ∃ (c1 : Nat), e = .returned (.slice A1 r.length c1) ∧ Hp S0 w0 w [.own A1 c1 (rowC (Eint .i64) r) 3 (Eint .i64).sz]) := by
  have H : (((valiselaw6_copied.l1 FU ([] : List Int) 0 l_a_0).bind fun l72 => some l72) : Option (List Int)) = some r := h
  refine calls_start Try.func24 rfl rfl ?_
  refine L_seq ?_
  refine L_region ?_
  refine F_val rfl rfl rfl (O_assign rfl rfl) ?_
  refine F_nil ?_
  refine L_seq ?_
  refine L_region ?_
  refine F_val rfl rfl rfl (O_assign rfl rfl) ?_
  have HS1 := HS0.addNil 3 (Eint .i64).sz
  have HS1 : Hp S0 w0 w0 [.rd A_a_0 (rowC (Eint .i64) l_a_0), .own none 0 (rowC (Eint .i64) ([] : List Int)) 3 (Eint .i64).sz] := HS1
  refine F_nil ?_
  refine L_seq ?_
  refine L_seq ?_
  refine L_region ?_
  refine F_val rfl rfl rfl (O_assign rfl rfl) ?_
  refine F_nil ?_
  obtain ⟨yj3, Hyj3, H⟩ := of_bind H
  refine L_join (fun a w => ∃ (l72 : List Int), ∃ (A70 : Option Addr), ∃ (c71 : Nat), yj3 = l72 ∧ Is Try.f24.ntmps a [(3, .slice A70 l72.length c71)] ∧ Hp S0 w0 w [.rd A_a_0 (rowC (Eint .i64) l_a_0), .own A70 c71 (rowC (Eint .i64) l72) 3 (Eint .i64).sz]) (fun Qj3 hNj3 hOj3 => ?_) (fun a w hR => ?_)
  · skip
    have H := Hyj3
    refine L_blk (fun Qb73 hNb73 hXb73 hOb73 => ?_)
    refine L_lp (fun k a w => ∃ (l117 : List Int), ∃ (i_118 : Int), ∃ (A115 : Option Addr), ∃ (c116 : Nat), Is Try.f24.ntmps a [(0, .slice A_a_0 l_a_0.length c_a_0), (3, .slice A115 l117.length c116), (4, .int .i64 i_118)] ∧ Hp S0 w0 w [.rd A_a_0 (rowC (Eint .i64) l_a_0), .own A115 c116 (rowC (Eint .i64) l117) 3 (Eint .i64).sz] ∧ valiselaw6_copied.l1 k l117 i_118 l_a_0 = some yj3) FU (fun a ha => ⟨_, _, _, _, Is.cons ha (Is.cons ha (Is.cons ha (Is.nil ha) rfl) rfl) rfl, HS1.sel [0, 1] rfl, H⟩) (fun kp114 a w119 hI Qp114 hNp114 hOp114 => ?_)
    obtain ⟨l117, i_118, A115, c116, ha, HS120, HAp114⟩ := hI
    cases kp114 with
    | zero => cases (show (none : Option _) = some _ from HAp114)
    | succ kp114 =>
      have H := (valiselaw6_copied.l1.eq_2 ..).symm.trans HAp114
      refine wpLF_app ?_ ha
      refine L_seq ?_
      refine L_seq ?_
      refine L_region ?_
      refine F_val rfl rfl rfl (O_move rfl rfl) ?_
      refine F_val rfl rfl rfl (O_move rfl rfl) ?_
      refine F_val rfl rfl rfl (O_len rfl rfl Try.underlying22) ?_
      refine F_val rfl rfl rfl (O_lt rfl rfl rfl) ?_
      refine F_nil ?_
      refine L_condP rfl (fun c121 => ?_) (fun c121 => ?_)
      · have H := of_pos H c121
        refine L_skip ?_
        refine L_seq ?_
        refine L_blk (fun Q122 hN122 hX122 hO122 => ?_)
        refine L_region ?_
        refine F_val rfl rfl rfl (O_move rfl rfl) ?_
        refine F_val rfl rfl rfl (O_move rfl rfl) ?_
        refine F_val rfl rfl rfl (O_move rfl rfl) ?_
        obtain ⟨⟨g123, g124⟩, H⟩ := of_gd H
        refine F_val rfl rfl rfl (O_idx rfl rfl rfl Try.underlying22 size3 g123 g124 (Cells.isA (HS120.cells_rd (i := 0) rfl) (rowC_ne (E := (Eint .i64)) g123 g124 (by decide)))) ?_
        refine F_val rfl rfl rfl (O_loadC rfl rfl flat3 (HS120.cells_rd (i := 0) rfl) (int_cell g123 g124)) ?_
        refine F_litE (E := (Eint .i64)) (e := 3) [(0, .int .i64 (rd l_a_0 i_118))] [rd l_a_0 i_118] rfl rfl rfl rfl rfl rfl rfl (by decide) (fun w => by kernel_rfl) HS120 (fun w125 A127 c128 HS126 => ?_)
        have HS126 : Hp S0 w0 w125 [.rd A_a_0 (rowC (Eint .i64) l_a_0), .own A115 c116 (rowC (Eint .i64) l117) 3 (Eint .i64).sz, .own A127 c128 (rowC (Eint .i64) [rd l_a_0 i_118]) 3 (Eint .i64).sz] := HS126
        obtain ⟨l132, h133, H⟩ := of_bnd H
        obtain ⟨g134, H⟩ := of_gd H
        refine F_appE (E := (Eint .i64)) (xs := l117) (ys := [rd l_a_0 i_118]) (i := 1) rfl rfl rfl rfl Try.underlying22 info3 rfl (by decide) (by decide) rfl rfl HS126 rfl (HS126.cells_own (i := 2) rfl) h133 g134 (fun w130 A135 c136 HS131 => ?_)
        have HS131 : Hp S0 w0 w130 [.rd A_a_0 (rowC (Eint .i64) l_a_0), .own A135 c136 (rowC (Eint .i64) l132) 3 (Eint .i64).sz, .own A127 c128 (rowC (Eint .i64) [rd l_a_0 i_118]) 3 (Eint .i64).sz] := HS131
        refine F_val rfl rfl rfl (O_assign rfl rfl) ?_
        refine F_nil ?_
        refine L_endB hN122 ?_
        refine L_region ?_
        refine F_val rfl rfl rfl (O_move rfl rfl) ?_
        refine F_val rfl rfl rfl (O_add rfl rfl rfl) ?_
        obtain ⟨x137, h138, H⟩ := of_bnd H
        refine F_val rfl rfl rfl (O_assign' rfl rfl (congrArg (Value.int .i64) h138)) ?_
        refine F_nil ?_
        refine L_nil (fun a ha => hNp114 _ a _ (Nat.lt_succ_self _) ⟨_, _, _, _, Is.cons ha (Is.cons ha (Is.cons ha (Is.nil ha) rfl) rfl) rfl, HS131.sel [0, 1] rfl, H⟩)
      · have H := of_neg H c121
        refine L_exitB (fun a w h => hOp114 (.exit 0) a w rfl (hXb73 a w h)) ?_
        refine L_nil (fun a ha => hNj3 a _ ⟨_, _, _, (Option.some.inj H).symm, Is.cons ha (Is.nil ha) rfl, HS120.sel [0, 1] rfl⟩)
  · obtain ⟨l72, A70, c71, ej, ha, HS140⟩ := hR
    obtain rfl := ej.symm
    refine wpLF_app ?_ ha
    refine L_seq ?_
    refine L_region ?_
    refine F_val rfl rfl rfl (O_move rfl rfl) ?_
    refine F_val rfl rfl rfl (O_assign rfl rfl) ?_
    refine F_nil ?_
    refine L_ret (fun a ha => (post_ret1 ha rfl rfl ?_))
    obtain rfl := Option.some.inj H
    exact ⟨_, _, rfl, HS140.sel [1] rfl⟩

/-! function 35: valise/build.used -/
theorem build_used.calls {S0 : Nat → Prop} {w0 : World} {A_freq_0 : Option Addr} {c_freq_0 : Nat} {l_freq_0 : List Int} {r : List Int × Int} (HS0 : Hp S0 w0 w0 [.rd A_freq_0 (rowC (Eint .i64) l_freq_0)]) (hc_freq_0 : l_freq_0.length ≤ c_freq_0) (h : build_used.f l_freq_0 = some r) :
    Calls Try.prog 35 ([.slice A_freq_0 l_freq_0.length c_freq_0] : List Value).toArray w0 (fun e w => ∃ (A1 : Option Addr), ∃ (c1 : Nat), e = .returned (.tuple #[.slice A1 r.1.length c1, .int .i64 r.2]) ∧ Hp S0 w0 w [.own A1 c1 (rowC (Eint .i64) r.1) 3 (Eint .i64).sz]) := by
  have H : ((if 288 < (l_freq_0.length : Int) then (some (([] : List Int), 1)) else ((build_used.l1 FU ([] : List Int) 0 l_freq_0).bind fun (yj6 : Sum (List Int × Int) (List Int)) => onR yj6 (fun r => some r) fun l156 => some (l156, 0))) : Option (List Int × Int)) = some r := h
  refine calls_start Try.func35 rfl rfl ?_
  refine L_seq ?_
  refine L_region ?_
  refine F_val rfl rfl rfl (O_assign rfl rfl) ?_
  refine F_val rfl rfl rfl (O_assign rfl rfl) ?_
  refine F_nil ?_
  refine L_seq ?_
  refine L_seq ?_
  refine L_region ?_
  refine F_val rfl rfl rfl (O_move rfl rfl) ?_
  refine F_val rfl rfl rfl (O_len rfl rfl Try.underlying22) ?_
  refine F_val rfl rfl rfl (O_gt rfl rfl rfl) ?_
  refine F_nil ?_
  refine L_condP rfl (fun c1 => ?_) (fun c1 => ?_)
  · have H := of_pos H c1
    refine L_seq ?_
    refine L_region ?_
    refine F_val rfl rfl rfl (O_assign rfl rfl) ?_
    refine F_val rfl rfl rfl (O_assign rfl rfl) ?_
    refine F_nil ?_
    have HS2 := HS0.addNil 3 (Eint .i64).sz
    refine L_ret (fun a ha => (post_ret2 ha rfl rfl rfl ?_))
    obtain rfl := Option.some.inj H
    exact ⟨_, _, rfl, HS2.sel [1] rfl⟩
  · have H := of_neg H c1
    refine L_skip ?_
    refine L_seq ?_
    refine L_region ?_
    refine F_val rfl rfl rfl (O_assign rfl rfl) ?_
    have HS4 := HS0.addNil 3 (Eint .i64).sz
    have HS4 : Hp S0 w0 w0 [.rd A_freq_0 (rowC (Eint .i64) l_freq_0), .own none 0 (rowC (Eint .i64) ([] : List Int)) 3 (Eint .i64).sz] := HS4
    refine F_nil ?_
    refine L_seq ?_
    refine L_seq ?_
    refine L_region ?_
    refine F_val rfl rfl rfl (O_move rfl rfl) ?_
    refine F_val rfl rfl rfl (O_len rfl rfl Try.underlying22) ?_
    refine F_val rfl rfl rfl (O_move rfl rfl) ?_
    refine F_nil ?_
    obtain ⟨yj6, Hyj6, H⟩ := of_bind H
    refine L_join (fun a w => ∃ (l156 : List Int), ∃ (A154 : Option Addr), ∃ (c155 : Nat), yj6 = Sum.inr l156 ∧ Is Try.f35.ntmps a [(4, .slice A154 l156.length c155)] ∧ Hp S0 w0 w [.rd A_freq_0 (rowC (Eint .i64) l_freq_0), .own A154 c155 (rowC (Eint .i64) l156) 3 (Eint .i64).sz]) (fun Qj6 hNj6 hOj6 => ?_) (fun a w hR => ?_)
    · have HOj6 := H
      have H := Hyj6
      refine L_blk (fun Qb157 hNb157 hXb157 hOb157 => ?_)
      refine L_lp (fun k a w => ∃ (l255 : List Int), ∃ (t256 : Int), ∃ (A253 : Option Addr), ∃ (c254 : Nat), Is Try.f35.ntmps a [(4, .slice A253 l255.length c254), (10, .slice A_freq_0 l_freq_0.length c_freq_0), (11, .int .i64 (l_freq_0.length : Int)), (12, .int .i64 t256)] ∧ Hp S0 w0 w [.rd A_freq_0 (rowC (Eint .i64) l_freq_0), .own A253 c254 (rowC (Eint .i64) l255) 3 (Eint .i64).sz] ∧ build_used.l1 k l255 t256 l_freq_0 = some yj6) FU (fun a ha => ⟨_, _, _, _, Is.cons ha (Is.cons ha (Is.cons ha (Is.cons ha (Is.nil ha) rfl) rfl) rfl) rfl, HS4.sel [0, 1] rfl, H⟩) (fun kp252 a w257 hI Qp252 hNp252 hOp252 => ?_)
      obtain ⟨l255, t256, A253, c254, ha, HS258, HAp252⟩ := hI
      cases kp252 with
      | zero => cases (show (none : Option _) = some _ from HAp252)
      | succ kp252 =>
        have H := (build_used.l1.eq_2 ..).symm.trans HAp252
        refine wpLF_app ?_ ha
        refine L_seq ?_
        refine L_region ?_
        refine F_val rfl rfl rfl (O_lt rfl rfl rfl) ?_
        refine F_nil ?_
        refine L_seq ?_
        refine L_condP rfl (fun c259 => ?_) (fun c259 => ?_)
        · have H := of_pos H c259
          refine L_skip ?_
          refine L_seq ?_
          refine L_blk (fun Q260 hN260 hX260 hO260 => ?_)
          refine L_seq ?_
          refine L_region ?_
          refine F_val rfl rfl rfl (O_move rfl rfl) ?_
          obtain ⟨⟨g261, g262⟩, H⟩ := of_gd H
          refine F_val rfl rfl rfl (O_idx rfl rfl rfl Try.underlying22 size3 g261 g262 (Cells.isA (HS258.cells_rd (i := 0) rfl) (rowC_ne (E := (Eint .i64)) g261 g262 (by decide)))) ?_
          refine F_val rfl rfl rfl (O_loadC rfl rfl flat3 (HS258.cells_rd (i := 0) rfl) (int_cell g261 g262)) ?_
          refine F_val rfl rfl rfl (O_assign rfl rfl) ?_
          obtain ⟨x263, h264, H⟩ := of_bnd H
          refine F_val rfl rfl rfl (O_assign' rfl rfl (congrArg (Value.int .i64) h264)) ?_
          refine F_nil ?_
          refine L_seq ?_
          refine L_seq ?_
          refine L_region ?_
          refine F_val rfl rfl rfl (O_move rfl rfl) ?_
          refine F_val rfl rfl rfl (O_lt rfl rfl rfl) ?_
          refine F_val rfl rfl rfl (O_move rfl rfl) ?_
          refine F_grp 3 [(22, .bool (decide ((x263 < 0) ∨ (4294967296 < x263)))), (4, .slice A253 l255.length c254), (5, .int .i64 t256), (6, .int .i64 x263), (10, .slice A_freq_0 l_freq_0.length c_freq_0), (11, .int .i64 (l_freq_0.length : Int)), (12, .int .i64 t256)] ?_ ?_
          · rcases Decidable.em (x263 < 0) with c268 | c268
            · refine F_know (i := 19) rfl (dec_t c268) ?_
              refine F_gskip rfl rfl rfl rfl rfl rfl rfl ?_
              refine F_gskip rfl rfl rfl rfl rfl rfl rfl ?_
              refine F_val rfl rfl rfl (O_pickT rfl rfl rfl) ?_
              refine F_know (i := 22) rfl (dec_or_t (q := 4294967296 < x263) c268) ?_
              exact F_grpE (fun a ha => Is.cons ha (Is.cons ha (Is.cons ha (Is.cons ha (Is.cons ha (Is.cons ha (Is.cons ha (Is.nil ha) rfl) rfl) rfl) rfl) rfl) rfl) rfl)
            · refine F_know (i := 19) rfl (dec_f c268) ?_
              refine F_gval rfl rfl rfl rfl rfl rfl (O_move rfl rfl) ?_
              refine F_gval rfl rfl rfl rfl rfl rfl (O_gt rfl rfl rfl) ?_
              refine F_val rfl rfl rfl (O_pickF rfl rfl rfl) ?_
              refine F_know (i := 22) rfl (dec_or_f (q := 4294967296 < x263) c268) ?_
              exact F_grpE (fun a ha => Is.cons ha (Is.cons ha (Is.cons ha (Is.cons ha (Is.cons ha (Is.cons ha (Is.cons ha (Is.nil ha) rfl) rfl) rfl) rfl) rfl) rfl) rfl)
          · skip
            refine F_nil ?_
            refine L_condP rfl (fun c269 => ?_) (fun c269 => ?_)
            · have H := of_pos H c269
              refine L_seq ?_
              refine L_region ?_
              refine F_val rfl rfl rfl (O_assign rfl rfl) ?_
              refine F_val rfl rfl rfl (O_assign rfl rfl) ?_
              refine F_nil ?_
              have HS270 := HS258.addNil 3 (Eint .i64).sz
              refine L_ret (fun a ha => (hO260 .ret a _ rfl (hOp252 .ret a _ rfl (hOb157 .ret a _ rfl (hOj6 .ret a _ rfl (post_ret2 ha rfl rfl rfl ?_))))))
              obtain rfl := Option.some.inj H
              obtain rfl := Option.some.inj (show (some (([] : List Int), 61) : Option (List Int × Int)) = some _ from HOj6)
              exact ⟨_, _, rfl, HS270.sel [2] rfl⟩
            · have H := of_neg H c269
              refine L_skip ?_
              refine L_seq ?_
              refine L_region ?_
              refine F_val rfl rfl rfl (O_move rfl rfl) ?_
              refine F_val rfl rfl rfl (O_gt rfl rfl rfl) ?_
              refine F_nil ?_
              obtain ⟨yj272, Hyj272, H⟩ := of_bind H
              refine L_join (fun a w => ∃ (l288 : List Int), ∃ (A286 : Option Addr), ∃ (c287 : Nat), yj272 = l288 ∧ Is Try.f35.ntmps a [(4, .slice A286 l288.length c287), (10, .slice A_freq_0 l_freq_0.length c_freq_0), (11, .int .i64 (l_freq_0.length : Int)), (12, .int .i64 t256)] ∧ Hp S0 w0 w [.rd A_freq_0 (rowC (Eint .i64) l_freq_0), .own A286 c287 (rowC (Eint .i64) l288) 3 (Eint .i64).sz]) (fun Qj272 hNj272 hOj272 => ?_) (fun a w hR => ?_)
              · skip
                have H := Hyj272
                refine L_condP rfl (fun c289 => ?_) (fun c289 => ?_)
                · have H := of_pos H c289
                  refine L_region ?_
                  refine F_val rfl rfl rfl (O_move rfl rfl) ?_
                  refine F_val rfl rfl rfl (O_move rfl rfl) ?_
                  refine F_litE (E := (Eint .i64)) (e := 3) [(0, .int .i64 t256)] [t256] rfl rfl rfl rfl rfl rfl rfl (by decide) (fun w => by kernel_rfl) HS258 (fun w290 A292 c293 HS291 => ?_)
                  have HS291 : Hp S0 w0 w290 [.rd A_freq_0 (rowC (Eint .i64) l_freq_0), .own A253 c254 (rowC (Eint .i64) l255) 3 (Eint .i64).sz, .own A292 c293 (rowC (Eint .i64) [t256]) 3 (Eint .i64).sz] := HS291
                  obtain ⟨l297, h298, H⟩ := of_bnd H
                  obtain ⟨g299, H⟩ := of_gd H
                  refine F_appE (E := (Eint .i64)) (xs := l255) (ys := [t256]) (i := 1) rfl rfl rfl rfl Try.underlying22 info3 rfl (by decide) (by decide) rfl rfl HS291 rfl (HS291.cells_own (i := 2) rfl) h298 g299 (fun w295 A300 c301 HS296 => ?_)
                  have HS296 : Hp S0 w0 w295 [.rd A_freq_0 (rowC (Eint .i64) l_freq_0), .own A300 c301 (rowC (Eint .i64) l297) 3 (Eint .i64).sz, .own A292 c293 (rowC (Eint .i64) [t256]) 3 (Eint .i64).sz] := HS296
                  refine F_val rfl rfl rfl (O_assign rfl rfl) ?_
                  refine F_nil ?_
                  refine L_nil (fun a ha => hNj272 a _ ⟨_, _, _, (Option.some.inj H).symm, Is.cons ha (Is.cons ha (Is.cons ha (Is.cons ha (Is.nil ha) rfl) rfl) rfl) rfl, HS296.sel [0, 1] rfl⟩)
                · have H := of_neg H c289
                  refine L_skip ?_
                  refine L_nil (fun a ha => hNj272 a _ ⟨_, _, _, (Option.some.inj H).symm, Is.cons ha (Is.cons ha (Is.cons ha (Is.cons ha (Is.nil ha) rfl) rfl) rfl) rfl, HS258.sel [0, 1] rfl⟩)
              · obtain ⟨l288, A286, c287, ej, ha, HS303⟩ := hR
                obtain rfl := ej.symm
                refine wpLF_app ?_ ha
                refine L_endB hN260 ?_
                refine L_region ?_
                refine F_val rfl rfl rfl (O_add rfl rfl rfl) ?_
                refine F_val rfl rfl rfl (O_move rfl rfl) ?_
                refine F_nil ?_
                refine L_nil (fun a ha => hNp252 _ a _ (Nat.lt_succ_self _) ⟨_, _, _, _, Is.cons ha (Is.cons ha (Is.cons ha (Is.cons ha (Is.nil ha) rfl) rfl) rfl) rfl, HS303.sel [0, 1] rfl, H⟩)
        · have H := of_neg H c259
          refine L_exitB (fun a w h => hOp252 (.exit 0) a w rfl (hXb157 a w h)) ?_
          refine L_nil (fun a ha => hNj6 a _ ⟨_, _, _, (Option.some.inj H).symm, Is.cons ha (Is.nil ha) rfl, HS258.sel [0, 1] rfl⟩)
    · obtain ⟨l156, A154, c155, rfl, ha, HS305⟩ := hR
      refine wpLF_app ?_ ha
      have H := (onR_inr _ _ _).symm.trans H
      refine L_seq ?_
      refine L_region ?_
      refine F_val rfl rfl rfl (O_move rfl rfl) ?_
      refine F_val rfl rfl rfl (O_assign rfl rfl) ?_
      refine F_val rfl rfl rfl (O_assign rfl rfl) ?_
      refine F_nil ?_
      refine L_ret (fun a ha => (post_ret2 ha rfl rfl rfl ?_))
      obtain rfl := Option.some.inj H
      exact ⟨_, _, rfl, HS305.sel [1] rfl⟩

/-! function 37: valise/build.few -/
theorem build_few.calls {S0 : Nat → Prop} {w0 : World} {A_symbols_1 : Option Addr} {c_symbols_1 : Nat} {n_0 : Int} {l_symbols_1 : List Int} {r : List Int} (HS0 : Hp S0 w0 w0 [.rd A_symbols_1 (rowC (Eint .i64) l_symbols_1)]) (hc_symbols_1 : l_symbols_1.length ≤ c_symbols_1) (h : build_few.f n_0 l_symbols_1 = some r) :
    Calls Try.prog 37 ([.int .i64 n_0, .slice A_symbols_1 l_symbols_1.length c_symbols_1] : List Value).toArray w0 (fun e w => ∃ (A1 : Option Addr), ∃ (c1 : Nat), e = .returned (.slice A1 r.length c1) ∧ Hp S0 w0 w [.own A1 c1 (rowC (Eint .i64) r) 3 (Eint .i64).sz]) := by
  have H : ((gd ((0 : Int) ≤ n_0 ∧ n_0 * 8 ≤ 281474976710656) (bnd (List.replicate (n_0 : Int).toNat (0 : Int)) fun l5 => (build_few.l1 FU l5 0 l_symbols_1).bind fun l58 => some l58)) : Option (List Int)) = some r := h
  refine calls_start Try.func37 rfl rfl ?_
  refine L_seq ?_
  refine L_region ?_
  refine F_val rfl rfl rfl (O_assign rfl rfl) ?_
  refine F_nil ?_
  refine L_seq ?_
  refine L_region ?_
  refine F_val rfl rfl rfl (O_move rfl rfl) ?_
  obtain ⟨⟨g3, g4⟩, H⟩ := of_gd H
  obtain ⟨l5, h6, H⟩ := of_bnd H
  refine F_makeE (E := (Eint .i64)) rfl rfl rfl rfl rfl rfl Try.underlying22 info3 rfl (by decide) (by decide) g3 g4 HS0 h6 (fun w1 A7 c8 HS2 => ?_)
  have HS2 : Hp S0 w0 w1 [.rd A_symbols_1 (rowC (Eint .i64) l_symbols_1), .own A7 c8 (rowC (Eint .i64) l5) 3 (Eint .i64).sz] := HS2
  refine F_val rfl rfl rfl (O_assign rfl rfl) ?_
  refine F_nil ?_
  refine L_seq ?_
  refine L_seq ?_
  refine L_region ?_
  refine F_val rfl rfl rfl (O_move rfl rfl) ?_
  refine F_val rfl rfl rfl (O_len rfl rfl Try.underlying22) ?_
  refine F_val rfl rfl rfl (O_move rfl rfl) ?_
  refine F_nil ?_
  obtain ⟨yj10, Hyj10, H⟩ := of_bind H
  refine L_join (fun a w => ∃ (l58 : List Int), yj10 = l58 ∧ Is Try.f37.ntmps a [(5, .slice A7 l58.length c8)] ∧ Hp S0 w0 w [.rd A_symbols_1 (rowC (Eint .i64) l_symbols_1), .own A7 c8 (rowC (Eint .i64) l58) 3 (Eint .i64).sz]) (fun Qj10 hNj10 hOj10 => ?_) (fun a w hR => ?_)
  · skip
    have H := Hyj10
    refine L_blk (fun Qb59 hNb59 hXb59 hOb59 => ?_)
    refine L_lp (fun k a w => ∃ (l89 : List Int), ∃ (t90 : Int), Is Try.f37.ntmps a [(5, .slice A7 l89.length c8), (10, .slice A_symbols_1 l_symbols_1.length c_symbols_1), (11, .int .i64 (l_symbols_1.length : Int)), (12, .int .i64 t90)] ∧ Hp S0 w0 w [.rd A_symbols_1 (rowC (Eint .i64) l_symbols_1), .own A7 c8 (rowC (Eint .i64) l89) 3 (Eint .i64).sz] ∧ build_few.l1 k l89 t90 l_symbols_1 = some yj10) FU (fun a ha => ⟨_, _, Is.cons ha (Is.cons ha (Is.cons ha (Is.cons ha (Is.nil ha) rfl) rfl) rfl) rfl, HS2.sel [0, 1] rfl, H⟩) (fun kp88 a w91 hI Qp88 hNp88 hOp88 => ?_)
    obtain ⟨l89, t90, ha, HS92, HAp88⟩ := hI
    cases kp88 with
    | zero => cases (show (none : Option _) = some _ from HAp88)
    | succ kp88 =>
      have H := (build_few.l1.eq_2 ..).symm.trans HAp88
      refine wpLF_app ?_ ha
      refine L_seq ?_
      refine L_region ?_
      refine F_val rfl rfl rfl (O_lt rfl rfl rfl) ?_
      refine F_nil ?_
      refine L_seq ?_
      refine L_condP rfl (fun c93 => ?_) (fun c93 => ?_)
      · have H := of_pos H c93
        refine L_skip ?_
        refine L_seq ?_
        refine L_blk (fun Q94 hN94 hX94 hO94 => ?_)
        refine L_seq ?_
        refine L_region ?_
        obtain ⟨⟨g95, g96⟩, H⟩ := of_gd H
        refine F_val rfl rfl rfl (O_idx rfl rfl rfl Try.underlying22 size3 g95 g96 (Cells.isA (HS92.cells_rd (i := 0) rfl) (rowC_ne (E := (Eint .i64)) g95 g96 (by decide)))) ?_
        refine F_val rfl rfl rfl (O_loadC rfl rfl flat3 (HS92.cells_rd (i := 0) rfl) (int_cell g95 g96)) ?_
        obtain ⟨x97, h98, H⟩ := of_bnd H
        refine F_val rfl rfl rfl (O_assign' rfl rfl (congrArg (Value.int .i64) h98)) ?_
        refine F_nil ?_
        refine L_region ?_
        refine F_val rfl rfl rfl (O_move rfl rfl) ?_
        refine F_val rfl rfl rfl (O_move rfl rfl) ?_
        obtain ⟨⟨g99, g100⟩, H⟩ := of_gd H
        refine F_val rfl rfl rfl (O_idx rfl rfl rfl Try.underlying22 size3 g99 g100 (Cells.isA (HS92.cells_own (i := 1) rfl) (rowC_ne (E := (Eint .i64)) g99 g100 (by decide)))) ?_
        obtain ⟨l103, h104, H⟩ := of_bnd H
        refine F_setE (E := (Eint .i64)) (i := 1) (a := 1) (q := x97) rfl rfl rfl rfl rfl rfl size3 HS92 rfl (by decide) g99 g100 h104 (fun w101 HS102 => ?_)
        have e105 : l89.length = l103.length := by rw [← h104, List.length_set]
        refine F_know (i := 5) rfl (congrArg (fun n => Value.slice A7 n c8) e105) ?_
        have HS102 : Hp S0 w0 w101 [.rd A_symbols_1 (rowC (Eint .i64) l_symbols_1), .own A7 c8 (rowC (Eint .i64) l103) 3 (Eint .i64).sz] := HS102
        refine F_nil ?_
        refine L_endB hN94 ?_
        refine L_region ?_
        refine F_val rfl rfl rfl (O_add rfl rfl rfl) ?_
        refine F_val rfl rfl rfl (O_move rfl rfl) ?_
        refine F_nil ?_
        refine L_nil (fun a ha => hNp88 _ a _ (Nat.lt_succ_self _) ⟨_, _, Is.cons ha (Is.cons ha (Is.cons ha (Is.cons ha (Is.nil ha) rfl) rfl) rfl) rfl, HS102.sel [0, 1] rfl, H⟩)
      · have H := of_neg H c93
        refine L_exitB (fun a w h => hOp88 (.exit 0) a w rfl (hXb59 a w h)) ?_
        refine L_nil (fun a ha => hNj10 a _ ⟨_, (Option.some.inj H).symm, Is.cons ha (Is.nil ha) rfl, HS92.sel [0, 1] rfl⟩)
  · obtain ⟨l58, ej, ha, HS107⟩ := hR
    obtain rfl := ej.symm
    refine wpLF_app ?_ ha
    refine L_seq ?_
    refine L_region ?_
    refine F_val rfl rfl rfl (O_move rfl rfl) ?_
    refine F_val rfl rfl rfl (O_assign rfl rfl) ?_
    refine F_nil ?_
    refine L_ret (fun a ha => (post_ret1 ha rfl rfl ?_))
    obtain rfl := Option.some.inj H
    exact ⟨_, _, rfl, HS107.sel [1] rfl⟩

/-! function 38: valise/heap.New[int] -/
theorem heap_New_int.calls {S0 : Nat → Prop} {w0 : World} {r : (List (Int × Int × Int) × Int)} (HS0 : Hp S0 w0 w0 []) (h : heap_New_int.f = some r) :
    Calls Try.prog 38 ([] : List Value).toArray w0 (fun e w => ∃ (g1 : Nat), ∃ (A1_0 : Option Addr), ∃ (c1_0 : Nat), e = .returned (.pointer (some ⟨g1, 0, none⟩)) ∧ Hp S0 w0 w [.box g1 [.slice A1_0 r.1.length c1_0, .int .i64 r.2] 93, .own A1_0 c1_0 (rowC E_heap_node_int r.1) 95 E_heap_node_int.sz]) := by
  have H : ((some (([] : List (Int × Int × Int)), 0)) : Option ((List (Int × Int × Int) × Int))) = some r := h
  refine calls_start Try.func38 rfl rfl ?_
  refine L_seq ?_
  refine L_region ?_
  refine F_val rfl rfl rfl (O_assign rfl rfl) ?_
  refine F_nil ?_
  refine L_seq ?_
  refine L_region ?_
  refine F_val rfl rfl rfl (O_build (vs := []) (v := .agg #[.slice none 0 0, .int .i64 0]) rfl rfl rfl (fun w => by kernel_rfl)) ?_
  have HS5 := HS0.addNil 95 E_heap_node_int.sz
  have HS5 : Hp S0 w0 w0 [.own none 0 (rowC E_heap_node_int ([] : List (Int × Int × Int))) 95 E_heap_node_int.sz] := HS5
  refine F_box (C := [.slice none ([] : List (Int × Int × Int)).length 0, .int .i64 0]) rfl rfl rfl rfl rfl rfl HS5 (fun w1 g3 HS2 => ?_)
  have HS2 : Hp S0 w0 w1 [.own none 0 (rowC E_heap_node_int ([] : List (Int × Int × Int))) 95 E_heap_node_int.sz, .box g3 ([.slice none ([] : List (Int × Int × Int)).length 0, .int .i64 0]) 93] := HS2
  refine F_val rfl rfl rfl (O_assign rfl rfl) ?_
  refine F_nil ?_
  refine L_ret (fun a ha => (post_ret1 ha rfl rfl ?_))
  obtain rfl := Option.some.inj H
  exact ⟨_, _, _, rfl, HS2.sel [1, 0] rfl⟩

/-! function 66: (valise/heap.node[int]).before -/
theorem heap_node_int_before.calls {S0 : Nat → Prop} {w0 : World} {a_0_key : Int} {a_0_turn : Int} {a_0_value : Int} {b_1_key : Int} {b_1_turn : Int} {b_1_value : Int} {r : Bool} (HS0 : Hp S0 w0 w0 []) (h : heap_node_int_before.f a_0_key a_0_turn a_0_value b_1_key b_1_turn b_1_value = some r) :
    Calls Try.prog 66 ([.agg #[.int .i64 a_0_key, .int .i64 a_0_turn, .int .i64 a_0_value], .agg #[.int .i64 b_1_key, .int .i64 b_1_turn, .int .i64 b_1_value]] : List Value).toArray w0 (fun e w => e = .returned (.bool r) ∧ Hp S0 w0 w []) := by
  have H : ((some (decide ((a_0_key < b_1_key) ∨ ((a_0_key = b_1_key) ∧ (a_0_turn < b_1_turn))))) : Option (Bool)) = some r := h
  refine calls_start Try.func66 rfl rfl ?_
  refine L_seq ?_
  refine L_region ?_
  refine F_box (C := [.int .i64 a_0_key, .int .i64 a_0_turn, .int .i64 a_0_value]) rfl rfl rfl rfl rfl rfl HS0 (fun w1 g3 HS2 => ?_)
  have HS2 : Hp S0 w0 w1 [.box g3 [.int .i64 a_0_key, .int .i64 a_0_turn, .int .i64 a_0_value] 95] := HS2
  refine F_box (C := [.int .i64 b_1_key, .int .i64 b_1_turn, .int .i64 b_1_value]) rfl rfl rfl rfl rfl rfl HS2 (fun w5 g7 HS6 => ?_)
  have HS6 : Hp S0 w0 w5 [.box g3 [.int .i64 a_0_key, .int .i64 a_0_turn, .int .i64 a_0_value] 95, .box g7 [.int .i64 b_1_key, .int .i64 b_1_turn, .int .i64 b_1_value] 95] := HS6
  refine F_val rfl rfl rfl (O_assign rfl rfl) ?_
  refine F_nil ?_
  refine L_seq ?_
  refine L_region ?_
  refine F_val rfl rfl rfl (O_fieldB rfl rfl field95_0) ?_
  refine F_val rfl rfl rfl (O_loadB rfl rfl flat3 (HS6.cells_box (i := 0) rfl) rfl) ?_
  refine F_val rfl rfl rfl (O_fieldB rfl rfl field95_0) ?_
  refine F_val rfl rfl rfl (O_loadB rfl rfl flat3 (HS6.cells_box (i := 1) rfl) rfl) ?_
  refine F_val rfl rfl rfl (O_lt rfl rfl rfl) ?_
  refine F_val rfl rfl rfl (O_move rfl rfl) ?_
  refine F_grp 13 [(23, .bool (decide ((a_0_key < b_1_key) ∨ ((a_0_key = b_1_key) ∧ (a_0_turn < b_1_turn)))))] ?_ ?_
  · rcases Decidable.em (a_0_key < b_1_key) with c16 | c16
    · refine F_know (i := 10) rfl (dec_t c16) ?_
      refine F_gskip rfl rfl rfl rfl rfl rfl rfl ?_
      refine F_gskip rfl rfl rfl rfl rfl rfl rfl ?_
      refine F_gskip rfl rfl rfl rfl rfl rfl rfl ?_
      refine F_gskip rfl rfl rfl rfl rfl rfl rfl ?_
      refine F_gskip rfl rfl rfl rfl rfl rfl rfl ?_
      refine F_gskip rfl rfl rfl rfl rfl rfl rfl ?_
      refine F_gskip rfl rfl rfl rfl rfl rfl rfl ?_
      refine F_gskip rfl rfl rfl rfl rfl rfl rfl ?_
      refine F_gskip rfl rfl rfl rfl rfl rfl rfl ?_
      refine F_gskip rfl rfl rfl rfl rfl rfl rfl ?_
      refine F_gskip rfl rfl rfl rfl rfl rfl rfl ?_
      refine F_gskip rfl rfl rfl rfl rfl rfl rfl ?_
      refine F_val rfl rfl rfl (O_pickT rfl rfl rfl) ?_
      refine F_know (i := 23) rfl (dec_or_t (q := (a_0_key = b_1_key) ∧ (a_0_turn < b_1_turn)) c16) ?_
      exact F_grpE (fun a ha => Is.cons ha (Is.nil ha) rfl)
    · refine F_know (i := 10) rfl (dec_f c16) ?_
      refine F_gval rfl rfl rfl rfl rfl rfl (O_fieldB rfl rfl field95_0) ?_
      refine F_gval rfl rfl rfl rfl rfl rfl (O_loadB rfl rfl flat3 (HS6.cells_box (i := 0) rfl) rfl) ?_
      refine F_gval rfl rfl rfl rfl rfl rfl (O_fieldB rfl rfl field95_0) ?_
      refine F_gval rfl rfl rfl rfl rfl rfl (O_loadB rfl rfl flat3 (HS6.cells_box (i := 1) rfl) rfl) ?_
      refine F_gval rfl rfl rfl rfl rfl rfl (O_eq rfl rfl rfl) ?_
      refine F_gval rfl rfl rfl rfl rfl rfl (O_move rfl rfl) ?_
      refine F_grp 6 [(22, .bool (decide ((a_0_key = b_1_key) ∧ (a_0_turn < b_1_turn)))), (10, .bool false)] ?_ ?_
      · rcases Decidable.em (a_0_key = b_1_key) with c20 | c20
        · refine F_know (i := 16) rfl (dec_t c20) ?_
          refine F_gval rfl rfl rfl rfl rfl rfl (O_fieldB rfl rfl field95_1) ?_
          refine F_gval rfl rfl rfl rfl rfl rfl (O_loadB rfl rfl flat3 (HS6.cells_box (i := 0) rfl) rfl) ?_
          refine F_gval rfl rfl rfl rfl rfl rfl (O_fieldB rfl rfl field95_1) ?_
          refine F_gval rfl rfl rfl rfl rfl rfl (O_loadB rfl rfl flat3 (HS6.cells_box (i := 1) rfl) rfl) ?_
          refine F_gval rfl rfl rfl rfl rfl rfl (O_lt rfl rfl rfl) ?_
          refine F_gval rfl rfl rfl rfl rfl rfl (O_pickT rfl rfl rfl) ?_
          refine F_know (i := 22) rfl (dec_and_t (q := a_0_turn < b_1_turn) c20) ?_
          exact F_grpE (fun a ha => Is.cons ha (Is.cons ha (Is.nil ha) rfl) rfl)
        · refine F_know (i := 16) rfl (dec_f c20) ?_
          refine F_gskip rfl rfl rfl rfl rfl rfl rfl ?_
          refine F_gskip rfl rfl rfl rfl rfl rfl rfl ?_
          refine F_gskip rfl rfl rfl rfl rfl rfl rfl ?_
          refine F_gskip rfl rfl rfl rfl rfl rfl rfl ?_
          refine F_gskip rfl rfl rfl rfl rfl rfl rfl ?_
          refine F_gval rfl rfl rfl rfl rfl rfl (O_pickF rfl rfl rfl) ?_
          refine F_know (i := 22) rfl (dec_and_f (q := a_0_turn < b_1_turn) c20) ?_
          exact F_grpE (fun a ha => Is.cons ha (Is.cons ha (Is.nil ha) rfl) rfl)
      · skip
        refine F_val rfl rfl rfl (O_pickF rfl rfl rfl) ?_
        refine F_know (i := 23) rfl (dec_or_f (q := (a_0_key = b_1_key) ∧ (a_0_turn < b_1_turn)) c16) ?_
        exact F_grpE (fun a ha => Is.cons ha (Is.nil ha) rfl)
  · skip
    refine F_val rfl rfl rfl (O_assign rfl rfl) ?_
    refine F_nil ?_
    refine L_ret (fun a ha => (post_ret1 ha rfl rfl ?_))
    obtain rfl := Option.some.inj H
    exact ⟨rfl, HS6.sel [] rfl⟩

/-! function 39: (*valise/heap.Heap[int]).Push -/
theorem heap_Heap_int_Push.calls {S0 : Nat → Prop} {w0 : World} {g_h_0 : Nat} {A_h_0_nodes : Option Addr} {c_h_0_nodes : Nat} {h_0_nodes : List (Int × Int × Int)} {h_0_turn : Int} {key_1 : Int} {value_2 : Int} {r : List (Int × Int × Int) × Int} (HS0 : Hp S0 w0 w0 [.box g_h_0 [.slice A_h_0_nodes h_0_nodes.length c_h_0_nodes, .int .i64 h_0_turn] 93, .own A_h_0_nodes c_h_0_nodes (rowC E_heap_node_int h_0_nodes) 95 E_heap_node_int.sz]) (h : heap_Heap_int_Push.f h_0_nodes h_0_turn key_1 value_2 = some r) :
    Calls Try.prog 39 ([.pointer (some ⟨g_h_0, 0, none⟩), .int .i64 key_1, .int .i64 value_2] : List Value).toArray w0 (fun e w => ∃ (A_h_0_nodes' : Option Addr), ∃ (c_h_0_nodes' : Nat), e = .returned (.tuple #[]) ∧ Hp S0 w0 w [.box g_h_0 [.slice A_h_0_nodes' r.1.length c_h_0_nodes', .int .i64 r.2] 93, .own A_h_0_nodes' c_h_0_nodes' (rowC E_heap_node_int r.1) 95 E_heap_node_int.sz]) := by
  have H : ((bnd (h_0_nodes ++ [(key_1, h_0_turn, value_2)]) fun l26 => gd ((l26.length : Int) * 24 ≤ 140737488355328) (bnd (IntKind.i64.wrap ((l26.length : Int) - 1)) fun x38 => (heap_Heap_int_Push.l1 FU l26 x38 ).bind fun l181 => some (l181, IntKind.i64.wrap (h_0_turn + 1)))) : Option (List (Int × Int × Int) × Int)) = some r := h
  refine calls_start Try.func39 rfl rfl ?_
  refine L_seq ?_
  refine L_seq ?_
  refine L_region ?_
  refine F_val rfl rfl rfl (O_move rfl rfl) ?_
  refine F_val rfl rfl rfl (O_peq rfl rfl rfl Try.underlying52) ?_
  refine F_nil ?_
  refine L_cond rfl (fun hx => by cases hx) (fun _ => ?_)
  refine L_skip ?_
  refine L_seq ?_
  refine L_held2 17 0 [] [13, 16] mix rfl (fun w15 hw16 => ?_)
  have HS17 := HS0.keep hw16
  have HR18 : Hp (HS17.ft [1, 0]) w15 w15 [.own A_h_0_nodes c_h_0_nodes (rowC E_heap_node_int h_0_nodes) 95 E_heap_node_int.sz, .box g_h_0 [.slice A_h_0_nodes h_0_nodes.length c_h_0_nodes, .int .i64 h_0_turn] 93] := HS17.give [1, 0] rfl (Lent.nil)
  refine ⟨fun w => Hp (HS17.ft [1, 0]) w15 w [.own A_h_0_nodes c_h_0_nodes (rowC E_heap_node_int h_0_nodes) 95 E_heap_node_int.sz, .box g_h_0 [.slice A_h_0_nodes h_0_nodes.length c_h_0_nodes, .int .i64 h_0_turn] 93], HS17.turns [1, 0], ?_⟩
  refine H2_fval (i := 0) rfl (by kernel_rfl) (by kernel_rfl) (by kernel_rfl) (by kernel_rfl) (by kernel_rfl) rfl rfl rfl (SS_0 (by kernel_rfl) (HR18.sel [0, 1] rfl)) (fun wq => O_move rfl rfl) ?_
  refine H2_fval (i := 1) rfl (by kernel_rfl) (by kernel_rfl) (by kernel_rfl) (by kernel_rfl) (by kernel_rfl) rfl rfl rfl (SS_0 (by kernel_rfl) (HR18.sel [0, 1] rfl)) (fun wq => O_move rfl rfl) ?_
  refine H2_fval (i := 2) rfl (by kernel_rfl) (by kernel_rfl) (by kernel_rfl) (by kernel_rfl) (by kernel_rfl) rfl rfl rfl (SS_0 (by kernel_rfl) (HR18.sel [0, 1] rfl)) (fun wq => O_nilCheck rfl rfl) ?_
  refine H2_fval (i := 3) rfl (by kernel_rfl) (by kernel_rfl) (by kernel_rfl) (by kernel_rfl) (by kernel_rfl) rfl rfl rfl (SS_0 (by kernel_rfl) (HR18.sel [0, 1] rfl)) (fun wq => O_fieldB rfl rfl field93_0) ?_
  refine H2_val (i := 4) [13, 14, 15, 16] rfl (by kernel_rfl) (by kernel_rfl) (by kernel_rfl) (by kernel_rfl) (by kernel_rfl) (by kernel_rfl) (by kernel_rfl) (by kernel_rfl) rfl rfl rfl (HR18.sel [0, 1] rfl) (fun wq hq => O_loadB rfl rfl flat91 (hq.cells_box (i := 1) rfl) rfl) ?_
  refine H2_fval (i := 5) rfl (by kernel_rfl) (by kernel_rfl) (by kernel_rfl) (by kernel_rfl) (by kernel_rfl) rfl rfl rfl (SS_0 (by kernel_rfl) (HR18.sel [0, 1] rfl)) (fun wq => O_move rfl rfl) ?_
  refine H2_fval (i := 6) rfl (by kernel_rfl) (by kernel_rfl) (by kernel_rfl) (by kernel_rfl) (by kernel_rfl) rfl rfl rfl (SS_0 (by kernel_rfl) (HR18.sel [0, 1] rfl)) (fun wq => O_move rfl rfl) ?_
  refine H2_fval (i := 7) rfl (by kernel_rfl) (by kernel_rfl) (by kernel_rfl) (by kernel_rfl) (by kernel_rfl) rfl rfl rfl (SS_0 (by kernel_rfl) (HR18.sel [0, 1] rfl)) (fun wq => O_nilCheck rfl rfl) ?_
  refine H2_fval (i := 8) rfl (by kernel_rfl) (by kernel_rfl) (by kernel_rfl) (by kernel_rfl) (by kernel_rfl) rfl rfl rfl (SS_0 (by kernel_rfl) (HR18.sel [0, 1] rfl)) (fun wq => O_fieldB rfl rfl field93_1) ?_
  refine H2_val (i := 9) [11, 12, 13, 14, 15, 16] rfl (by kernel_rfl) (by kernel_rfl) (by kernel_rfl) (by kernel_rfl) (by kernel_rfl) (by kernel_rfl) (by kernel_rfl) (by kernel_rfl) rfl rfl rfl (HR18.sel [0, 1] rfl) (fun wq hq => O_loadB rfl rfl flat3 (hq.cells_box (i := 1) rfl) rfl) ?_
  refine H2_fval (i := 10) rfl (by kernel_rfl) (by kernel_rfl) (by kernel_rfl) (by kernel_rfl) (by kernel_rfl) rfl rfl rfl (SS_0 (by kernel_rfl) (HR18.sel [0, 1] rfl)) (fun wq => O_move rfl rfl) ?_
  refine H2_fval (i := 11) rfl (by kernel_rfl) (by kernel_rfl) (by kernel_rfl) (by kernel_rfl) (by kernel_rfl) rfl rfl rfl (SS_0 (by kernel_rfl) (HR18.sel [0, 1] rfl)) (fun wq => O_build (vs := [(0, .int .i64 key_1), (1, .int .i64 h_0_turn), (2, .int .i64 value_2)]) (v := .agg #[.int .i64 key_1, .int .i64 h_0_turn, .int .i64 value_2]) rfl rfl rfl (fun w => by kernel_rfl)) ?_
  refine H2_one (i := 12) rfl (by kernel_rfl) (by kernel_rfl) ?_
  refine F_litE (E := E_heap_node_int) (e := 95) [(0, .agg #[.int .i64 key_1, .int .i64 h_0_turn, .int .i64 value_2])] [(key_1, h_0_turn, value_2)] rfl rfl rfl rfl rfl rfl rfl (by decide) (fun w => by kernel_rfl) HR18 (fun w19 A21 c22 HS20 => ?_)
  have HS20 : Hp (HS17.ft [1, 0]) w15 w19 [.own A_h_0_nodes c_h_0_nodes (rowC E_heap_node_int h_0_nodes) 95 E_heap_node_int.sz, .box g_h_0 [.slice A_h_0_nodes h_0_nodes.length c_h_0_nodes, .int .i64 h_0_turn] 93, .own A21 c22 (rowC E_heap_node_int [(key_1, h_0_turn, value_2)]) 95 E_heap_node_int.sz] := HS20
  refine H2_next (SS_0 (by kernel_rfl) (HS20.sel [0, 1] rfl)) ?_
  refine H2_one (i := 13) rfl (by kernel_rfl) (by kernel_rfl) ?_
  obtain ⟨l26, h27, H⟩ := of_bnd H
  obtain ⟨g28, H⟩ := of_gd H
  refine F_appE2 (E := E_heap_node_int) (xs := h_0_nodes) (ys := [(key_1, h_0_turn, value_2)]) (i := 0) rfl rfl rfl rfl Try.underlying91 info95 rfl (by decide) (by decide) rfl rfl HS20 rfl (HS20.cells_own (i := 2) rfl) h27 g28 (fun w24 HS25 => ?_) (fun w24 A29 c30 HS25 => ?_)
  · skip
    have HS25 : Hp (HS17.ft [1, 0]) w15 w24 [.own A_h_0_nodes c_h_0_nodes (rowC E_heap_node_int l26) 95 E_heap_node_int.sz, .box g_h_0 [.slice A_h_0_nodes h_0_nodes.length c_h_0_nodes, .int .i64 h_0_turn] 93, .own A21 c22 (rowC E_heap_node_int [(key_1, h_0_turn, value_2)]) 95 E_heap_node_int.sz] := HS25
    have hs31 := (HS25.cells_own (i := 0) rfl).preZ h27
    refine H2_next (SS_1 (by kernel_rfl) HS25.chg) ?_
    refine H2_fval (i := 14) rfl (by kernel_rfl) (by kernel_rfl) (by kernel_rfl) (by kernel_rfl) (by kernel_rfl) rfl rfl rfl (SS_1 (by kernel_rfl) HS25.chg) (fun wq => O_nilCheck rfl rfl) ?_
    refine H2_fval (i := 15) rfl (by kernel_rfl) (by kernel_rfl) (by kernel_rfl) (by kernel_rfl) (by kernel_rfl) rfl rfl rfl (SS_1 (by kernel_rfl) HS25.chg) (fun wq => O_fieldB rfl rfl field93_0) ?_
    refine H2_one (i := 16) rfl (by kernel_rfl) (by kernel_rfl) ?_
    refine F_stB 1 ([.slice A_h_0_nodes l26.length c_h_0_nodes, .int .i64 h_0_turn]) rfl rfl rfl rfl rfl size91 HS25 rfl rfl rfl rfl rfl (fun w33 HS34 => ?_)
    have HS34 : Hp (HS17.ft [1, 0]) w15 w33 [.own A_h_0_nodes c_h_0_nodes (rowC E_heap_node_int l26) 95 E_heap_node_int.sz, .box g_h_0 [.slice A_h_0_nodes l26.length c_h_0_nodes, .int .i64 h_0_turn] 93, .own A21 c22 (rowC E_heap_node_int [(key_1, h_0_turn, value_2)]) 95 E_heap_node_int.sz] := HS34
    refine H2_next (SS_1 (by kernel_rfl) HS34.chg) ?_
    refine H2_end (by kernel_rfl) ?_
    have HS35 : Hp S0 w0 w33 [.box g_h_0 [.slice A_h_0_nodes l26.length c_h_0_nodes, .int .i64 h_0_turn] 93, .own A_h_0_nodes c_h_0_nodes (rowC E_heap_node_int l26) 95 E_heap_node_int.sz, .own A21 c22 (rowC E_heap_node_int [(key_1, h_0_turn, value_2)]) 95 E_heap_node_int.sz] := (HS17.back [1, 0] (HS34.sel [0, 1, 2] rfl) rfl).sel [3, 2, 4] rfl
    refine T_done (by kernel_rfl) ?_
    refine L_seq ?_
    refine L_region ?_
    refine F_val rfl rfl rfl (O_move rfl rfl) ?_
    refine F_val rfl rfl rfl (O_nilCheck rfl rfl) ?_
    refine F_val rfl rfl rfl (O_fieldB rfl rfl field93_1) ?_
    refine F_val rfl rfl rfl (O_loadB rfl rfl flat3 (HS35.cells_box (i := 0) rfl) rfl) ?_
    refine F_val rfl rfl rfl (O_add rfl rfl rfl) ?_
    refine F_val rfl rfl rfl (O_nilCheck rfl rfl) ?_
    refine F_val rfl rfl rfl (O_fieldB rfl rfl field93_1) ?_
    refine F_stB 0 ([.slice A_h_0_nodes l26.length c_h_0_nodes, .int .i64 (IntKind.i64.wrap (h_0_turn + 1))]) rfl rfl rfl rfl rfl size3 HS35 rfl rfl rfl rfl rfl (fun w36 HS37 => ?_)
    have HS37 : Hp S0 w0 w36 [.box g_h_0 [.slice A_h_0_nodes l26.length c_h_0_nodes, .int .i64 (IntKind.i64.wrap (h_0_turn + 1))] 93, .own A_h_0_nodes c_h_0_nodes (rowC E_heap_node_int l26) 95 E_heap_node_int.sz, .own A21 c22 (rowC E_heap_node_int [(key_1, h_0_turn, value_2)]) 95 E_heap_node_int.sz] := HS37
    refine F_nil ?_
    refine L_seq ?_
    refine L_region ?_
    refine F_val rfl rfl rfl (O_move rfl rfl) ?_
    refine F_val rfl rfl rfl (O_nilCheck rfl rfl) ?_
    refine F_val rfl rfl rfl (O_fieldB rfl rfl field93_0) ?_
    refine F_val rfl rfl rfl (O_loadB rfl rfl flat91 (HS37.cells_box (i := 0) rfl) rfl) ?_
    refine F_val rfl rfl rfl (O_len rfl rfl Try.underlying91) ?_
    refine F_val rfl rfl rfl (O_sub rfl rfl rfl) ?_
    obtain ⟨x38, h39, H⟩ := of_bnd H
    refine F_val rfl rfl rfl (O_assign' rfl rfl (congrArg (Value.int .i64) h39)) ?_
    refine F_nil ?_
    obtain ⟨yj40, Hyj40, H⟩ := of_bind H
    refine L_join (fun a w => ∃ (l181 : List (Int × Int × Int)), yj40 = l181 ∧ Is Try.f39.ntmps a [] ∧ Hp S0 w0 w [.box g_h_0 [.slice A_h_0_nodes l181.length c_h_0_nodes, .int .i64 (IntKind.i64.wrap (h_0_turn + 1))] 93, .own A_h_0_nodes c_h_0_nodes (rowC E_heap_node_int l181) 95 E_heap_node_int.sz]) (fun Qj40 hNj40 hOj40 => ?_) (fun a w hR => ?_)
    · skip
      have H := Hyj40
      refine L_blk (fun Qb182 hNb182 hXb182 hOb182 => ?_)
      refine L_lp (fun k a w => ∃ (l274 : List (Int × Int × Int)), ∃ (i_275 : Int), Is Try.f39.ntmps a [(0, .pointer (some ⟨g_h_0, 0, none⟩)), (6, .int .i64 i_275)] ∧ Hp S0 w0 w [.box g_h_0 [.slice A_h_0_nodes l274.length c_h_0_nodes, .int .i64 (IntKind.i64.wrap (h_0_turn + 1))] 93, .own A_h_0_nodes c_h_0_nodes (rowC E_heap_node_int l274) 95 E_heap_node_int.sz] ∧ heap_Heap_int_Push.l1 k l274 i_275  = some yj40) FU (fun a ha => ⟨_, _, Is.cons ha (Is.cons ha (Is.nil ha) rfl) rfl, HS37.sel [0, 1] rfl, H⟩) (fun kp273 a w276 hI Qp273 hNp273 hOp273 => ?_)
      obtain ⟨l274, i_275, ha, HS277, HAp273⟩ := hI
      cases kp273 with
      | zero => cases (show (none : Option _) = some _ from HAp273)
      | succ kp273 =>
        have H := (heap_Heap_int_Push.l1.eq_2 ..).symm.trans HAp273
        refine wpLF_app ?_ ha
        refine L_seq ?_
        refine L_seq ?_
        refine L_region ?_
        refine F_val rfl rfl rfl (O_move rfl rfl) ?_
        refine F_val rfl rfl rfl (O_gt rfl rfl rfl) ?_
        refine F_nil ?_
        refine L_condP rfl (fun c278 => ?_) (fun c278 => ?_)
        · have H := of_pos H c278
          refine L_skip ?_
          refine L_blk (fun Q279 hN279 hX279 hO279 => ?_)
          refine L_seq ?_
          refine L_region ?_
          refine F_val rfl rfl rfl (O_move rfl rfl) ?_
          refine F_val rfl rfl rfl (O_sub rfl rfl rfl) ?_
          refine F_val rfl rfl rfl (O_quo rfl rfl rfl (by decide)) ?_
          obtain ⟨x280, h281, H⟩ := of_bnd H
          refine F_val rfl rfl rfl (O_assign' rfl rfl (congrArg (Value.int .i64) h281)) ?_
          refine F_nil ?_
          refine L_seq ?_
          refine L_seq ?_
          refine L_quiet mix (by kernel_rfl) ?_
          refine Q_val rfl rfl rfl (fun wq hq => O_move rfl rfl) ?_
          refine Q_val rfl rfl rfl (fun wq hq => O_nilCheck rfl rfl) ?_
          refine Q_val rfl rfl rfl (fun wq hq => O_fieldB rfl rfl field93_0) ?_
          refine Q_val rfl rfl rfl (fun wq hq => O_loadB rfl rfl flat91 ((HS277.keep hq).cells_box (i := 0) rfl) rfl) ?_
          refine Q_val rfl rfl rfl (fun wq hq => O_move rfl rfl) ?_
          obtain ⟨⟨g282, g283⟩, H⟩ := of_gd H
          refine Q_val rfl rfl rfl (fun wq hq => O_idx rfl rfl rfl Try.underlying91 size95 g282 g283 (Cells.isA ((HS277.keep hq).cells_own (i := 1) rfl) (rowC_ne (E := E_heap_node_int) g282 g283 (by decide)))) ?_
          refine Q_val rfl rfl rfl (fun wq hq => O_loadEl (E := E_heap_node_int) rfl rfl wide95 ((HS277.keep hq).cells_own (i := 1) rfl) g282 g283 (by decide)) ?_
          refine Q_val rfl rfl rfl (fun wq hq => O_move rfl rfl) ?_
          refine Q_val rfl rfl rfl (fun wq hq => O_nilCheck rfl rfl) ?_
          refine Q_val rfl rfl rfl (fun wq hq => O_fieldB rfl rfl field93_0) ?_
          refine Q_val rfl rfl rfl (fun wq hq => O_loadB rfl rfl flat91 ((HS277.keep hq).cells_box (i := 0) rfl) rfl) ?_
          refine Q_val rfl rfl rfl (fun wq hq => O_move rfl rfl) ?_
          obtain ⟨⟨g284, g285⟩, H⟩ := of_gd H
          refine Q_val rfl rfl rfl (fun wq hq => O_idx rfl rfl rfl Try.underlying91 size95 g284 g285 (Cells.isA ((HS277.keep hq).cells_own (i := 1) rfl) (rowC_ne (E := E_heap_node_int) g284 g285 (by decide)))) ?_
          refine Q_val rfl rfl rfl (fun wq hq => O_loadEl (E := E_heap_node_int) rfl rfl wide95 ((HS277.keep hq).cells_own (i := 1) rfl) g284 g285 (by decide)) ?_
          obtain ⟨z288, h287, H⟩ := of_bind H
          refine Q_call (v := .bool z288) (xs := [.tmp 50, .tmp 57]) rfl rfl rfl rfl Try.func66 nm66 rfl rfl (fun wq hq => (heap_node_int_before.calls ((HS277.keep hq).give [] rfl (Lent.nil)) h287).mono (fun e w hc => ?_)) ?_
          · obtain ⟨rfl, h⟩ := hc
            exact ⟨rfl, hq.trans h.chg0⟩
          refine Q_val rfl rfl rfl (fun wq hq => O_notb rfl rfl) ?_
          refine Q_nil (fun w289 hw290 => ?_)
          have HS291 := HS277.keep hw290
          refine L_cond rfl (fun c292 => ?_) (fun c292 => ?_)
          · have H := of_pos H c292
            refine L_exitB (fun a w h => hO279 (.exit 0) a w rfl ((fun a w h => hOp273 (.exit 0) a w rfl (hXb182 a w h)) a w h)) ?_
            refine L_nil (fun a ha => hNj40 a _ ⟨_, (Option.some.inj H).symm, Is.nil ha, HS291.sel [0, 1] rfl⟩)
          · have H := of_neg H (by rw [c292]; exact Bool.false_ne_true)
            refine L_skip ?_
            refine L_seq ?_
            refine L_held2 27 1 [27] [25, 27] mix rfl (fun w305 hw306 => ?_)
            have HS307 := HS291.keep hw306
            have HR308 : Hp (HS307.ft [0, 1]) w305 w305 [.box g_h_0 [.slice A_h_0_nodes l274.length c_h_0_nodes, .int .i64 (IntKind.i64.wrap (h_0_turn + 1))] 93, .own A_h_0_nodes c_h_0_nodes (rowC E_heap_node_int l274) 95 E_heap_node_int.sz] := HS307.give [0, 1] rfl (Lent.nil)
            refine ⟨fun w => Hp (HS307.ft [0, 1]) w305 w [.box g_h_0 [.slice A_h_0_nodes l274.length c_h_0_nodes, .int .i64 (IntKind.i64.wrap (h_0_turn + 1))] 93, .own A_h_0_nodes c_h_0_nodes (rowC E_heap_node_int l274) 95 E_heap_node_int.sz], HS307.turns [0, 1], ?_⟩
            refine H2_fval (i := 0) rfl (by kernel_rfl) (by kernel_rfl) (by kernel_rfl) (by kernel_rfl) (by kernel_rfl) rfl rfl rfl (SS_0 (by kernel_rfl) (HR308.sel [0, 1] rfl)) (fun wq => O_move rfl rfl) ?_
            refine H2_fval (i := 1) rfl (by kernel_rfl) (by kernel_rfl) (by kernel_rfl) (by kernel_rfl) (by kernel_rfl) rfl rfl rfl (SS_0 (by kernel_rfl) (HR308.sel [0, 1] rfl)) (fun wq => O_nilCheck rfl rfl) ?_
            refine H2_fval (i := 2) rfl (by kernel_rfl) (by kernel_rfl) (by kernel_rfl) (by kernel_rfl) (by kernel_rfl) rfl rfl rfl (SS_0 (by kernel_rfl) (HR308.sel [0, 1] rfl)) (fun wq => O_fieldB rfl rfl field93_0) ?_
            refine H2_val (i := 3) [24, 25, 26, 27] rfl (by kernel_rfl) (by kernel_rfl) (by kernel_rfl) (by kernel_rfl) (by kernel_rfl) (by kernel_rfl) (by kernel_rfl) (by kernel_rfl) rfl rfl rfl (HR308.sel [0, 1] rfl) (fun wq hq => O_loadB rfl rfl flat91 (hq.cells_box (i := 0) rfl) rfl) ?_
            refine H2_fval (i := 4) rfl (by kernel_rfl) (by kernel_rfl) (by kernel_rfl) (by kernel_rfl) (by kernel_rfl) rfl rfl rfl (SS_0 (by kernel_rfl) (HR308.sel [0, 1] rfl)) (fun wq => O_move rfl rfl) ?_
            refine H2_fval (i := 5) rfl (by kernel_rfl) (by kernel_rfl) (by kernel_rfl) (by kernel_rfl) (by kernel_rfl) rfl rfl rfl (SS_0 (by kernel_rfl) (HR308.sel [0, 1] rfl)) (fun wq => O_move rfl rfl) ?_
            refine H2_fval (i := 6) rfl (by kernel_rfl) (by kernel_rfl) (by kernel_rfl) (by kernel_rfl) (by kernel_rfl) rfl rfl rfl (SS_0 (by kernel_rfl) (HR308.sel [0, 1] rfl)) (fun wq => O_nilCheck rfl rfl) ?_
            refine H2_fval (i := 7) rfl (by kernel_rfl) (by kernel_rfl) (by kernel_rfl) (by kernel_rfl) (by kernel_rfl) rfl rfl rfl (SS_0 (by kernel_rfl) (HR308.sel [0, 1] rfl)) (fun wq => O_fieldB rfl rfl field93_0) ?_
            refine H2_val (i := 8) [24, 25, 26, 27] rfl (by kernel_rfl) (by kernel_rfl) (by kernel_rfl) (by kernel_rfl) (by kernel_rfl) (by kernel_rfl) (by kernel_rfl) (by kernel_rfl) rfl rfl rfl (HR308.sel [0, 1] rfl) (fun wq hq => O_loadB rfl rfl flat91 (hq.cells_box (i := 0) rfl) rfl) ?_
            refine H2_fval (i := 9) rfl (by kernel_rfl) (by kernel_rfl) (by kernel_rfl) (by kernel_rfl) (by kernel_rfl) rfl rfl rfl (SS_0 (by kernel_rfl) (HR308.sel [0, 1] rfl)) (fun wq => O_move rfl rfl) ?_
            refine H2_fval (i := 10) rfl (by kernel_rfl) (by kernel_rfl) (by kernel_rfl) (by kernel_rfl) (by kernel_rfl) rfl rfl rfl (SS_0 (by kernel_rfl) (HR308.sel [0, 1] rfl)) (fun wq => O_move rfl rfl) ?_
            refine H2_fval (i := 11) rfl (by kernel_rfl) (by kernel_rfl) (by kernel_rfl) (by kernel_rfl) (by kernel_rfl) rfl rfl rfl (SS_0 (by kernel_rfl) (HR308.sel [0, 1] rfl)) (fun wq => O_nilCheck rfl rfl) ?_
            refine H2_fval (i := 12) rfl (by kernel_rfl) (by kernel_rfl) (by kernel_rfl) (by kernel_rfl) (by kernel_rfl) rfl rfl rfl (SS_0 (by kernel_rfl) (HR308.sel [0, 1] rfl)) (fun wq => O_fieldB rfl rfl field93_0) ?_
            refine H2_val (i := 13) [15, 16, 24, 25, 26, 27] rfl (by kernel_rfl) (by kernel_rfl) (by kernel_rfl) (by kernel_rfl) (by kernel_rfl) (by kernel_rfl) (by kernel_rfl) (by kernel_rfl) rfl rfl rfl (HR308.sel [0, 1] rfl) (fun wq hq => O_loadB rfl rfl flat91 (hq.cells_box (i := 0) rfl) rfl) ?_
            refine H2_fval (i := 14) rfl (by kernel_rfl) (by kernel_rfl) (by kernel_rfl) (by kernel_rfl) (by kernel_rfl) rfl rfl rfl (SS_0 (by kernel_rfl) (HR308.sel [0, 1] rfl)) (fun wq => O_move rfl rfl) ?_
            refine H2_fval (i := 15) rfl (by kernel_rfl) (by kernel_rfl) (by kernel_rfl) (by kernel_rfl) (by kernel_rfl) rfl rfl rfl (SS_0 (by kernel_rfl) (HR308.sel [0, 1] rfl)) (fun wq => O_idx rfl rfl rfl Try.underlying91 size95 g284 g285 (Cells.isA (HR308.cells_own (i := 1) rfl) (rowC_ne (E := E_heap_node_int) g284 g285 (by decide)))) ?_
            refine H2_val (i := 16) [24, 25, 26, 27] rfl (by kernel_rfl) (by kernel_rfl) (by kernel_rfl) (by kernel_rfl) (by kernel_rfl) (by kernel_rfl) (by kernel_rfl) (by kernel_rfl) rfl rfl rfl (HR308.sel [0, 1] rfl) (fun wq hq => O_loadEl (E := E_heap_node_int) rfl rfl wide95 (hq.cells_own (i := 1) rfl) g284 g285 (by decide)) ?_
            refine H2_fval (i := 17) rfl (by kernel_rfl) (by kernel_rfl) (by kernel_rfl) (by kernel_rfl) (by kernel_rfl) rfl rfl rfl (SS_0 (by kernel_rfl) (HR308.sel [0, 1] rfl)) (fun wq => O_move rfl rfl) ?_
            refine H2_fval (i := 18) rfl (by kernel_rfl) (by kernel_rfl) (by kernel_rfl) (by kernel_rfl) (by kernel_rfl) rfl rfl rfl (SS_0 (by kernel_rfl) (HR308.sel [0, 1] rfl)) (fun wq => O_nilCheck rfl rfl) ?_
            refine H2_fval (i := 19) rfl (by kernel_rfl) (by kernel_rfl) (by kernel_rfl) (by kernel_rfl) (by kernel_rfl) rfl rfl rfl (SS_0 (by kernel_rfl) (HR308.sel [0, 1] rfl)) (fun wq => O_fieldB rfl rfl field93_0) ?_
            refine H2_val (i := 20) [22, 23, 24, 25, 26, 27] rfl (by kernel_rfl) (by kernel_rfl) (by kernel_rfl) (by kernel_rfl) (by kernel_rfl) (by kernel_rfl) (by kernel_rfl) (by kernel_rfl) rfl rfl rfl (HR308.sel [0, 1] rfl) (fun wq hq => O_loadB rfl rfl flat91 (hq.cells_box (i := 0) rfl) rfl) ?_
            refine H2_fval (i := 21) rfl (by kernel_rfl) (by kernel_rfl) (by kernel_rfl) (by kernel_rfl) (by kernel_rfl) rfl rfl rfl (SS_0 (by kernel_rfl) (HR308.sel [0, 1] rfl)) (fun wq => O_move rfl rfl) ?_
            refine H2_fval (i := 22) rfl (by kernel_rfl) (by kernel_rfl) (by kernel_rfl) (by kernel_rfl) (by kernel_rfl) rfl rfl rfl (SS_0 (by kernel_rfl) (HR308.sel [0, 1] rfl)) (fun wq => O_idx rfl rfl rfl Try.underlying91 size95 g282 g283 (Cells.isA (HR308.cells_own (i := 1) rfl) (rowC_ne (E := E_heap_node_int) g282 g283 (by decide)))) ?_
            refine H2_val (i := 23) [24, 25, 26, 27] rfl (by kernel_rfl) (by kernel_rfl) (by kernel_rfl) (by kernel_rfl) (by kernel_rfl) (by kernel_rfl) (by kernel_rfl) (by kernel_rfl) rfl rfl rfl (HR308.sel [0, 1] rfl) (fun wq hq => O_loadEl (E := E_heap_node_int) rfl rfl wide95 (hq.cells_own (i := 1) rfl) g282 g283 (by decide)) ?_
            refine H2_fval (i := 24) rfl (by kernel_rfl) (by kernel_rfl) (by kernel_rfl) (by kernel_rfl) (by kernel_rfl) rfl rfl rfl (SS_0 (by kernel_rfl) (HR308.sel [0, 1] rfl)) (fun wq => O_idx rfl rfl rfl Try.underlying91 size95 g282 g283 (Cells.isA (HR308.cells_own (i := 1) rfl) (rowC_ne (E := E_heap_node_int) g282 g283 (by decide)))) ?_
            refine H2_one (i := 25) rfl (by kernel_rfl) (by kernel_rfl) ?_
            obtain ⟨l311, h312, H⟩ := of_bnd H
            refine F_setE (E := E_heap_node_int) (i := 1) (a := ((rdx E_heap_node_int l274 x280).1, (rdx E_heap_node_int l274 x280).2.1, (rdx E_heap_node_int l274 x280).2.2)) (q := i_275) rfl rfl rfl rfl rfl rfl size95 HR308 rfl (by decide) g282 g283 h312 (fun w309 HS310 => ?_)
            have e313 : l274.length = l311.length := by rw [← h312, List.length_set]
            refine F_know (i := 63) rfl (congrArg (fun n => Value.slice A_h_0_nodes n c_h_0_nodes) e313) ?_
            refine F_know (i := 68) rfl (congrArg (fun n => Value.slice A_h_0_nodes n c_h_0_nodes) e313) ?_
            refine F_know (i := 73) rfl (congrArg (fun n => Value.slice A_h_0_nodes n c_h_0_nodes) e313) ?_
            refine F_know (i := 80) rfl (congrArg (fun n => Value.slice A_h_0_nodes n c_h_0_nodes) e313) ?_
            have HS310 : Hp (HS307.ft [0, 1]) w305 w309 [.box g_h_0 [.slice A_h_0_nodes l311.length c_h_0_nodes, .int .i64 (IntKind.i64.wrap (h_0_turn + 1))] 93, .own A_h_0_nodes c_h_0_nodes (rowC E_heap_node_int l311) 95 E_heap_node_int.sz] := (by rw [← e313]; exact HS310)
            refine H2_next (SS_1 (by kernel_rfl) HS310.chg) ?_
            obtain ⟨⟨g314, g315⟩, H⟩ := of_gd H
            refine H2_fval (i := 26) rfl (by kernel_rfl) (by kernel_rfl) (by kernel_rfl) (by kernel_rfl) (by kernel_rfl) rfl rfl rfl (SS_1 (by kernel_rfl) HS310.chg) (fun wq => O_idx rfl rfl rfl Try.underlying91 size95 g314 g315 (Cells.isA (HS310.cells_own (i := 1) rfl) (rowC_ne (E := E_heap_node_int) g314 g315 (by decide)))) ?_
            refine H2_end (by kernel_rfl) ?_
            have HS316 : Hp S0 w0 w309 [.box g_h_0 [.slice A_h_0_nodes l311.length c_h_0_nodes, .int .i64 (IntKind.i64.wrap (h_0_turn + 1))] 93, .own A_h_0_nodes c_h_0_nodes (rowC E_heap_node_int l311) 95 E_heap_node_int.sz] := (HS307.back [0, 1] (HS310.sel [0, 1] rfl) rfl).sel [2, 3] rfl
            refine T_one (i := 27) rfl (by kernel_rfl) ?_
            obtain ⟨l319, h320, H⟩ := of_bnd H
            refine F_setE (E := E_heap_node_int) (i := 1) (a := ((rdx E_heap_node_int l274 i_275).1, (rdx E_heap_node_int l274 i_275).2.1, (rdx E_heap_node_int l274 i_275).2.2)) (q := x280) rfl rfl rfl rfl rfl rfl size95 HS316 rfl (by decide) g314 g315 h320 (fun w317 HS318 => ?_)
            have e321 : l311.length = l319.length := by rw [← h320, List.length_set]
            refine F_know (i := 63) rfl (congrArg (fun n => Value.slice A_h_0_nodes n c_h_0_nodes) e321) ?_
            refine F_know (i := 68) rfl (congrArg (fun n => Value.slice A_h_0_nodes n c_h_0_nodes) e321) ?_
            refine F_know (i := 73) rfl (congrArg (fun n => Value.slice A_h_0_nodes n c_h_0_nodes) e321) ?_
            refine F_know (i := 80) rfl (congrArg (fun n => Value.slice A_h_0_nodes n c_h_0_nodes) e321) ?_
            have HS318 : Hp S0 w0 w317 [.box g_h_0 [.slice A_h_0_nodes l319.length c_h_0_nodes, .int .i64 (IntKind.i64.wrap (h_0_turn + 1))] 93, .own A_h_0_nodes c_h_0_nodes (rowC E_heap_node_int l319) 95 E_heap_node_int.sz] := (by rw [← e321]; exact HS318)
            refine T_next ?_
            refine T_done (by kernel_rfl) ?_
            refine L_region ?_
            refine F_val rfl rfl rfl (O_move rfl rfl) ?_
            refine F_val rfl rfl rfl (O_assign rfl rfl) ?_
            refine F_nil ?_
            refine L_endB hN279 ?_
            refine L_nil (fun a ha => hNp273 _ a _ (Nat.lt_succ_self _) ⟨_, _, Is.cons ha (Is.cons ha (Is.nil ha) rfl) rfl, HS318.sel [0, 1] rfl, H⟩)
        · have H := of_neg H c278
          refine L_exitB (fun a w h => hOp273 (.exit 0) a w rfl (hXb182 a w h)) ?_
          refine L_nil (fun a ha => hNj40 a _ ⟨_, (Option.some.inj H).symm, Is.nil ha, HS277.sel [0, 1] rfl⟩)
    · obtain ⟨l181, ej, ha, HS323⟩ := hR
      obtain rfl := ej.symm
      refine wpLF_app ?_ ha
      refine L_nil (fun a ha => (post_end0 ha rfl ?_))
      obtain rfl := Option.some.inj H
      exact ⟨_, _, rfl, HS323.sel [0, 1] rfl⟩
  · skip
    have HS25 : Hp (HS17.ft [1, 0]) w15 w24 [.own A_h_0_nodes c_h_0_nodes (rowC E_heap_node_int h_0_nodes) 95 E_heap_node_int.sz, .box g_h_0 [.slice A_h_0_nodes h_0_nodes.length c_h_0_nodes, .int .i64 h_0_turn] 93, .own A21 c22 (rowC E_heap_node_int [(key_1, h_0_turn, value_2)]) 95 E_heap_node_int.sz, .own A29 c30 (rowC E_heap_node_int l26) 95 E_heap_node_int.sz] := HS25
    refine H2_next (SS_1 (by kernel_rfl) HS25.chg) ?_
    refine H2_fval (i := 14) rfl (by kernel_rfl) (by kernel_rfl) (by kernel_rfl) (by kernel_rfl) (by kernel_rfl) rfl rfl rfl (SS_1 (by kernel_rfl) HS25.chg) (fun wq => O_nilCheck rfl rfl) ?_
    refine H2_fval (i := 15) rfl (by kernel_rfl) (by kernel_rfl) (by kernel_rfl) (by kernel_rfl) (by kernel_rfl) rfl rfl rfl (SS_1 (by kernel_rfl) HS25.chg) (fun wq => O_fieldB rfl rfl field93_0) ?_
    refine H2_one (i := 16) rfl (by kernel_rfl) (by kernel_rfl) ?_
    refine F_stB 1 ([.slice A29 l26.length c30, .int .i64 h_0_turn]) rfl rfl rfl rfl rfl size91 HS25 rfl rfl rfl rfl rfl (fun w33 HS34 => ?_)
    have HS34 : Hp (HS17.ft [1, 0]) w15 w33 [.own A_h_0_nodes c_h_0_nodes (rowC E_heap_node_int h_0_nodes) 95 E_heap_node_int.sz, .box g_h_0 [.slice A29 l26.length c30, .int .i64 h_0_turn] 93, .own A21 c22 (rowC E_heap_node_int [(key_1, h_0_turn, value_2)]) 95 E_heap_node_int.sz, .own A29 c30 (rowC E_heap_node_int l26) 95 E_heap_node_int.sz] := HS34
    refine H2_next (SS_1 (by kernel_rfl) HS34.chg) ?_
    refine H2_end (by kernel_rfl) ?_
    have HS35 : Hp S0 w0 w33 [.box g_h_0 [.slice A29 l26.length c30, .int .i64 h_0_turn] 93, .own A_h_0_nodes c_h_0_nodes (rowC E_heap_node_int h_0_nodes) 95 E_heap_node_int.sz, .own A21 c22 (rowC E_heap_node_int [(key_1, h_0_turn, value_2)]) 95 E_heap_node_int.sz, .own A29 c30 (rowC E_heap_node_int l26) 95 E_heap_node_int.sz] := (HS17.back [1, 0] (HS34.sel [0, 1, 2, 3] rfl) rfl).sel [3, 2, 4, 5] rfl
    refine T_done (by kernel_rfl) ?_
    refine L_seq ?_
    refine L_region ?_
    refine F_val rfl rfl rfl (O_move rfl rfl) ?_
    refine F_val rfl rfl rfl (O_nilCheck rfl rfl) ?_
    refine F_val rfl rfl rfl (O_fieldB rfl rfl field93_1) ?_
    refine F_val rfl rfl rfl (O_loadB rfl rfl flat3 (HS35.cells_box (i := 0) rfl) rfl) ?_
    refine F_val rfl rfl rfl (O_add rfl rfl rfl) ?_
    refine F_val rfl rfl rfl (O_nilCheck rfl rfl) ?_
    refine F_val rfl rfl rfl (O_fieldB rfl rfl field93_1) ?_
    refine F_stB 0 ([.slice A29 l26.length c30, .int .i64 (IntKind.i64.wrap (h_0_turn + 1))]) rfl rfl rfl rfl rfl size3 HS35 rfl rfl rfl rfl rfl (fun w36 HS37 => ?_)
    have HS37 : Hp S0 w0 w36 [.box g_h_0 [.slice A29 l26.length c30, .int .i64 (IntKind.i64.wrap (h_0_turn + 1))] 93, .own A_h_0_nodes c_h_0_nodes (rowC E_heap_node_int h_0_nodes) 95 E_heap_node_int.sz, .own A21 c22 (rowC E_heap_node_int [(key_1, h_0_turn, value_2)]) 95 E_heap_node_int.sz, .own A29 c30 (rowC E_heap_node_int l26) 95 E_heap_node_int.sz] := HS37
    refine F_nil ?_
    refine L_seq ?_
    refine L_region ?_
    refine F_val rfl rfl rfl (O_move rfl rfl) ?_
    refine F_val rfl rfl rfl (O_nilCheck rfl rfl) ?_
    refine F_val rfl rfl rfl (O_fieldB rfl rfl field93_0) ?_
    refine F_val rfl rfl rfl (O_loadB rfl rfl flat91 (HS37.cells_box (i := 0) rfl) rfl) ?_
    refine F_val rfl rfl rfl (O_len rfl rfl Try.underlying91) ?_
    refine F_val rfl rfl rfl (O_sub rfl rfl rfl) ?_
    obtain ⟨x38, h39, H⟩ := of_bnd H
    refine F_val rfl rfl rfl (O_assign' rfl rfl (congrArg (Value.int .i64) h39)) ?_
    refine F_nil ?_
    obtain ⟨yj40, Hyj40, H⟩ := of_bind H
    refine L_join (fun a w => ∃ (l181 : List (Int × Int × Int)), yj40 = l181 ∧ Is Try.f39.ntmps a [] ∧ Hp S0 w0 w [.box g_h_0 [.slice A29 l181.length c30, .int .i64 (IntKind.i64.wrap (h_0_turn + 1))] 93, .own A29 c30 (rowC E_heap_node_int l181) 95 E_heap_node_int.sz, .own A_h_0_nodes c_h_0_nodes (rowC E_heap_node_int h_0_nodes) 95 E_heap_node_int.sz]) (fun Qj40 hNj40 hOj40 => ?_) (fun a w hR => ?_)
    · skip
      have H := Hyj40
      refine L_blk (fun Qb182 hNb182 hXb182 hOb182 => ?_)
      refine L_lp (fun k a w => ∃ (l274 : List (Int × Int × Int)), ∃ (i_275 : Int), Is Try.f39.ntmps a [(0, .pointer (some ⟨g_h_0, 0, none⟩)), (6, .int .i64 i_275)] ∧ Hp S0 w0 w [.box g_h_0 [.slice A29 l274.length c30, .int .i64 (IntKind.i64.wrap (h_0_turn + 1))] 93, .own A29 c30 (rowC E_heap_node_int l274) 95 E_heap_node_int.sz, .own A_h_0_nodes c_h_0_nodes (rowC E_heap_node_int h_0_nodes) 95 E_heap_node_int.sz] ∧ heap_Heap_int_Push.l1 k l274 i_275  = some yj40) FU (fun a ha => ⟨_, _, Is.cons ha (Is.cons ha (Is.nil ha) rfl) rfl, HS37.sel [0, 3, 1] rfl, H⟩) (fun kp273 a w276 hI Qp273 hNp273 hOp273 => ?_)
      obtain ⟨l274, i_275, ha, HS277, HAp273⟩ := hI
      cases kp273 with
      | zero => cases (show (none : Option _) = some _ from HAp273)
      | succ kp273 =>
        have H := (heap_Heap_int_Push.l1.eq_2 ..).symm.trans HAp273
        refine wpLF_app ?_ ha
        refine L_seq ?_
        refine L_seq ?_
        refine L_region ?_
        refine F_val rfl rfl rfl (O_move rfl rfl) ?_
        refine F_val rfl rfl rfl (O_gt rfl rfl rfl) ?_
        refine F_nil ?_
        refine L_condP rfl (fun c278 => ?_) (fun c278 => ?_)
        · have H := of_pos H c278
          refine L_skip ?_
          refine L_blk (fun Q279 hN279 hX279 hO279 => ?_)
          refine L_seq ?_
          refine L_region ?_
          refine F_val rfl rfl rfl (O_move rfl rfl) ?_
          refine F_val rfl rfl rfl (O_sub rfl rfl rfl) ?_
          refine F_val rfl rfl rfl (O_quo rfl rfl rfl (by decide)) ?_
          obtain ⟨x280, h281, H⟩ := of_bnd H
          refine F_val rfl rfl rfl (O_assign' rfl rfl (congrArg (Value.int .i64) h281)) ?_
          refine F_nil ?_
          refine L_seq ?_
          refine L_seq ?_
          refine L_quiet mix (by kernel_rfl) ?_
          refine Q_val rfl rfl rfl (fun wq hq => O_move rfl rfl) ?_
          refine Q_val rfl rfl rfl (fun wq hq => O_nilCheck rfl rfl) ?_
          refine Q_val rfl rfl rfl (fun wq hq => O_fieldB rfl rfl field93_0) ?_
          refine Q_val rfl rfl rfl (fun wq hq => O_loadB rfl rfl flat91 ((HS277.keep hq).cells_box (i := 0) rfl) rfl) ?_
          refine Q_val rfl rfl rfl (fun wq hq => O_move rfl rfl) ?_
          obtain ⟨⟨g282, g283⟩, H⟩ := of_gd H
          refine Q_val rfl rfl rfl (fun wq hq => O_idx rfl rfl rfl Try.underlying91 size95 g282 g283 (Cells.isA ((HS277.keep hq).cells_own (i := 1) rfl) (rowC_ne (E := E_heap_node_int) g282 g283 (by decide)))) ?_
          refine Q_val rfl rfl rfl (fun wq hq => O_loadEl (E := E_heap_node_int) rfl rfl wide95 ((HS277.keep hq).cells_own (i := 1) rfl) g282 g283 (by decide)) ?_
          refine Q_val rfl rfl rfl (fun wq hq => O_move rfl rfl) ?_
          refine Q_val rfl rfl rfl (fun wq hq => O_nilCheck rfl rfl) ?_
          refine Q_val rfl rfl rfl (fun wq hq => O_fieldB rfl rfl field93_0) ?_
          refine Q_val rfl rfl rfl (fun wq hq => O_loadB rfl rfl flat91 ((HS277.keep hq).cells_box (i := 0) rfl) rfl) ?_
          refine Q_val rfl rfl rfl (fun wq hq => O_move rfl rfl) ?_
          obtain ⟨⟨g284, g285⟩, H⟩ := of_gd H
          refine Q_val rfl rfl rfl (fun wq hq => O_idx rfl rfl rfl Try.underlying91 size95 g284 g285 (Cells.isA ((HS277.keep hq).cells_own (i := 1) rfl) (rowC_ne (E := E_heap_node_int) g284 g285 (by decide)))) ?_
          refine Q_val rfl rfl rfl (fun wq hq => O_loadEl (E := E_heap_node_int) rfl rfl wide95 ((HS277.keep hq).cells_own (i := 1) rfl) g284 g285 (by decide)) ?_
          obtain ⟨z288, h287, H⟩ := of_bind H
          refine Q_call (v := .bool z288) (xs := [.tmp 50, .tmp 57]) rfl rfl rfl rfl Try.func66 nm66 rfl rfl (fun wq hq => (heap_node_int_before.calls ((HS277.keep hq).give [] rfl (Lent.nil)) h287).mono (fun e w hc => ?_)) ?_
          · obtain ⟨rfl, h⟩ := hc
            exact ⟨rfl, hq.trans h.chg0⟩
          refine Q_val rfl rfl rfl (fun wq hq => O_notb rfl rfl) ?_
          refine Q_nil (fun w289 hw290 => ?_)
          have HS291 := HS277.keep hw290
          refine L_cond rfl (fun c292 => ?_) (fun c292 => ?_)
          · have H := of_pos H c292
            refine L_exitB (fun a w h => hO279 (.exit 0) a w rfl ((fun a w h => hOp273 (.exit 0) a w rfl (hXb182 a w h)) a w h)) ?_
            refine L_nil (fun a ha => hNj40 a _ ⟨_, (Option.some.inj H).symm, Is.nil ha, HS291.sel [0, 1, 2] rfl⟩)
          · have H := of_neg H (by rw [c292]; exact Bool.false_ne_true)
            refine L_skip ?_
            refine L_seq ?_
            refine L_held2 27 1 [27] [25, 27] mix rfl (fun w305 hw306 => ?_)
            have HS307 := HS291.keep hw306
            have HR308 : Hp (HS307.ft [0, 1]) w305 w305 [.box g_h_0 [.slice A29 l274.length c30, .int .i64 (IntKind.i64.wrap (h_0_turn + 1))] 93, .own A29 c30 (rowC E_heap_node_int l274) 95 E_heap_node_int.sz, .rd A_h_0_nodes (rowC E_heap_node_int h_0_nodes)] := HS307.give [0, 1] rfl (Lent.own HS307 (Lent.nil) (i := 2) rfl rfl (HS307.cells_own (i := 2) rfl).self)
            refine ⟨fun w => Hp (HS307.ft [0, 1]) w305 w [.box g_h_0 [.slice A29 l274.length c30, .int .i64 (IntKind.i64.wrap (h_0_turn + 1))] 93, .own A29 c30 (rowC E_heap_node_int l274) 95 E_heap_node_int.sz, .rd A_h_0_nodes (rowC E_heap_node_int h_0_nodes)], HS307.turns [0, 1], ?_⟩
            refine H2_fval (i := 0) rfl (by kernel_rfl) (by kernel_rfl) (by kernel_rfl) (by kernel_rfl) (by kernel_rfl) rfl rfl rfl (SS_0 (by kernel_rfl) (HR308.sel [0, 1, 2] rfl)) (fun wq => O_move rfl rfl) ?_
            refine H2_fval (i := 1) rfl (by kernel_rfl) (by kernel_rfl) (by kernel_rfl) (by kernel_rfl) (by kernel_rfl) rfl rfl rfl (SS_0 (by kernel_rfl) (HR308.sel [0, 1, 2] rfl)) (fun wq => O_nilCheck rfl rfl) ?_
            refine H2_fval (i := 2) rfl (by kernel_rfl) (by kernel_rfl) (by kernel_rfl) (by kernel_rfl) (by kernel_rfl) rfl rfl rfl (SS_0 (by kernel_rfl) (HR308.sel [0, 1, 2] rfl)) (fun wq => O_fieldB rfl rfl field93_0) ?_
            refine H2_val (i := 3) [24, 25, 26, 27] rfl (by kernel_rfl) (by kernel_rfl) (by kernel_rfl) (by kernel_rfl) (by kernel_rfl) (by kernel_rfl) (by kernel_rfl) (by kernel_rfl) rfl rfl rfl (HR308.sel [0, 1, 2] rfl) (fun wq hq => O_loadB rfl rfl flat91 (hq.cells_box (i := 0) rfl) rfl) ?_
            refine H2_fval (i := 4) rfl (by kernel_rfl) (by kernel_rfl) (by kernel_rfl) (by kernel_rfl) (by kernel_rfl) rfl rfl rfl (SS_0 (by kernel_rfl) (HR308.sel [0, 1, 2] rfl)) (fun wq => O_move rfl rfl) ?_
            refine H2_fval (i := 5) rfl (by kernel_rfl) (by kernel_rfl) (by kernel_rfl) (by kernel_rfl) (by kernel_rfl) rfl rfl rfl (SS_0 (by kernel_rfl) (HR308.sel [0, 1, 2] rfl)) (fun wq => O_move rfl rfl) ?_
            refine H2_fval (i := 6) rfl (by kernel_rfl) (by kernel_rfl) (by kernel_rfl) (by kernel_rfl) (by kernel_rfl) rfl rfl rfl (SS_0 (by kernel_rfl) (HR308.sel [0, 1, 2] rfl)) (fun wq => O_nilCheck rfl rfl) ?_
            refine H2_fval (i := 7) rfl (by kernel_rfl) (by kernel_rfl) (by kernel_rfl) (by kernel_rfl) (by kernel_rfl) rfl rfl rfl (SS_0 (by kernel_rfl) (HR308.sel [0, 1, 2] rfl)) (fun wq => O_fieldB rfl rfl field93_0) ?_
            refine H2_val (i := 8) [24, 25, 26, 27] rfl (by kernel_rfl) (by kernel_rfl) (by kernel_rfl) (by kernel_rfl) (by kernel_rfl) (by kernel_rfl) (by kernel_rfl) (by kernel_rfl) rfl rfl rfl (HR308.sel [0, 1, 2] rfl) (fun wq hq => O_loadB rfl rfl flat91 (hq.cells_box (i := 0) rfl) rfl) ?_
            refine H2_fval (i := 9) rfl (by kernel_rfl) (by kernel_rfl) (by kernel_rfl) (by kernel_rfl) (by kernel_rfl) rfl rfl rfl (SS_0 (by kernel_rfl) (HR308.sel [0, 1, 2] rfl)) (fun wq => O_move rfl rfl) ?_
            refine H2_fval (i := 10) rfl (by kernel_rfl) (by kernel_rfl) (by kernel_rfl) (by kernel_rfl) (by kernel_rfl) rfl rfl rfl (SS_0 (by kernel_rfl) (HR308.sel [0, 1, 2] rfl)) (fun wq => O_move rfl rfl) ?_
            refine H2_fval (i := 11) rfl (by kernel_rfl) (by kernel_rfl) (by kernel_rfl) (by kernel_rfl) (by kernel_rfl) rfl rfl rfl (SS_0 (by kernel_rfl) (HR308.sel [0, 1, 2] rfl)) (fun wq => O_nilCheck rfl rfl) ?_
            refine H2_fval (i := 12) rfl (by kernel_rfl) (by kernel_rfl) (by kernel_rfl) (by kernel_rfl) (by kernel_rfl) rfl rfl rfl (SS_0 (by kernel_rfl) (HR308.sel [0, 1, 2] rfl)) (fun wq => O_fieldB rfl rfl field93_0) ?_
            refine H2_val (i := 13) [15, 16, 24, 25, 26, 27] rfl (by kernel_rfl) (by kernel_rfl) (by kernel_rfl) (by kernel_rfl) (by kernel_rfl) (by kernel_rfl) (by kernel_rfl) (by kernel_rfl) rfl rfl rfl (HR308.sel [0, 1, 2] rfl) (fun wq hq => O_loadB rfl rfl flat91 (hq.cells_box (i := 0) rfl) rfl) ?_
            refine H2_fval (i := 14) rfl (by kernel_rfl) (by kernel_rfl) (by kernel_rfl) (by kernel_rfl) (by kernel_rfl) rfl rfl rfl (SS_0 (by kernel_rfl) (HR308.sel [0, 1, 2] rfl)) (fun wq => O_move rfl rfl) ?_
            refine H2_fval (i := 15) rfl (by kernel_rfl) (by kernel_rfl) (by kernel_rfl) (by kernel_rfl) (by kernel_rfl) rfl rfl rfl (SS_0 (by kernel_rfl) (HR308.sel [0, 1, 2] rfl)) (fun wq => O_idx rfl rfl rfl Try.underlying91 size95 g284 g285 (Cells.isA (HR308.cells_own (i := 1) rfl) (rowC_ne (E := E_heap_node_int) g284 g285 (by decide)))) ?_
            refine H2_val (i := 16) [24, 25, 26, 27] rfl (by kernel_rfl) (by kernel_rfl) (by kernel_rfl) (by kernel_rfl) (by kernel_rfl) (by kernel_rfl) (by kernel_rfl) (by kernel_rfl) rfl rfl rfl (HR308.sel [0, 1, 2] rfl) (fun wq hq => O_loadEl (E := E_heap_node_int) rfl rfl wide95 (hq.cells_own (i := 1) rfl) g284 g285 (by decide)) ?_
            refine H2_fval (i := 17) rfl (by kernel_rfl) (by kernel_rfl) (by kernel_rfl) (by kernel_rfl) (by kernel_rfl) rfl rfl rfl (SS_0 (by kernel_rfl) (HR308.sel [0, 1, 2] rfl)) (fun wq => O_move rfl rfl) ?_
            refine H2_fval (i := 18) rfl (by kernel_rfl) (by kernel_rfl) (by kernel_rfl) (by kernel_rfl) (by kernel_rfl) rfl rfl rfl (SS_0 (by kernel_rfl) (HR308.sel [0, 1, 2] rfl)) (fun wq => O_nilCheck rfl rfl) ?_
            refine H2_fval (i := 19) rfl (by kernel_rfl) (by kernel_rfl) (by kernel_rfl) (by kernel_rfl) (by kernel_rfl) rfl rfl rfl (SS_0 (by kernel_rfl) (HR308.sel [0, 1, 2] rfl)) (fun wq => O_fieldB rfl rfl field93_0) ?_
            refine H2_val (i := 20) [22, 23, 24, 25, 26, 27] rfl (by kernel_rfl) (by kernel_rfl) (by kernel_rfl) (by kernel_rfl) (by kernel_rfl) (by kernel_rfl) (by kernel_rfl) (by kernel_rfl) rfl rfl rfl (HR308.sel [0, 1, 2] rfl) (fun wq hq => O_loadB rfl rfl flat91 (hq.cells_box (i := 0) rfl) rfl) ?_
            refine H2_fval (i := 21) rfl (by kernel_rfl) (by kernel_rfl) (by kernel_rfl) (by kernel_rfl) (by kernel_rfl) rfl rfl rfl (SS_0 (by kernel_rfl) (HR308.sel [0, 1, 2] rfl)) (fun wq => O_move rfl rfl) ?_
            refine H2_fval (i := 22) rfl (by kernel_rfl) (by kernel_rfl) (by kernel_rfl) (by kernel_rfl) (by kernel_rfl) rfl rfl rfl (SS_0 (by kernel_rfl) (HR308.sel [0, 1, 2] rfl)) (fun wq => O_idx rfl rfl rfl Try.underlying91 size95 g282 g283 (Cells.isA (HR308.cells_own (i := 1) rfl) (rowC_ne (E := E_heap_node_int) g282 g283 (by decide)))) ?_
            refine H2_val (i := 23) [24, 25, 26, 27] rfl (by kernel_rfl) (by kernel_rfl) (by kernel_rfl) (by kernel_rfl) (by kernel_rfl) (by kernel_rfl) (by kernel_rfl) (by kernel_rfl) rfl rfl rfl (HR308.sel [0, 1, 2] rfl) (fun wq hq => O_loadEl (E := E_heap_node_int) rfl rfl wide95 (hq.cells_own (i := 1) rfl) g282 g283 (by decide)) ?_
            refine H2_fval (i := 24) rfl (by kernel_rfl) (by kernel_rfl) (by kernel_rfl) (by kernel_rfl) (by kernel_rfl) rfl rfl rfl (SS_0 (by kernel_rfl) (HR308.sel [0, 1, 2] rfl)) (fun wq => O_idx rfl rfl rfl Try.underlying91 size95 g282 g283 (Cells.isA (HR308.cells_own (i := 1) rfl) (rowC_ne (E := E_heap_node_int) g282 g283 (by decide)))) ?_
            refine H2_one (i := 25) rfl (by kernel_rfl) (by kernel_rfl) ?_
            obtain ⟨l311, h312, H⟩ := of_bnd H
            refine F_setE (E := E_heap_node_int) (i := 1) (a := ((rdx E_heap_node_int l274 x280).1, (rdx E_heap_node_int l274 x280).2.1, (rdx E_heap_node_int l274 x280).2.2)) (q := i_275) rfl rfl rfl rfl rfl rfl size95 HR308 rfl (by decide) g282 g283 h312 (fun w309 HS310 => ?_)
            have e313 : l274.length = l311.length := by rw [← h312, List.length_set]
            refine F_know (i := 63) rfl (congrArg (fun n => Value.slice A29 n c30) e313) ?_
            refine F_know (i := 68) rfl (congrArg (fun n => Value.slice A29 n c30) e313) ?_
            refine F_know (i := 73) rfl (congrArg (fun n => Value.slice A29 n c30) e313) ?_
            refine F_know (i := 80) rfl (congrArg (fun n => Value.slice A29 n c30) e313) ?_
            have HS310 : Hp (HS307.ft [0, 1]) w305 w309 [.box g_h_0 [.slice A29 l311.length c30, .int .i64 (IntKind.i64.wrap (h_0_turn + 1))] 93, .own A29 c30 (rowC E_heap_node_int l311) 95 E_heap_node_int.sz, .rd A_h_0_nodes (rowC E_heap_node_int h_0_nodes)] := (by rw [← e313]; exact HS310)
            refine H2_next (SS_1 (by kernel_rfl) HS310.chg) ?_
            obtain ⟨⟨g314, g315⟩, H⟩ := of_gd H
            refine H2_fval (i := 26) rfl (by kernel_rfl) (by kernel_rfl) (by kernel_rfl) (by kernel_rfl) (by kernel_rfl) rfl rfl rfl (SS_1 (by kernel_rfl) HS310.chg) (fun wq => O_idx rfl rfl rfl Try.underlying91 size95 g314 g315 (Cells.isA (HS310.cells_own (i := 1) rfl) (rowC_ne (E := E_heap_node_int) g314 g315 (by decide)))) ?_
            refine H2_end (by kernel_rfl) ?_
            have HS316 : Hp S0 w0 w309 [.box g_h_0 [.slice A29 l311.length c30, .int .i64 (IntKind.i64.wrap (h_0_turn + 1))] 93, .own A29 c30 (rowC E_heap_node_int l311) 95 E_heap_node_int.sz, .own A_h_0_nodes c_h_0_nodes (rowC E_heap_node_int h_0_nodes) 95 E_heap_node_int.sz] := (HS307.back [0, 1] (HS310.sel [0, 1] rfl) rfl).sel [3, 4, 2] rfl
            refine T_one (i := 27) rfl (by kernel_rfl) ?_
            obtain ⟨l319, h320, H⟩ := of_bnd H
            refine F_setE (E := E_heap_node_int) (i := 1) (a := ((rdx E_heap_node_int l274 i_275).1, (rdx E_heap_node_int l274 i_275).2.1, (rdx E_heap_node_int l274 i_275).2.2)) (q := x280) rfl rfl rfl rfl rfl rfl size95 HS316 rfl (by decide) g314 g315 h320 (fun w317 HS318 => ?_)
            have e321 : l311.length = l319.length := by rw [← h320, List.length_set]
            refine F_know (i := 63) rfl (congrArg (fun n => Value.slice A29 n c30) e321) ?_
            refine F_know (i := 68) rfl (congrArg (fun n => Value.slice A29 n c30) e321) ?_
            refine F_know (i := 73) rfl (congrArg (fun n => Value.slice A29 n c30) e321) ?_
            refine F_know (i := 80) rfl (congrArg (fun n => Value.slice A29 n c30) e321) ?_
            have HS318 : Hp S0 w0 w317 [.box g_h_0 [.slice A29 l319.length c30, .int .i64 (IntKind.i64.wrap (h_0_turn + 1))] 93, .own A29 c30 (rowC E_heap_node_int l319) 95 E_heap_node_int.sz, .own A_h_0_nodes c_h_0_nodes (rowC E_heap_node_int h_0_nodes) 95 E_heap_node_int.sz] := (by rw [← e321]; exact HS318)
            refine T_next ?_
            refine T_done (by kernel_rfl) ?_
            refine L_region ?_
            refine F_val rfl rfl rfl (O_move rfl rfl) ?_
            refine F_val rfl rfl rfl (O_assign rfl rfl) ?_
            refine F_nil ?_
            refine L_endB hN279 ?_
            refine L_nil (fun a ha => hNp273 _ a _ (Nat.lt_succ_self _) ⟨_, _, Is.cons ha (Is.cons ha (Is.nil ha) rfl) rfl, HS318.sel [0, 1, 2] rfl, H⟩)
        · have H := of_neg H c278
          refine L_exitB (fun a w h => hOp273 (.exit 0) a w rfl (hXb182 a w h)) ?_
          refine L_nil (fun a ha => hNj40 a _ ⟨_, (Option.some.inj H).symm, Is.nil ha, HS277.sel [0, 1, 2] rfl⟩)
    · obtain ⟨l181, ej, ha, HS323⟩ := hR
      obtain rfl := ej.symm
      refine wpLF_app ?_ ha
      refine L_nil (fun a ha => (post_end0 ha rfl ?_))
      obtain rfl := Option.some.inj H
      exact ⟨_, _, rfl, HS323.sel [0, 1] rfl⟩

/-! function 40: (*valise/heap.Heap[int]).Len -/
theorem heap_Heap_int_Len.calls {S0 : Nat → Prop} {w0 : World} {g_h_0 : Nat} {A_h_0_nodes : Option Addr} {c_h_0_nodes : Nat} {h_0_nodes : List (Int × Int × Int)} {h_0_turn : Int} {r : Int × List (Int × Int × Int) × Int} (HS0 : Hp S0 w0 w0 [.box g_h_0 [.slice A_h_0_nodes h_0_nodes.length c_h_0_nodes, .int .i64 h_0_turn] 93, .own A_h_0_nodes c_h_0_nodes (rowC E_heap_node_int h_0_nodes) 95 E_heap_node_int.sz]) (h : heap_Heap_int_Len.f h_0_nodes h_0_turn = some r) :
    Calls Try.prog 40 ([.pointer (some ⟨g_h_0, 0, none⟩)] : List Value).toArray w0 (fun e w => ∃ (A_h_0_nodes' : Option Addr), ∃ (c_h_0_nodes' : Nat), e = .returned (.int .i64 r.1) ∧ Hp S0 w0 w [.box g_h_0 [.slice A_h_0_nodes' r.2.1.length c_h_0_nodes', .int .i64 r.2.2] 93, .own A_h_0_nodes' c_h_0_nodes' (rowC E_heap_node_int r.2.1) 95 E_heap_node_int.sz]) := by
  have H : ((some ((h_0_nodes.length : Int), h_0_nodes, h_0_turn)) : Option (Int × List (Int × Int × Int) × Int)) = some r := h
  refine calls_start Try.func40 rfl rfl ?_
  refine L_seq ?_
  refine L_region ?_
  refine F_val rfl rfl rfl (O_assign rfl rfl) ?_
  refine F_nil ?_
  refine L_seq ?_
  refine L_seq ?_
  refine L_region ?_
  refine F_val rfl rfl rfl (O_move rfl rfl) ?_
  refine F_val rfl rfl rfl (O_peq rfl rfl rfl Try.underlying52) ?_
  refine F_nil ?_
  refine L_cond rfl (fun hx => by cases hx) (fun _ => ?_)
  refine L_skip ?_
  refine L_seq ?_
  refine L_region ?_
  refine F_val rfl rfl rfl (O_move rfl rfl) ?_
  refine F_val rfl rfl rfl (O_nilCheck rfl rfl) ?_
  refine F_val rfl rfl rfl (O_fieldB rfl rfl field93_0) ?_
  refine F_val rfl rfl rfl (O_loadB rfl rfl flat91 (HS0.cells_box (i := 0) rfl) rfl) ?_
  refine F_val rfl rfl rfl (O_len rfl rfl Try.underlying91) ?_
  refine F_val rfl rfl rfl (O_assign rfl rfl) ?_
  refine F_nil ?_
  refine L_ret (fun a ha => (post_ret1 ha rfl rfl ?_))
  obtain rfl := Option.some.inj H
  exact ⟨_, _, rfl, HS0.sel [0, 1] rfl⟩

/-! function 67: (*valise/heap.Heap[int]).Peek -/
theorem heap_Heap_int_Peek.calls {S0 : Nat → Prop} {w0 : World} {g_h_0 : Nat} {A_h_0_nodes : Option Addr} {c_h_0_nodes : Nat} {h_0_nodes : List (Int × Int × Int)} {h_0_turn : Int} {r : Int × Int × Bool × List (Int × Int × Int) × Int} (HS0 : Hp S0 w0 w0 [.box g_h_0 [.slice A_h_0_nodes h_0_nodes.length c_h_0_nodes, .int .i64 h_0_turn] 93, .own A_h_0_nodes c_h_0_nodes (rowC E_heap_node_int h_0_nodes) 95 E_heap_node_int.sz]) (h : heap_Heap_int_Peek.f h_0_nodes h_0_turn = some r) :
    Calls Try.prog 67 ([.pointer (some ⟨g_h_0, 0, none⟩)] : List Value).toArray w0 (fun e w => ∃ (A_h_0_nodes' : Option Addr), ∃ (c_h_0_nodes' : Nat), e = .returned (.tuple #[.int .i64 r.1, .int .i64 r.2.1, .bool r.2.2.1]) ∧ Hp S0 w0 w [.box g_h_0 [.slice A_h_0_nodes' r.2.2.2.1.length c_h_0_nodes', .int .i64 r.2.2.2.2] 93, .own A_h_0_nodes' c_h_0_nodes' (rowC E_heap_node_int r.2.2.2.1) 95 E_heap_node_int.sz]) := by
  have H : ((if (h_0_nodes.length : Int) = 0 then (some (0, 0, false, h_0_nodes, h_0_turn)) else (gd ((0 : Int) ≤ 0 ∧ 0 < (h_0_nodes.length : Int)) (some ((rdx E_heap_node_int h_0_nodes 0).1, (rdx E_heap_node_int h_0_nodes 0).2.2, true, h_0_nodes, h_0_turn)))) : Option (Int × Int × Bool × List (Int × Int × Int) × Int)) = some r := h
  refine calls_start Try.func67 rfl rfl ?_
  refine L_seq ?_
  refine L_region ?_
  refine F_val rfl rfl rfl (O_assign rfl rfl) ?_
  refine F_val rfl rfl rfl (O_assign rfl rfl) ?_
  refine F_val rfl rfl rfl (O_assign rfl rfl) ?_
  refine F_nil ?_
  refine L_seq ?_
  refine L_seq ?_
  refine L_region ?_
  refine F_val rfl rfl rfl (O_move rfl rfl) ?_
  refine F_val rfl rfl rfl (O_peq rfl rfl rfl Try.underlying52) ?_
  refine F_val rfl rfl rfl (O_move rfl rfl) ?_
  refine F_gval rfl rfl rfl rfl rfl rfl (O_move rfl rfl) ?_
  refine F_gval rfl rfl rfl rfl rfl rfl (O_nilCheck rfl rfl) ?_
  refine F_gval rfl rfl rfl rfl rfl rfl (O_fieldB rfl rfl field93_0) ?_
  refine F_gval rfl rfl rfl rfl rfl rfl (O_loadB rfl rfl flat91 (HS0.cells_box (i := 0) rfl) rfl) ?_
  refine F_gval rfl rfl rfl rfl rfl rfl (O_len rfl rfl Try.underlying91) ?_
  refine F_gval rfl rfl rfl rfl rfl rfl (O_eq rfl rfl rfl) ?_
  refine F_val rfl rfl rfl (O_pickF rfl rfl rfl) ?_
  refine F_nil ?_
  refine L_condP rfl (fun c1 => ?_) (fun c1 => ?_)
  · have H := of_pos H c1
    refine L_seq ?_
    refine L_region ?_
    refine F_val rfl rfl rfl (O_assign rfl rfl) ?_
    refine F_nil ?_
    refine L_seq ?_
    refine L_region ?_
    refine F_val rfl rfl rfl (O_move rfl rfl) ?_
    refine F_val rfl rfl rfl (O_assign rfl rfl) ?_
    refine F_val rfl rfl rfl (O_assign rfl rfl) ?_
    refine F_val rfl rfl rfl (O_assign rfl rfl) ?_
    refine F_nil ?_
    refine L_ret (fun a ha => (post_ret3 ha rfl rfl rfl rfl ?_))
    obtain rfl := Option.some.inj H
    exact ⟨_, _, rfl, HS0.sel [0, 1] rfl⟩
  · have H := of_neg H c1
    refine L_skip ?_
    refine L_seq ?_
    refine L_quiet mix (by kernel_rfl) ?_
    refine Q_val rfl rfl rfl (fun wq hq => O_move rfl rfl) ?_
    refine Q_val rfl rfl rfl (fun wq hq => O_nilCheck rfl rfl) ?_
    refine Q_val rfl rfl rfl (fun wq hq => O_fieldB rfl rfl field93_0) ?_
    refine Q_val rfl rfl rfl (fun wq hq => O_loadB rfl rfl flat91 ((HS0.keep hq).cells_box (i := 0) rfl) rfl) ?_
    obtain ⟨⟨g2, g3⟩, H⟩ := of_gd H
    refine Q_val rfl rfl rfl (fun wq hq => O_idx rfl rfl rfl Try.underlying91 size95 g2 g3 (Cells.isA ((HS0.keep hq).cells_own (i := 1) rfl) (rowC_ne (E := E_heap_node_int) g2 g3 (by decide)))) ?_
    refine Q_val rfl rfl rfl (fun wq hq => O_fieldC rfl rfl (Cells.isA ((HS0.keep hq).cells_own (i := 1) rfl) (rowC_ne (E := E_heap_node_int) g2 g3 (by decide))) field95_0) ?_
    refine Q_val rfl rfl rfl (fun wq hq => O_loadC rfl rfl flat3 ((HS0.keep hq).cells_own (i := 1) rfl) (rowC_cell (E := E_heap_node_int) (j := 0) g2 g3 rfl)) ?_
    refine Q_val rfl rfl rfl (fun wq hq => O_move rfl rfl) ?_
    refine Q_val rfl rfl rfl (fun wq hq => O_nilCheck rfl rfl) ?_
    refine Q_val rfl rfl rfl (fun wq hq => O_fieldB rfl rfl field93_0) ?_
    refine Q_val rfl rfl rfl (fun wq hq => O_loadB rfl rfl flat91 ((HS0.keep hq).cells_box (i := 0) rfl) rfl) ?_
    refine Q_val rfl rfl rfl (fun wq hq => O_idx rfl rfl rfl Try.underlying91 size95 g2 g3 (Cells.isA ((HS0.keep hq).cells_own (i := 1) rfl) (rowC_ne (E := E_heap_node_int) g2 g3 (by decide)))) ?_
    refine Q_val rfl rfl rfl (fun wq hq => O_fieldC rfl rfl (Cells.isA ((HS0.keep hq).cells_own (i := 1) rfl) (rowC_ne (E := E_heap_node_int) g2 g3 (by decide))) field95_2) ?_
    refine Q_val rfl rfl rfl (fun wq hq => O_loadC rfl rfl flat3 ((HS0.keep hq).cells_own (i := 1) rfl) (rowC_cell (E := E_heap_node_int) (j := 2) g2 g3 rfl)) ?_
    refine Q_val rfl rfl rfl (fun wq hq => O_assign rfl rfl) ?_
    refine Q_val rfl rfl rfl (fun wq hq => O_assign rfl rfl) ?_
    refine Q_val rfl rfl rfl (fun wq hq => O_assign rfl rfl) ?_
    refine Q_nil (fun w4 hw5 => ?_)
    have HS6 := HS0.keep hw5
    refine L_ret (fun a ha => (post_ret3 ha rfl rfl rfl rfl ?_))
    obtain rfl := Option.some.inj H
    exact ⟨_, _, rfl, HS6.sel [0, 1] rfl⟩

/-! function 68: (*valise/heap.Heap[int]).sift -/
theorem heap_Heap_int_sift.calls {S0 : Nat → Prop} {w0 : World} {g_h_0 : Nat} {A_h_0_nodes : Option Addr} {c_h_0_nodes : Nat} {h_0_nodes : List (Int × Int × Int)} {h_0_turn : Int} {r : List (Int × Int × Int) × Int} (HS0 : Hp S0 w0 w0 [.box g_h_0 [.slice A_h_0_nodes h_0_nodes.length c_h_0_nodes, .int .i64 h_0_turn] 93, .own A_h_0_nodes c_h_0_nodes (rowC E_heap_node_int h_0_nodes) 95 E_heap_node_int.sz]) (h : heap_Heap_int_sift.f h_0_nodes h_0_turn = some r) :
    Calls Try.prog 68 ([.pointer (some ⟨g_h_0, 0, none⟩)] : List Value).toArray w0 (fun e w => ∃ (A_h_0_nodes' : Option Addr), ∃ (c_h_0_nodes' : Nat), e = .returned (.tuple #[]) ∧ Hp S0 w0 w [.box g_h_0 [.slice A_h_0_nodes' r.1.length c_h_0_nodes', .int .i64 r.2] 93, .own A_h_0_nodes' c_h_0_nodes' (rowC E_heap_node_int r.1) 95 E_heap_node_int.sz]) := by
  have H : ((heap_Heap_int_sift.l11 FU h_0_nodes 0 h_0_turn) : Option (List (Int × Int × Int) × Int)) = some r := h
  refine calls_start Try.func68 rfl rfl ?_
  refine L_seq ?_
  refine L_region ?_
  refine F_val rfl rfl rfl (O_assign rfl rfl) ?_
  refine F_nil ?_
  refine L_blk (fun Qb625 hNb625 hXb625 hOb625 => ?_)
  refine L_lp (fun k a w => ∃ (l1039 : List (Int × Int × Int)), ∃ (i_1040 : Int), Is Try.f68.ntmps a [(0, .pointer (some ⟨g_h_0, 0, none⟩)), (2, .int .i64 i_1040)] ∧ Hp S0 w0 w [.box g_h_0 [.slice A_h_0_nodes l1039.length c_h_0_nodes, .int .i64 h_0_turn] 93, .own A_h_0_nodes c_h_0_nodes (rowC E_heap_node_int l1039) 95 E_heap_node_int.sz] ∧ heap_Heap_int_sift.l11 k l1039 i_1040 h_0_turn = some r) FU (fun a ha => ⟨_, _, Is.cons ha (Is.cons ha (Is.nil ha) rfl) rfl, HS0.sel [0, 1] rfl, H⟩) (fun kp1038 a w1041 hI Qp1038 hNp1038 hOp1038 => ?_)
  obtain ⟨l1039, i_1040, ha, HS1042, HAp1038⟩ := hI
  cases kp1038 with
  | zero => cases (show (none : Option _) = some _ from HAp1038)
  | succ kp1038 =>
    have H := (heap_Heap_int_sift.l11.eq_2 ..).symm.trans HAp1038
    refine wpLF_app ?_ ha
    refine L_blk (fun Q1043 hN1043 hX1043 hO1043 => ?_)
    refine L_seq ?_
    refine L_region ?_
    refine F_val rfl rfl rfl (O_move rfl rfl) ?_
    refine F_val rfl rfl rfl (O_assign rfl rfl) ?_
    refine F_nil ?_
    refine L_seq ?_
    refine L_seq ?_
    refine L_region ?_
    refine F_val rfl rfl rfl (O_move rfl rfl) ?_
    refine F_val rfl rfl rfl (O_mul rfl rfl rfl) ?_
    refine F_val rfl rfl rfl (O_add rfl rfl rfl) ?_
    obtain ⟨x1044, h1045, H⟩ := of_bnd H
    refine F_val rfl rfl rfl (O_assign' rfl rfl (congrArg (Value.int .i64) h1045)) ?_
    refine F_nil ?_
    obtain ⟨yj1046, Hyj1046, H⟩ := of_bind H
    refine L_join (fun a w => ∃ (least_1127 : Int), yj1046 = least_1127 ∧ Is Try.f68.ntmps a [(0, .pointer (some ⟨g_h_0, 0, none⟩)), (2, .int .i64 i_1040), (3, .int .i64 least_1127)] ∧ Hp S0 w0 w [.box g_h_0 [.slice A_h_0_nodes l1039.length c_h_0_nodes, .int .i64 h_0_turn] 93, .own A_h_0_nodes c_h_0_nodes (rowC E_heap_node_int l1039) 95 E_heap_node_int.sz]) (fun Qj1046 hNj1046 hOj1046 => ?_) (fun a w hR => ?_)
    · skip
      have H := Hyj1046
      refine L_blk (fun Qb1128 hNb1128 hXb1128 hOb1128 => ?_)
      refine L_lp (fun k a w => ∃ (least_1180 : Int), ∃ (down_1181 : Int), Is Try.f68.ntmps a [(0, .pointer (some ⟨g_h_0, 0, none⟩)), (2, .int .i64 i_1040), (3, .int .i64 least_1180), (4, .int .i64 down_1181)] ∧ Hp S0 w0 w [.box g_h_0 [.slice A_h_0_nodes l1039.length c_h_0_nodes, .int .i64 h_0_turn] 93, .own A_h_0_nodes c_h_0_nodes (rowC E_heap_node_int l1039) 95 E_heap_node_int.sz] ∧ heap_Heap_int_sift.l13 k least_1180 down_1181 l1039 i_1040 = some yj1046) FU (fun a ha => ⟨_, _, Is.cons ha (Is.cons ha (Is.cons ha (Is.cons ha (Is.nil ha) rfl) rfl) rfl) rfl, HS1042.sel [0, 1] rfl, H⟩) (fun kp1179 a w1182 hI Qp1179 hNp1179 hOp1179 => ?_)
      obtain ⟨least_1180, down_1181, ha, HS1183, HAp1179⟩ := hI
      cases kp1179 with
      | zero => cases (show (none : Option _) = some _ from HAp1179)
      | succ kp1179 =>
        have H := (heap_Heap_int_sift.l13.eq_2 ..).symm.trans HAp1179
        refine wpLF_app ?_ ha
        refine L_seq ?_
        refine L_seq ?_
        refine L_region ?_
        refine F_val rfl rfl rfl (O_move rfl rfl) ?_
        refine F_val rfl rfl rfl (O_move rfl rfl) ?_
        refine F_val rfl rfl rfl (O_mul rfl rfl rfl) ?_
        refine F_val rfl rfl rfl (O_add rfl rfl rfl) ?_
        refine F_val rfl rfl rfl (O_le rfl rfl rfl) ?_
        refine F_val rfl rfl rfl (O_move rfl rfl) ?_
        refine F_grp 8 [(22, .bool (decide ((down_1181 ≤ IntKind.i64.wrap ((IntKind.i64.wrap (2 * i_1040)) + 2)) ∧ (down_1181 < (l1039.length : Int))))), (0, .pointer (some ⟨g_h_0, 0, none⟩)), (2, .int .i64 i_1040), (3, .int .i64 least_1180), (4, .int .i64 down_1181)] ?_ ?_
        · rcases Decidable.em (down_1181 ≤ IntKind.i64.wrap ((IntKind.i64.wrap (2 * i_1040)) + 2)) with c1187 | c1187
          · refine F_know (i := 14) rfl (dec_t c1187) ?_
            refine F_gval rfl rfl rfl rfl rfl rfl (O_move rfl rfl) ?_
            refine F_gval rfl rfl rfl rfl rfl rfl (O_move rfl rfl) ?_
            refine F_gval rfl rfl rfl rfl rfl rfl (O_nilCheck rfl rfl) ?_
            refine F_gval rfl rfl rfl rfl rfl rfl (O_fieldB rfl rfl field93_0) ?_
            refine F_gval rfl rfl rfl rfl rfl rfl (O_loadB rfl rfl flat91 (HS1183.cells_box (i := 0) rfl) rfl) ?_
            refine F_gval rfl rfl rfl rfl rfl rfl (O_len rfl rfl Try.underlying91) ?_
            refine F_gval rfl rfl rfl rfl rfl rfl (O_lt rfl rfl rfl) ?_
            refine F_val rfl rfl rfl (O_pickT rfl rfl rfl) ?_
            refine F_know (i := 22) rfl (dec_and_t (q := down_1181 < (l1039.length : Int)) c1187) ?_
            exact F_grpE (fun a ha => Is.cons ha (Is.cons ha (Is.cons ha (Is.cons ha (Is.cons ha (Is.nil ha) rfl) rfl) rfl) rfl) rfl)
          · refine F_know (i := 14) rfl (dec_f c1187) ?_
            refine F_gskip rfl rfl rfl rfl rfl rfl rfl ?_
            refine F_gskip rfl rfl rfl rfl rfl rfl rfl ?_
            refine F_gskip rfl rfl rfl rfl rfl rfl rfl ?_
            refine F_gskip rfl rfl rfl rfl rfl rfl rfl ?_
            refine F_gskip rfl rfl rfl rfl rfl rfl rfl ?_
            refine F_gskip rfl rfl rfl rfl rfl rfl rfl ?_
            refine F_gskip rfl rfl rfl rfl rfl rfl rfl ?_
            refine F_val rfl rfl rfl (O_pickF rfl rfl rfl) ?_
            refine F_know (i := 22) rfl (dec_and_f (q := down_1181 < (l1039.length : Int)) c1187) ?_
            exact F_grpE (fun a ha => Is.cons ha (Is.cons ha (Is.cons ha (Is.cons ha (Is.cons ha (Is.nil ha) rfl) rfl) rfl) rfl) rfl)
        · skip
          refine F_nil ?_
          refine L_condP rfl (fun c1188 => ?_) (fun c1188 => ?_)
          · have H := of_pos H c1188
            refine L_skip ?_
            refine L_seq ?_
            refine L_blk (fun Q1189 hN1189 hX1189 hO1189 => ?_)
            refine L_seq ?_
            refine L_quiet mix (by kernel_rfl) ?_
            refine Q_val rfl rfl rfl (fun wq hq => O_move rfl rfl) ?_
            refine Q_val rfl rfl rfl (fun wq hq => O_nilCheck rfl rfl) ?_
            refine Q_val rfl rfl rfl (fun wq hq => O_fieldB rfl rfl field93_0) ?_
            refine Q_val rfl rfl rfl (fun wq hq => O_loadB rfl rfl flat91 ((HS1183.keep hq).cells_box (i := 0) rfl) rfl) ?_
            refine Q_val rfl rfl rfl (fun wq hq => O_move rfl rfl) ?_
            obtain ⟨⟨g1190, g1191⟩, H⟩ := of_gd H
            refine Q_val rfl rfl rfl (fun wq hq => O_idx rfl rfl rfl Try.underlying91 size95 g1190 g1191 (Cells.isA ((HS1183.keep hq).cells_own (i := 1) rfl) (rowC_ne (E := E_heap_node_int) g1190 g1191 (by decide)))) ?_
            refine Q_val rfl rfl rfl (fun wq hq => O_loadEl (E := E_heap_node_int) rfl rfl wide95 ((HS1183.keep hq).cells_own (i := 1) rfl) g1190 g1191 (by decide)) ?_
            refine Q_val rfl rfl rfl (fun wq hq => O_move rfl rfl) ?_
            refine Q_val rfl rfl rfl (fun wq hq => O_nilCheck rfl rfl) ?_
            refine Q_val rfl rfl rfl (fun wq hq => O_fieldB rfl rfl field93_0) ?_
            refine Q_val rfl rfl rfl (fun wq hq => O_loadB rfl rfl flat91 ((HS1183.keep hq).cells_box (i := 0) rfl) rfl) ?_
            refine Q_val rfl rfl rfl (fun wq hq => O_move rfl rfl) ?_
            obtain ⟨⟨g1192, g1193⟩, H⟩ := of_gd H
            refine Q_val rfl rfl rfl (fun wq hq => O_idx rfl rfl rfl Try.underlying91 size95 g1192 g1193 (Cells.isA ((HS1183.keep hq).cells_own (i := 1) rfl) (rowC_ne (E := E_heap_node_int) g1192 g1193 (by decide)))) ?_
            refine Q_val rfl rfl rfl (fun wq hq => O_loadEl (E := E_heap_node_int) rfl rfl wide95 ((HS1183.keep hq).cells_own (i := 1) rfl) g1192 g1193 (by decide)) ?_
            obtain ⟨z1196, h1195, H⟩ := of_bind H
            refine Q_call (v := .bool z1196) (xs := [.tmp 31, .tmp 38]) rfl rfl rfl rfl Try.func66 nm66 rfl rfl (fun wq hq => (heap_node_int_before.calls ((HS1183.keep hq).give [] rfl (Lent.nil)) h1195).mono (fun e w hc => ?_)) ?_
            · obtain ⟨rfl, h⟩ := hc
              exact ⟨rfl, hq.trans h.chg0⟩
            refine Q_nil (fun w1197 hw1198 => ?_)
            have HS1199 := HS1183.keep hw1198
            obtain ⟨yj1200, Hyj1200, H⟩ := of_bind H
            refine L_join (fun a w => ∃ (least_1202 : Int), yj1200 = least_1202 ∧ Is Try.f68.ntmps a [(0, .pointer (some ⟨g_h_0, 0, none⟩)), (2, .int .i64 i_1040), (3, .int .i64 least_1202), (4, .int .i64 down_1181)] ∧ Hp S0 w0 w [.box g_h_0 [.slice A_h_0_nodes l1039.length c_h_0_nodes, .int .i64 h_0_turn] 93, .own A_h_0_nodes c_h_0_nodes (rowC E_heap_node_int l1039) 95 E_heap_node_int.sz]) (fun Qj1200 hNj1200 hOj1200 => ?_) (fun a w hR => ?_)
            · skip
              have H := Hyj1200
              refine L_cond rfl (fun c1203 => ?_) (fun c1203 => ?_)
              · have H := of_pos H c1203
                refine L_region ?_
                refine F_val rfl rfl rfl (O_move rfl rfl) ?_
                refine F_val rfl rfl rfl (O_assign rfl rfl) ?_
                refine F_nil ?_
                refine L_nil (fun a ha => hNj1200 a _ ⟨_, (Option.some.inj H).symm, Is.cons ha (Is.cons ha (Is.cons ha (Is.cons ha (Is.nil ha) rfl) rfl) rfl) rfl, HS1199.sel [0, 1] rfl⟩)
              · have H := of_neg H (by rw [c1203]; exact Bool.false_ne_true)
                refine L_skip ?_
                refine L_nil (fun a ha => hNj1200 a _ ⟨_, (Option.some.inj H).symm, Is.cons ha (Is.cons ha (Is.cons ha (Is.cons ha (Is.nil ha) rfl) rfl) rfl) rfl, HS1199.sel [0, 1] rfl⟩)
            · obtain ⟨least_1202, ej, ha, HS1205⟩ := hR
              obtain rfl := ej.symm
              refine wpLF_app ?_ ha
              refine L_endB hN1189 ?_
              refine L_region ?_
              refine F_val rfl rfl rfl (O_move rfl rfl) ?_
              refine F_val rfl rfl rfl (O_add rfl rfl rfl) ?_
              obtain ⟨x1206, h1207, H⟩ := of_bnd H
              refine F_val rfl rfl rfl (O_assign' rfl rfl (congrArg (Value.int .i64) h1207)) ?_
              refine F_nil ?_
              refine L_nil (fun a ha => hNp1179 _ a _ (Nat.lt_succ_self _) ⟨_, _, Is.cons ha (Is.cons ha (Is.cons ha (Is.cons ha (Is.nil ha) rfl) rfl) rfl) rfl, HS1205.sel [0, 1] rfl, H⟩)
          · have H := of_neg H c1188
            refine L_exitB (fun a w h => hOp1179 (.exit 2) a w rfl (hXb1128 a w h)) ?_
            refine L_nil (fun a ha => hNj1046 a _ ⟨_, (Option.some.inj H).symm, Is.cons ha (Is.cons ha (Is.cons ha (Is.nil ha) rfl) rfl) rfl, HS1183.sel [0, 1] rfl⟩)
    · obtain ⟨least_1127, ej, ha, HS1209⟩ := hR
      obtain rfl := ej.symm
      refine wpLF_app ?_ ha
      refine L_seq ?_
      refine L_seq ?_
      refine L_region ?_
      refine F_val rfl rfl rfl (O_move rfl rfl) ?_
      refine F_val rfl rfl rfl (O_move rfl rfl) ?_
      refine F_val rfl rfl rfl (O_eq rfl rfl rfl) ?_
      refine F_nil ?_
      refine L_condP rfl (fun c1210 => ?_) (fun c1210 => ?_)
      · have H := of_pos H c1210
        refine L_ret (fun a ha => (hO1043 .ret a _ rfl (hOp1038 .ret a _ rfl (hOb625 .ret a _ rfl (post_ret0 ha rfl ?_)))))
        obtain rfl := Option.some.inj H
        exact ⟨_, _, rfl, HS1209.sel [0, 1] rfl⟩
      · have H := of_neg H c1210
        refine L_skip ?_
        refine L_seq ?_
        refine L_held2 27 1 [27] [25, 27] mix rfl (fun w1227 hw1228 => ?_)
        have HS1229 := HS1209.keep hw1228
        have HR1230 : Hp (HS1229.ft [0, 1]) w1227 w1227 [.box g_h_0 [.slice A_h_0_nodes l1039.length c_h_0_nodes, .int .i64 h_0_turn] 93, .own A_h_0_nodes c_h_0_nodes (rowC E_heap_node_int l1039) 95 E_heap_node_int.sz] := HS1229.give [0, 1] rfl (Lent.nil)
        refine ⟨fun w => Hp (HS1229.ft [0, 1]) w1227 w [.box g_h_0 [.slice A_h_0_nodes l1039.length c_h_0_nodes, .int .i64 h_0_turn] 93, .own A_h_0_nodes c_h_0_nodes (rowC E_heap_node_int l1039) 95 E_heap_node_int.sz], HS1229.turns [0, 1], ?_⟩
        refine H2_fval (i := 0) rfl (by kernel_rfl) (by kernel_rfl) (by kernel_rfl) (by kernel_rfl) (by kernel_rfl) rfl rfl rfl (SS_0 (by kernel_rfl) (HR1230.sel [0, 1] rfl)) (fun wq => O_move rfl rfl) ?_
        refine H2_fval (i := 1) rfl (by kernel_rfl) (by kernel_rfl) (by kernel_rfl) (by kernel_rfl) (by kernel_rfl) rfl rfl rfl (SS_0 (by kernel_rfl) (HR1230.sel [0, 1] rfl)) (fun wq => O_nilCheck rfl rfl) ?_
        refine H2_fval (i := 2) rfl (by kernel_rfl) (by kernel_rfl) (by kernel_rfl) (by kernel_rfl) (by kernel_rfl) rfl rfl rfl (SS_0 (by kernel_rfl) (HR1230.sel [0, 1] rfl)) (fun wq => O_fieldB rfl rfl field93_0) ?_
        refine H2_val (i := 3) [24, 25, 26, 27] rfl (by kernel_rfl) (by kernel_rfl) (by kernel_rfl) (by kernel_rfl) (by kernel_rfl) (by kernel_rfl) (by kernel_rfl) (by kernel_rfl) rfl rfl rfl (HR1230.sel [0, 1] rfl) (fun wq hq => O_loadB rfl rfl flat91 (hq.cells_box (i := 0) rfl) rfl) ?_
        refine H2_fval (i := 4) rfl (by kernel_rfl) (by kernel_rfl) (by kernel_rfl) (by kernel_rfl) (by kernel_rfl) rfl rfl rfl (SS_0 (by kernel_rfl) (HR1230.sel [0, 1] rfl)) (fun wq => O_move rfl rfl) ?_
        refine H2_fval (i := 5) rfl (by kernel_rfl) (by kernel_rfl) (by kernel_rfl) (by kernel_rfl) (by kernel_rfl) rfl rfl rfl (SS_0 (by kernel_rfl) (HR1230.sel [0, 1] rfl)) (fun wq => O_move rfl rfl) ?_
        refine H2_fval (i := 6) rfl (by kernel_rfl) (by kernel_rfl) (by kernel_rfl) (by kernel_rfl) (by kernel_rfl) rfl rfl rfl (SS_0 (by kernel_rfl) (HR1230.sel [0, 1] rfl)) (fun wq => O_nilCheck rfl rfl) ?_
        refine H2_fval (i := 7) rfl (by kernel_rfl) (by kernel_rfl) (by kernel_rfl) (by kernel_rfl) (by kernel_rfl) rfl rfl rfl (SS_0 (by kernel_rfl) (HR1230.sel [0, 1] rfl)) (fun wq => O_fieldB rfl rfl field93_0) ?_
        refine H2_val (i := 8) [24, 25, 26, 27] rfl (by kernel_rfl) (by kernel_rfl) (by kernel_rfl) (by kernel_rfl) (by kernel_rfl) (by kernel_rfl) (by kernel_rfl) (by kernel_rfl) rfl rfl rfl (HR1230.sel [0, 1] rfl) (fun wq hq => O_loadB rfl rfl flat91 (hq.cells_box (i := 0) rfl) rfl) ?_
        refine H2_fval (i := 9) rfl (by kernel_rfl) (by kernel_rfl) (by kernel_rfl) (by kernel_rfl) (by kernel_rfl) rfl rfl rfl (SS_0 (by kernel_rfl) (HR1230.sel [0, 1] rfl)) (fun wq => O_move rfl rfl) ?_
        refine H2_fval (i := 10) rfl (by kernel_rfl) (by kernel_rfl) (by kernel_rfl) (by kernel_rfl) (by kernel_rfl) rfl rfl rfl (SS_0 (by kernel_rfl) (HR1230.sel [0, 1] rfl)) (fun wq => O_move rfl rfl) ?_
        refine H2_fval (i := 11) rfl (by kernel_rfl) (by kernel_rfl) (by kernel_rfl) (by kernel_rfl) (by kernel_rfl) rfl rfl rfl (SS_0 (by kernel_rfl) (HR1230.sel [0, 1] rfl)) (fun wq => O_nilCheck rfl rfl) ?_
        refine H2_fval (i := 12) rfl (by kernel_rfl) (by kernel_rfl) (by kernel_rfl) (by kernel_rfl) (by kernel_rfl) rfl rfl rfl (SS_0 (by kernel_rfl) (HR1230.sel [0, 1] rfl)) (fun wq => O_fieldB rfl rfl field93_0) ?_
        refine H2_val (i := 13) [15, 16, 24, 25, 26, 27] rfl (by kernel_rfl) (by kernel_rfl) (by kernel_rfl) (by kernel_rfl) (by kernel_rfl) (by kernel_rfl) (by kernel_rfl) (by kernel_rfl) rfl rfl rfl (HR1230.sel [0, 1] rfl) (fun wq hq => O_loadB rfl rfl flat91 (hq.cells_box (i := 0) rfl) rfl) ?_
        refine H2_fval (i := 14) rfl (by kernel_rfl) (by kernel_rfl) (by kernel_rfl) (by kernel_rfl) (by kernel_rfl) rfl rfl rfl (SS_0 (by kernel_rfl) (HR1230.sel [0, 1] rfl)) (fun wq => O_move rfl rfl) ?_
        obtain ⟨⟨g1231, g1232⟩, H⟩ := of_gd H
        refine H2_fval (i := 15) rfl (by kernel_rfl) (by kernel_rfl) (by kernel_rfl) (by kernel_rfl) (by kernel_rfl) rfl rfl rfl (SS_0 (by kernel_rfl) (HR1230.sel [0, 1] rfl)) (fun wq => O_idx rfl rfl rfl Try.underlying91 size95 g1231 g1232 (Cells.isA (HR1230.cells_own (i := 1) rfl) (rowC_ne (E := E_heap_node_int) g1231 g1232 (by decide)))) ?_
        refine H2_val (i := 16) [24, 25, 26, 27] rfl (by kernel_rfl) (by kernel_rfl) (by kernel_rfl) (by kernel_rfl) (by kernel_rfl) (by kernel_rfl) (by kernel_rfl) (by kernel_rfl) rfl rfl rfl (HR1230.sel [0, 1] rfl) (fun wq hq => O_loadEl (E := E_heap_node_int) rfl rfl wide95 (hq.cells_own (i := 1) rfl) g1231 g1232 (by decide)) ?_
        refine H2_fval (i := 17) rfl (by kernel_rfl) (by kernel_rfl) (by kernel_rfl) (by kernel_rfl) (by kernel_rfl) rfl rfl rfl (SS_0 (by kernel_rfl) (HR1230.sel [0, 1] rfl)) (fun wq => O_move rfl rfl) ?_
        refine H2_fval (i := 18) rfl (by kernel_rfl) (by kernel_rfl) (by kernel_rfl) (by kernel_rfl) (by kernel_rfl) rfl rfl rfl (SS_0 (by kernel_rfl) (HR1230.sel [0, 1] rfl)) (fun wq => O_nilCheck rfl rfl) ?_
        refine H2_fval (i := 19) rfl (by kernel_rfl) (by kernel_rfl) (by kernel_rfl) (by kernel_rfl) (by kernel_rfl) rfl rfl rfl (SS_0 (by kernel_rfl) (HR1230.sel [0, 1] rfl)) (fun wq => O_fieldB rfl rfl field93_0) ?_
        refine H2_val (i := 20) [22, 23, 24, 25, 26, 27] rfl (by kernel_rfl) (by kernel_rfl) (by kernel_rfl) (by kernel_rfl) (by kernel_rfl) (by kernel_rfl) (by kernel_rfl) (by kernel_rfl) rfl rfl rfl (HR1230.sel [0, 1] rfl) (fun wq hq => O_loadB rfl rfl flat91 (hq.cells_box (i := 0) rfl) rfl) ?_
        refine H2_fval (i := 21) rfl (by kernel_rfl) (by kernel_rfl) (by kernel_rfl) (by kernel_rfl) (by kernel_rfl) rfl rfl rfl (SS_0 (by kernel_rfl) (HR1230.sel [0, 1] rfl)) (fun wq => O_move rfl rfl) ?_
        obtain ⟨⟨g1233, g1234⟩, H⟩ := of_gd H
        refine H2_fval (i := 22) rfl (by kernel_rfl) (by kernel_rfl) (by kernel_rfl) (by kernel_rfl) (by kernel_rfl) rfl rfl rfl (SS_0 (by kernel_rfl) (HR1230.sel [0, 1] rfl)) (fun wq => O_idx rfl rfl rfl Try.underlying91 size95 g1233 g1234 (Cells.isA (HR1230.cells_own (i := 1) rfl) (rowC_ne (E := E_heap_node_int) g1233 g1234 (by decide)))) ?_
        refine H2_val (i := 23) [24, 25, 26, 27] rfl (by kernel_rfl) (by kernel_rfl) (by kernel_rfl) (by kernel_rfl) (by kernel_rfl) (by kernel_rfl) (by kernel_rfl) (by kernel_rfl) rfl rfl rfl (HR1230.sel [0, 1] rfl) (fun wq hq => O_loadEl (E := E_heap_node_int) rfl rfl wide95 (hq.cells_own (i := 1) rfl) g1233 g1234 (by decide)) ?_
        refine H2_fval (i := 24) rfl (by kernel_rfl) (by kernel_rfl) (by kernel_rfl) (by kernel_rfl) (by kernel_rfl) rfl rfl rfl (SS_0 (by kernel_rfl) (HR1230.sel [0, 1] rfl)) (fun wq => O_idx rfl rfl rfl Try.underlying91 size95 g1233 g1234 (Cells.isA (HR1230.cells_own (i := 1) rfl) (rowC_ne (E := E_heap_node_int) g1233 g1234 (by decide)))) ?_
        refine H2_one (i := 25) rfl (by kernel_rfl) (by kernel_rfl) ?_
        obtain ⟨l1237, h1238, H⟩ := of_bnd H
        refine F_setE (E := E_heap_node_int) (i := 1) (a := ((rdx E_heap_node_int l1039 least_1127).1, (rdx E_heap_node_int l1039 least_1127).2.1, (rdx E_heap_node_int l1039 least_1127).2.2)) (q := i_1040) rfl rfl rfl rfl rfl rfl size95 HR1230 rfl (by decide) g1233 g1234 h1238 (fun w1235 HS1236 => ?_)
        have e1239 : l1039.length = l1237.length := by rw [← h1238, List.length_set]
        refine F_know (i := 47) rfl (congrArg (fun n => Value.slice A_h_0_nodes n c_h_0_nodes) e1239) ?_
        refine F_know (i := 52) rfl (congrArg (fun n => Value.slice A_h_0_nodes n c_h_0_nodes) e1239) ?_
        refine F_know (i := 57) rfl (congrArg (fun n => Value.slice A_h_0_nodes n c_h_0_nodes) e1239) ?_
        refine F_know (i := 64) rfl (congrArg (fun n => Value.slice A_h_0_nodes n c_h_0_nodes) e1239) ?_
        have HS1236 : Hp (HS1229.ft [0, 1]) w1227 w1235 [.box g_h_0 [.slice A_h_0_nodes l1237.length c_h_0_nodes, .int .i64 h_0_turn] 93, .own A_h_0_nodes c_h_0_nodes (rowC E_heap_node_int l1237) 95 E_heap_node_int.sz] := (by rw [← e1239]; exact HS1236)
        refine H2_next (SS_1 (by kernel_rfl) HS1236.chg) ?_
        obtain ⟨⟨g1240, g1241⟩, H⟩ := of_gd H
        refine H2_fval (i := 26) rfl (by kernel_rfl) (by kernel_rfl) (by kernel_rfl) (by kernel_rfl) (by kernel_rfl) rfl rfl rfl (SS_1 (by kernel_rfl) HS1236.chg) (fun wq => O_idx rfl rfl rfl Try.underlying91 size95 g1240 g1241 (Cells.isA (HS1236.cells_own (i := 1) rfl) (rowC_ne (E := E_heap_node_int) g1240 g1241 (by decide)))) ?_
        refine H2_end (by kernel_rfl) ?_
        have HS1242 : Hp S0 w0 w1235 [.box g_h_0 [.slice A_h_0_nodes l1237.length c_h_0_nodes, .int .i64 h_0_turn] 93, .own A_h_0_nodes c_h_0_nodes (rowC E_heap_node_int l1237) 95 E_heap_node_int.sz] := (HS1229.back [0, 1] (HS1236.sel [0, 1] rfl) rfl).sel [2, 3] rfl
        refine T_one (i := 27) rfl (by kernel_rfl) ?_
        obtain ⟨l1245, h1246, H⟩ := of_bnd H
        refine F_setE (E := E_heap_node_int) (i := 1) (a := ((rdx E_heap_node_int l1039 i_1040).1, (rdx E_heap_node_int l1039 i_1040).2.1, (rdx E_heap_node_int l1039 i_1040).2.2)) (q := least_1127) rfl rfl rfl rfl rfl rfl size95 HS1242 rfl (by decide) g1240 g1241 h1246 (fun w1243 HS1244 => ?_)
        have e1247 : l1237.length = l1245.length := by rw [← h1246, List.length_set]
        refine F_know (i := 47) rfl (congrArg (fun n => Value.slice A_h_0_nodes n c_h_0_nodes) e1247) ?_
        refine F_know (i := 52) rfl (congrArg (fun n => Value.slice A_h_0_nodes n c_h_0_nodes) e1247) ?_
        refine F_know (i := 57) rfl (congrArg (fun n => Value.slice A_h_0_nodes n c_h_0_nodes) e1247) ?_
        refine F_know (i := 64) rfl (congrArg (fun n => Value.slice A_h_0_nodes n c_h_0_nodes) e1247) ?_
        have HS1244 : Hp S0 w0 w1243 [.box g_h_0 [.slice A_h_0_nodes l1245.length c_h_0_nodes, .int .i64 h_0_turn] 93, .own A_h_0_nodes c_h_0_nodes (rowC E_heap_node_int l1245) 95 E_heap_node_int.sz] := (by rw [← e1247]; exact HS1244)
        refine T_next ?_
        refine T_done (by kernel_rfl) ?_
        refine L_region ?_
        refine F_val rfl rfl rfl (O_move rfl rfl) ?_
        refine F_val rfl rfl rfl (O_assign rfl rfl) ?_
        refine F_nil ?_
        refine L_endB hN1043 ?_
        refine L_nil (fun a ha => hNp1038 _ a _ (Nat.lt_succ_self _) ⟨_, _, Is.cons ha (Is.cons ha (Is.nil ha) rfl) rfl, HS1244.sel [0, 1] rfl, H⟩)

/-! function 41: (*valise/heap.Heap[int]).Pop -/
theorem heap_Heap_int_Pop.calls {S0 : Nat → Prop} {w0 : World} {g_h_0 : Nat} {A_h_0_nodes : Option Addr} {c_h_0_nodes : Nat} {h_0_nodes : List (Int × Int × Int)} {h_0_turn : Int} {r : Int × Int × Bool × List (Int × Int × Int) × Int} (HS0 : Hp S0 w0 w0 [.box g_h_0 [.slice A_h_0_nodes h_0_nodes.length c_h_0_nodes, .int .i64 h_0_turn] 93, .own A_h_0_nodes c_h_0_nodes (rowC E_heap_node_int h_0_nodes) 95 E_heap_node_int.sz]) (h : heap_Heap_int_Pop.f h_0_nodes h_0_turn = some r) :
    Calls Try.prog 41 ([.pointer (some ⟨g_h_0, 0, none⟩)] : List Value).toArray w0 (fun e w => ∃ (A_h_0_nodes' : Option Addr), ∃ (c_h_0_nodes' : Nat), e = .returned (.tuple #[.int .i64 r.1, .int .i64 r.2.1, .bool r.2.2.1]) ∧ Hp S0 w0 w [.box g_h_0 [.slice A_h_0_nodes' r.2.2.2.1.length c_h_0_nodes', .int .i64 r.2.2.2.2] 93, .own A_h_0_nodes' c_h_0_nodes' (rowC E_heap_node_int r.2.2.2.1) 95 E_heap_node_int.sz]) := by
  have H : (((heap_Heap_int_Peek.f h_0_nodes h_0_turn).bind fun (z5, z6, z7, z8, z9) => if (!z7) = true then (some (z5, z6, false, z8, z9)) else (bnd (IntKind.i64.wrap ((z8.length : Int) - 1)) fun x15 => gd ((0 : Int) ≤ x15 ∧ x15 < (z8.length : Int)) (gd ((0 : Int) ≤ 0 ∧ 0 < (z8.length : Int)) (bnd (z8.set (0 : Int).toNat ((rdx E_heap_node_int z8 x15).1, (rdx E_heap_node_int z8 x15).2.1, (rdx E_heap_node_int z8 x15).2.2)) fun l26 => gd ((0 : Int) ≤ x15 ∧ x15 < (l26.length : Int)) (bnd (l26.set (x15 : Int).toNat (0, 0, 0)) fun l33 => gd ((0 : Int) ≤ x15 ∧ x15 ≤ (l33.length : Int)) ((heap_Heap_int_sift.f (l33.take (x15 : Int).toNat) z9).bind fun (z45, z46) => some (z5, z6, true, z45, z46))))))) : Option (Int × Int × Bool × List (Int × Int × Int) × Int)) = some r := h
  refine calls_start Try.func41 rfl rfl ?_
  refine L_seq ?_
  refine L_region ?_
  refine F_val rfl rfl rfl (O_assign rfl rfl) ?_
  refine F_val rfl rfl rfl (O_assign rfl rfl) ?_
  refine F_val rfl rfl rfl (O_assign rfl rfl) ?_
  refine F_nil ?_
  refine L_seq ?_
  refine L_region ?_
  refine F_val rfl rfl rfl (O_move rfl rfl) ?_
  obtain ⟨⟨z5, z6, z7, z8, z9⟩, h4, H⟩ := of_bind H
  refine F_call (xs := [.tmp 10]) rfl rfl rfl rfl Try.func67 nm67 rfl rfl ((heap_Heap_int_Peek.calls (HS0.give [0, 1] rfl (Lent.nil)) h4).mono (fun e w hc => ?_))
  obtain ⟨A12, c13, rfl, HSo⟩ := hc
  refine ⟨.tuple #[.int .i64 z5, .int .i64 z6, .bool z7], rfl, ?_⟩
  have HS11 : Hp S0 w0 w [.box g_h_0 [.slice A12 z8.length c13, .int .i64 z9] 93, .own A12 c13 (rowC E_heap_node_int z8) 95 E_heap_node_int.sz] := (HS0.back [0, 1] HSo rfl).sel [2, 3] rfl
  refine F_val rfl rfl rfl (O_move rfl rfl) ?_
  refine F_val rfl rfl rfl (O_extract (v := .int .i64 z5) rfl rfl rfl) ?_
  refine F_val rfl rfl rfl (O_extract (v := .int .i64 z6) rfl rfl rfl) ?_
  refine F_val rfl rfl rfl (O_extract (v := .bool z7) rfl rfl rfl) ?_
  refine F_val rfl rfl rfl (O_assign rfl rfl) ?_
  refine F_val rfl rfl rfl (O_assign rfl rfl) ?_
  refine F_val rfl rfl rfl (O_assign rfl rfl) ?_
  refine F_nil ?_
  refine L_seq ?_
  refine L_seq ?_
  refine L_region ?_
  refine F_val rfl rfl rfl (O_move rfl rfl) ?_
  refine F_val rfl rfl rfl (O_notb rfl rfl) ?_
  refine F_nil ?_
  refine L_cond rfl (fun c14 => ?_) (fun c14 => ?_)
  · have H := of_pos H c14
    refine L_seq ?_
    refine L_region ?_
    refine F_val rfl rfl rfl (O_move rfl rfl) ?_
    refine F_val rfl rfl rfl (O_move rfl rfl) ?_
    refine F_val rfl rfl rfl (O_assign rfl rfl) ?_
    refine F_val rfl rfl rfl (O_assign rfl rfl) ?_
    refine F_val rfl rfl rfl (O_assign rfl rfl) ?_
    refine F_nil ?_
    refine L_ret (fun a ha => (post_ret3 ha rfl rfl rfl rfl ?_))
    obtain rfl := Option.some.inj H
    exact ⟨_, _, rfl, HS11.sel [0, 1] rfl⟩
  · have H := of_neg H (by rw [c14]; exact Bool.false_ne_true)
    refine L_skip ?_
    refine L_seq ?_
    refine L_region ?_
    refine F_val rfl rfl rfl (O_move rfl rfl) ?_
    refine F_val rfl rfl rfl (O_nilCheck rfl rfl) ?_
    refine F_val rfl rfl rfl (O_fieldB rfl rfl field93_0) ?_
    refine F_val rfl rfl rfl (O_loadB rfl rfl flat91 (HS11.cells_box (i := 0) rfl) rfl) ?_
    refine F_val rfl rfl rfl (O_len rfl rfl Try.underlying91) ?_
    refine F_val rfl rfl rfl (O_sub rfl rfl rfl) ?_
    obtain ⟨x15, h16, H⟩ := of_bnd H
    refine F_val rfl rfl rfl (O_assign' rfl rfl (congrArg (Value.int .i64) h16)) ?_
    refine F_nil ?_
    refine L_seq ?_
    refine L_tail 12 mix (by kernel_rfl) (fun w17 hw18 => ?_)
    have HS19 := HS11.keep hw18
    refine S_val rfl rfl rfl (O_move rfl rfl) ?_
    refine S_val rfl rfl rfl (O_nilCheck rfl rfl) ?_
    refine S_val rfl rfl rfl (O_fieldB rfl rfl field93_0) ?_
    refine S_val rfl rfl rfl (O_loadB rfl rfl flat91 (HS19.cells_box (i := 0) rfl) rfl) ?_
    refine S_val rfl rfl rfl (O_move rfl rfl) ?_
    refine S_val rfl rfl rfl (O_nilCheck rfl rfl) ?_
    refine S_val rfl rfl rfl (O_fieldB rfl rfl field93_0) ?_
    refine S_val rfl rfl rfl (O_loadB rfl rfl flat91 (HS19.cells_box (i := 0) rfl) rfl) ?_
    refine S_val rfl rfl rfl (O_move rfl rfl) ?_
    obtain ⟨⟨g20, g21⟩, H⟩ := of_gd H
    refine S_val rfl rfl rfl (O_idx rfl rfl rfl Try.underlying91 size95 g20 g21 (Cells.isA (HS19.cells_own (i := 1) rfl) (rowC_ne (E := E_heap_node_int) g20 g21 (by decide)))) ?_
    refine S_val rfl rfl rfl (O_loadEl (E := E_heap_node_int) rfl rfl wide95 (HS19.cells_own (i := 1) rfl) g20 g21 (by decide)) ?_
    obtain ⟨⟨g22, g23⟩, H⟩ := of_gd H
    refine S_val rfl rfl rfl (O_idx rfl rfl rfl Try.underlying91 size95 g22 g23 (Cells.isA (HS19.cells_own (i := 1) rfl) (rowC_ne (E := E_heap_node_int) g22 g23 (by decide)))) ?_
    refine S_nil ?_
    obtain ⟨l26, h27, H⟩ := of_bnd H
    refine F_setE (E := E_heap_node_int) (i := 1) (a := ((rdx E_heap_node_int z8 x15).1, (rdx E_heap_node_int z8 x15).2.1, (rdx E_heap_node_int z8 x15).2.2)) (q := 0) rfl rfl rfl rfl rfl rfl size95 HS19 rfl (by decide) g22 g23 h27 (fun w24 HS25 => ?_)
    have e28 : z8.length = l26.length := by rw [← h27, List.length_set]
    have HS25 : Hp S0 w0 w24 [.box g_h_0 [.slice A12 l26.length c13, .int .i64 z9] 93, .own A12 c13 (rowC E_heap_node_int l26) 95 E_heap_node_int.sz] := (by rw [← e28]; exact HS25)
    refine F_nil ?_
    refine L_seq ?_
    refine L_region ?_
    refine F_val rfl rfl rfl (O_move rfl rfl) ?_
    refine F_val rfl rfl rfl (O_nilCheck rfl rfl) ?_
    refine F_val rfl rfl rfl (O_fieldB rfl rfl field93_0) ?_
    refine F_val rfl rfl rfl (O_loadB rfl rfl flat91 (HS25.cells_box (i := 0) rfl) rfl) ?_
    refine F_val rfl rfl rfl (O_move rfl rfl) ?_
    refine F_val rfl rfl rfl (O_build (vs := []) (v := .agg #[.int .i64 0, .int .i64 0, .int .i64 0]) rfl rfl rfl (fun w => by kernel_rfl)) ?_
    obtain ⟨⟨g29, g30⟩, H⟩ := of_gd H
    refine F_val rfl rfl rfl (O_idx rfl rfl rfl Try.underlying91 size95 g29 g30 (Cells.isA (HS25.cells_own (i := 1) rfl) (rowC_ne (E := E_heap_node_int) g29 g30 (by decide)))) ?_
    obtain ⟨l33, h34, H⟩ := of_bnd H
    refine F_setE (E := E_heap_node_int) (i := 1) (a := (0, 0, 0)) (q := x15) rfl rfl rfl rfl rfl rfl size95 HS25 rfl (by decide) g29 g30 h34 (fun w31 HS32 => ?_)
    have e35 : l26.length = l33.length := by rw [← h34, List.length_set]
    have HS32 : Hp S0 w0 w31 [.box g_h_0 [.slice A12 l33.length c13, .int .i64 z9] 93, .own A12 c13 (rowC E_heap_node_int l33) 95 E_heap_node_int.sz] := (by rw [← e35]; exact HS32)
    refine F_nil ?_
    refine L_seq ?_
    refine L_region ?_
    refine F_val rfl rfl rfl (O_move rfl rfl) ?_
    refine F_val rfl rfl rfl (O_move rfl rfl) ?_
    refine F_val rfl rfl rfl (O_nilCheck rfl rfl) ?_
    refine F_val rfl rfl rfl (O_fieldB rfl rfl field93_0) ?_
    refine F_val rfl rfl rfl (O_loadB rfl rfl flat91 (HS32.cells_box (i := 0) rfl) rfl) ?_
    refine F_val rfl rfl rfl (O_move rfl rfl) ?_
    obtain ⟨⟨g36, g37⟩, H⟩ := of_gd H
    refine F_val rfl rfl rfl (O_toE l33 rfl rfl rfl Try.underlying91 size95 g36 g37 (HS32.own_capE (i := 1) rfl (by decide))) ?_
    refine F_val rfl rfl rfl (O_nilCheck rfl rfl) ?_
    refine F_val rfl rfl rfl (O_fieldB rfl rfl field93_0) ?_
    have HS40 : Hp S0 w0 w31 [.box g_h_0 [.slice A12 l33.length c13, .int .i64 z9] 93, .own A12 c13 (rowC E_heap_node_int (l33.take (x15 : Int).toNat)) 95 E_heap_node_int.sz] := HS32.ownTake (i := 1) rfl ((x15 : Int).toNat)
    refine F_stB 0 ([.slice A12 (l33.take (x15 : Int).toNat).length c13, .int .i64 z9]) rfl rfl rfl rfl rfl size91 HS40 rfl rfl rfl rfl rfl (fun w38 HS39 => ?_)
    have HS39 : Hp S0 w0 w38 [.box g_h_0 [.slice A12 (l33.take (x15 : Int).toNat).length c13, .int .i64 z9] 93, .own A12 c13 (rowC E_heap_node_int (l33.take (x15 : Int).toNat)) 95 E_heap_node_int.sz] := HS39
    refine F_nil ?_
    refine L_seq ?_
    refine L_region ?_
    refine F_val rfl rfl rfl (O_move rfl rfl) ?_
    obtain ⟨⟨z45, z46⟩, h44, H⟩ := of_bind H
    refine F_call (xs := [.tmp 53]) rfl rfl rfl rfl Try.func68 nm68 rfl rfl ((heap_Heap_int_sift.calls (HS39.give [0, 1] rfl (Lent.nil)) h44).mono (fun e w hc => ?_))
    obtain ⟨A49, c50, rfl, HSo⟩ := hc
    refine ⟨.tuple #[], rfl, ?_⟩
    have HS48 : Hp S0 w0 w [.box g_h_0 [.slice A49 z45.length c50, .int .i64 z46] 93, .own A49 c50 (rowC E_heap_node_int z45) 95 E_heap_node_int.sz] := (HS39.back [0, 1] HSo rfl).sel [2, 3] rfl
    refine F_nil ?_
    refine L_seq ?_
    refine L_region ?_
    refine F_val rfl rfl rfl (O_move rfl rfl) ?_
    refine F_val rfl rfl rfl (O_move rfl rfl) ?_
    refine F_val rfl rfl rfl (O_assign rfl rfl) ?_
    refine F_val rfl rfl rfl (O_assign rfl rfl) ?_
    refine F_val rfl rfl rfl (O_assign rfl rfl) ?_
    refine F_nil ?_
    refine L_ret (fun a ha => (post_ret3 ha rfl rfl rfl rfl ?_))
    obtain rfl := Option.some.inj H
    exact ⟨_, _, rfl, HS48.sel [0, 1] rfl⟩

/-! function 20: valise/build.Depths -/
theorem build_Depths.calls {S0 : Nat → Prop} {w0 : World} {A_freq_0 : Option Addr} {c_freq_0 : Nat} {l_freq_0 : List Int} {r : List Int × Int} (HS0 : Hp S0 w0 w0 [.rd A_freq_0 (rowC (Eint .i64) l_freq_0)]) (hc_freq_0 : l_freq_0.length ≤ c_freq_0) (h : build_Depths.f l_freq_0 = some r) :
    Calls Try.prog 20 ([.slice A_freq_0 l_freq_0.length c_freq_0] : List Value).toArray w0 (fun e w => ∃ (A1 : Option Addr), ∃ (c1 : Nat), e = .returned (.tuple #[.slice A1 r.1.length c1, .int .i64 r.2]) ∧ Hp S0 w0 w [.own A1 c1 (rowC (Eint .i64) r.1) 3 (Eint .i64).sz]) := by
  have H : (((build_used.f l_freq_0).bind fun (z5, z6) => if z6 ≠ 0 then (some (([] : List Int), z6)) else (if (z5.length : Int) < 2 then ((build_few.f (l_freq_0.length : Int) z5).bind fun z20 => some (z20, 0)) else ((heap_New_int.f).bind fun (z30, z31) => (build_Depths.l1 FU z30 z31 0 l_freq_0 z5).bind fun (l110, y111) => gd ((0 : Int) ≤ (z5.length : Int) ∧ (z5.length : Int) ≤ (IntKind.i64.wrap (2 * (z5.length : Int)))) (gd ((IntKind.i64.wrap (2 * (z5.length : Int))) * 8 ≤ 281474976710656) (bnd (List.replicate ((z5.length : Int) : Int).toNat (0 : Int)) fun l187 => (build_Depths.l3 FU l110 l187 y111 ).bind fun l444 => gd ((0 : Int) ≤ (l_freq_0.length : Int) ∧ (l_freq_0.length : Int) * 8 ≤ 281474976710656) (bnd (List.replicate ((l_freq_0.length : Int) : Int).toNat (0 : Int)) fun l700 => (build_Depths.l15 FU l700 0 z5 l444).bind fun l1026 => some (l1026, 0))))))) : Option (List Int × Int)) = some r := h
  refine calls_start Try.func20 rfl rfl ?_
  refine L_seq ?_
  refine L_region ?_
  refine F_val rfl rfl rfl (O_assign rfl rfl) ?_
  refine F_val rfl rfl rfl (O_assign rfl rfl) ?_
  refine F_nil ?_
  refine L_seq ?_
  refine L_region ?_
  refine F_val rfl rfl rfl (O_move rfl rfl) ?_
  obtain ⟨⟨z5, z6⟩, h4, H⟩ := of_bind H
  refine F_call (xs := [.tmp 22]) rfl rfl rfl rfl Try.func35 nm35 rfl rfl ((build_used.calls (HS0.give [] rfl (Lent.rd HS0 (Lent.nil) (i := 0) rfl ((HS0.cells_rd (i := 0) rfl).self))) hc_freq_0 h4).mono (fun e w hc => ?_))
  obtain ⟨A9, c10, rfl, HSo⟩ := hc
  refine ⟨.tuple #[.slice A9 z5.length c10, .int .i64 z6], rfl, ?_⟩
  have HS8 : Hp S0 w0 w [.rd A_freq_0 (rowC (Eint .i64) l_freq_0), .own A9 c10 (rowC (Eint .i64) z5) 3 (Eint .i64).sz] := (HS0.back [] HSo rfl).sel [0, 1] rfl
  refine F_val rfl rfl rfl (O_move rfl rfl) ?_
  refine F_val rfl rfl rfl (O_extract (v := .slice A9 z5.length c10) rfl rfl rfl) ?_
  refine F_val rfl rfl rfl (O_extract (v := .int .i64 z6) rfl rfl rfl) ?_
  refine F_val rfl rfl rfl (O_assign rfl rfl) ?_
  refine F_val rfl rfl rfl (O_assign rfl rfl) ?_
  refine F_nil ?_
  refine L_seq ?_
  refine L_seq ?_
  refine L_region ?_
  refine F_val rfl rfl rfl (O_move rfl rfl) ?_
  refine F_val rfl rfl rfl (O_ne rfl rfl rfl) ?_
  refine F_nil ?_
  refine L_condP rfl (fun c12 => ?_) (fun c12 => ?_)
  · have H := of_pos H c12
    refine L_seq ?_
    refine L_region ?_
    refine F_val rfl rfl rfl (O_move rfl rfl) ?_
    refine F_val rfl rfl rfl (O_assign rfl rfl) ?_
    refine F_val rfl rfl rfl (O_assign rfl rfl) ?_
    refine F_nil ?_
    have HS13 := HS8.addNil 3 (Eint .i64).sz
    refine L_ret (fun a ha => (post_ret2 ha rfl rfl rfl ?_))
    obtain rfl := Option.some.inj H
    exact ⟨_, _, rfl, HS13.sel [2] rfl⟩
  · have H := of_neg H c12
    refine L_skip ?_
    refine L_seq ?_
    refine L_seq ?_
    refine L_region ?_
    refine F_val rfl rfl rfl (O_move rfl rfl) ?_
    refine F_val rfl rfl rfl (O_len rfl rfl Try.underlying22) ?_
    refine F_val rfl rfl rfl (O_lt rfl rfl rfl) ?_
    refine F_nil ?_
    refine L_condP rfl (fun c15 => ?_) (fun c15 => ?_)
    · have H := of_pos H c15
      refine L_seq ?_
      refine L_region ?_
      refine F_val rfl rfl rfl (O_move rfl rfl) ?_
      refine F_val rfl rfl rfl (O_len rfl rfl Try.underlying22) ?_
      refine F_val rfl rfl rfl (O_move rfl rfl) ?_
      obtain ⟨z20, h19, H⟩ := of_bind H
      refine F_call (xs := [.tmp 33, .tmp 34]) rfl rfl rfl rfl Try.func37 nm37 rfl rfl ((build_few.calls (HS8.give [] rfl (Lent.own HS8 (Lent.nil) (i := 1) rfl rfl ((HS8.cells_own (i := 1) rfl).self))) (HS8.own_capE (i := 1) rfl (by decide)) h19).mono (fun e w hc => ?_))
      obtain ⟨A23, c24, rfl, HSo⟩ := hc
      refine ⟨.slice A23 z20.length c24, rfl, ?_⟩
      have HS22 : Hp S0 w0 w [.rd A_freq_0 (rowC (Eint .i64) l_freq_0), .own A9 c10 (rowC (Eint .i64) z5) 3 (Eint .i64).sz, .own A23 c24 (rowC (Eint .i64) z20) 3 (Eint .i64).sz] := (HS8.back [] HSo rfl).sel [0, 1, 2] rfl
      refine F_val rfl rfl rfl (O_assign rfl rfl) ?_
      refine F_val rfl rfl rfl (O_assign rfl rfl) ?_
      refine F_nil ?_
      refine L_ret (fun a ha => (post_ret2 ha rfl rfl rfl ?_))
      obtain rfl := Option.some.inj H
      exact ⟨_, _, rfl, HS22.sel [2] rfl⟩
    · have H := of_neg H c15
      refine L_skip ?_
      refine L_seq ?_
      refine L_region ?_
      obtain ⟨⟨z30, z31⟩, h29, H⟩ := of_bind H
      refine F_call (xs := []) rfl rfl rfl rfl Try.func38 nm38 rfl rfl ((heap_New_int.calls (HS8.give [] rfl (Lent.nil)) h29).mono (fun e w hc => ?_))
      obtain ⟨g34, A36, c37, rfl, HSo⟩ := hc
      refine ⟨.pointer (some ⟨g34, 0, none⟩), rfl, ?_⟩
      have HS33 : Hp S0 w0 w [.rd A_freq_0 (rowC (Eint .i64) l_freq_0), .own A9 c10 (rowC (Eint .i64) z5) 3 (Eint .i64).sz, .box g34 [.slice A36 z30.length c37, .int .i64 z31] 93, .own A36 c37 (rowC E_heap_node_int z30) 95 E_heap_node_int.sz] := (HS8.back [] HSo rfl).sel [0, 1, 2, 3] rfl
      refine F_val rfl rfl rfl (O_assign rfl rfl) ?_
      refine F_nil ?_
      refine L_seq ?_
      refine L_seq ?_
      refine L_region ?_
      refine F_val rfl rfl rfl (O_move rfl rfl) ?_
      refine F_val rfl rfl rfl (O_len rfl rfl Try.underlying22) ?_
      refine F_val rfl rfl rfl (O_move rfl rfl) ?_
      refine F_nil ?_
      obtain ⟨yj39, Hyj39, H⟩ := of_bind H
      refine L_join (fun a w => ∃ (l110 : List (Int × Int × Int)), ∃ (y111 : Int), ∃ (A108 : Option Addr), ∃ (c109 : Nat), yj39 = (l110, y111) ∧ Is Try.f20.ntmps a [(0, .slice A_freq_0 l_freq_0.length c_freq_0), (4, .slice A9 z5.length c10), (6, .pointer (some ⟨g34, 0, none⟩))] ∧ Hp S0 w0 w [.rd A_freq_0 (rowC (Eint .i64) l_freq_0), .own A9 c10 (rowC (Eint .i64) z5) 3 (Eint .i64).sz, .box g34 [.slice A108 l110.length c109, .int .i64 y111] 93, .own A108 c109 (rowC E_heap_node_int l110) 95 E_heap_node_int.sz]) (fun Qj39 hNj39 hOj39 => ?_) (fun a w hR => ?_)
      · skip
        have H := Hyj39
        refine L_blk (fun Qb112 hNb112 hXb112 hOb112 => ?_)
        refine L_lp (fun k a w => ∃ (l157 : List (Int × Int × Int)), ∃ (y158 : Int), ∃ (t159 : Int), ∃ (A155 : Option Addr), ∃ (c156 : Nat), Is Try.f20.ntmps a [(0, .slice A_freq_0 l_freq_0.length c_freq_0), (4, .slice A9 z5.length c10), (6, .pointer (some ⟨g34, 0, none⟩)), (37, .slice A9 z5.length c10), (38, .int .i64 (z5.length : Int)), (39, .int .i64 t159)] ∧ Hp S0 w0 w [.rd A_freq_0 (rowC (Eint .i64) l_freq_0), .own A9 c10 (rowC (Eint .i64) z5) 3 (Eint .i64).sz, .box g34 [.slice A155 l157.length c156, .int .i64 y158] 93, .own A155 c156 (rowC E_heap_node_int l157) 95 E_heap_node_int.sz] ∧ build_Depths.l1 k l157 y158 t159 l_freq_0 z5 = some yj39) FU (fun a ha => ⟨_, _, _, _, _, Is.cons ha (Is.cons ha (Is.cons ha (Is.cons ha (Is.cons ha (Is.cons ha (Is.nil ha) rfl) rfl) rfl) rfl) rfl) rfl, HS33.sel [0, 1, 2, 3] rfl, H⟩) (fun kp154 a w160 hI Qp154 hNp154 hOp154 => ?_)
        obtain ⟨l157, y158, t159, A155, c156, ha, HS161, HAp154⟩ := hI
        cases kp154 with
        | zero => cases (show (none : Option _) = some _ from HAp154)
        | succ kp154 =>
          have H := (build_Depths.l1.eq_2 ..).symm.trans HAp154
          refine wpLF_app ?_ ha
          refine L_seq ?_
          refine L_region ?_
          refine F_val rfl rfl rfl (O_lt rfl rfl rfl) ?_
          refine F_nil ?_
          refine L_seq ?_
          refine L_condP rfl (fun c162 => ?_) (fun c162 => ?_)
          · have H := of_pos H c162
            refine L_skip ?_
            refine L_seq ?_
            refine L_blk (fun Q163 hN163 hX163 hO163 => ?_)
            refine L_seq ?_
            refine L_region ?_
            refine F_val rfl rfl rfl (O_move rfl rfl) ?_
            obtain ⟨⟨g164, g165⟩, H⟩ := of_gd H
            refine F_val rfl rfl rfl (O_idx rfl rfl rfl Try.underlying22 size3 g164 g165 (Cells.isA (HS161.cells_own (i := 1) rfl) (rowC_ne (E := (Eint .i64)) g164 g165 (by decide)))) ?_
            refine F_val rfl rfl rfl (O_loadC rfl rfl flat3 (HS161.cells_own (i := 1) rfl) (int_cell g164 g165)) ?_
            refine F_val rfl rfl rfl (O_assign rfl rfl) ?_
            obtain ⟨x166, h167, H⟩ := of_bnd H
            refine F_val rfl rfl rfl (O_assign' rfl rfl (congrArg (Value.int .i64) h167)) ?_
            refine F_nil ?_
            refine L_region ?_
            refine F_val rfl rfl rfl (O_move rfl rfl) ?_
            refine F_val rfl rfl rfl (O_move rfl rfl) ?_
            refine F_val rfl rfl rfl (O_move rfl rfl) ?_
            obtain ⟨⟨g168, g169⟩, H⟩ := of_gd H
            refine F_val rfl rfl rfl (O_idx rfl rfl rfl Try.underlying22 size3 g168 g169 (Cells.isA (HS161.cells_rd (i := 0) rfl) (rowC_ne (E := (Eint .i64)) g168 g169 (by decide)))) ?_
            refine F_val rfl rfl rfl (O_loadC rfl rfl flat3 (HS161.cells_rd (i := 0) rfl) (int_cell g168 g169)) ?_
            refine F_val rfl rfl rfl (O_move rfl rfl) ?_
            obtain ⟨⟨z174, z175⟩, h173, H⟩ := of_bind H
            refine F_call (xs := [.tmp 44, .tmp 48, .tmp 49]) rfl rfl rfl rfl Try.func39 nm39 rfl rfl ((heap_Heap_int_Push.calls (HS161.give [2, 3] rfl (Lent.nil)) h173).mono (fun e w hc => ?_))
            obtain ⟨A178, c179, rfl, HSo⟩ := hc
            refine ⟨.tuple #[], rfl, ?_⟩
            have HS177 : Hp S0 w0 w [.rd A_freq_0 (rowC (Eint .i64) l_freq_0), .own A9 c10 (rowC (Eint .i64) z5) 3 (Eint .i64).sz, .box g34 [.slice A178 z174.length c179, .int .i64 z175] 93, .own A178 c179 (rowC E_heap_node_int z174) 95 E_heap_node_int.sz] := (HS161.back [2, 3] HSo rfl).sel [0, 1, 4, 5] rfl
            refine F_nil ?_
            refine L_endB hN163 ?_
            refine L_region ?_
            refine F_val rfl rfl rfl (O_add rfl rfl rfl) ?_
            refine F_val rfl rfl rfl (O_move rfl rfl) ?_
            refine F_nil ?_
            refine L_nil (fun a ha => hNp154 _ a _ (Nat.lt_succ_self _) ⟨_, _, _, _, _, Is.cons ha (Is.cons ha (Is.cons ha (Is.cons ha (Is.cons ha (Is.cons ha (Is.nil ha) rfl) rfl) rfl) rfl) rfl) rfl, HS177.sel [0, 1, 2, 3] rfl, H⟩)
          · have H := of_neg H c162
            refine L_exitB (fun a w h => hOp154 (.exit 0) a w rfl (hXb112 a w h)) ?_
            refine L_nil (fun a ha => hNj39 a _ ⟨_, _, _, _, (Option.some.inj H).symm, Is.cons ha (Is.cons ha (Is.cons ha (Is.nil ha) rfl) rfl) rfl, HS161.sel [0, 1, 2, 3] rfl⟩)
      · obtain ⟨l110, y111, A108, c109, rfl, ha, HS181⟩ := hR
        refine wpLF_app ?_ ha
        refine L_seq ?_
        refine L_region ?_
        refine F_val rfl rfl rfl (O_move rfl rfl) ?_
        refine F_val rfl rfl rfl (O_len rfl rfl Try.underlying22) ?_
        refine F_val rfl rfl rfl (O_move rfl rfl) ?_
        refine F_val rfl rfl rfl (O_len rfl rfl Try.underlying22) ?_
        refine F_val rfl rfl rfl (O_mul rfl rfl rfl) ?_
        obtain ⟨⟨g184, g185⟩, H⟩ := of_gd H
        obtain ⟨g186, H⟩ := of_gd H
        obtain ⟨l187, h188, H⟩ := of_bnd H
        refine F_makeCE (E := (Eint .i64)) rfl rfl rfl rfl rfl rfl Try.underlying22 info3 rfl (by decide) (by decide) g184 g185 g186 HS181 h188 (fun w182 A189 c190 HS183 => ?_)
        have HS183 : Hp S0 w0 w182 [.rd A_freq_0 (rowC (Eint .i64) l_freq_0), .own A9 c10 (rowC (Eint .i64) z5) 3 (Eint .i64).sz, .box g34 [.slice A108 l110.length c109, .int .i64 y111] 93, .own A108 c109 (rowC E_heap_node_int l110) 95 E_heap_node_int.sz, .own A189 c190 (rowC (Eint .i64) l187) 3 (Eint .i64).sz] := HS183
        refine F_val rfl rfl rfl (O_assign rfl rfl) ?_
        refine F_nil ?_
        refine L_seq ?_
        obtain ⟨yj192, Hyj192, H⟩ := of_bind H
        refine L_join (fun a w => ∃ (l444 : List Int), ∃ (A442 : Option Addr), ∃ (c443 : Nat), yj192 = l444 ∧ Is Try.f20.ntmps a [(0, .slice A_freq_0 l_freq_0.length c_freq_0), (4, .slice A9 z5.length c10), (9, .slice A442 l444.length c443)] ∧ Hp S0 w0 w [.rd A_freq_0 (rowC (Eint .i64) l_freq_0), .own A9 c10 (rowC (Eint .i64) z5) 3 (Eint .i64).sz, .own A442 c443 (rowC (Eint .i64) l444) 3 (Eint .i64).sz]) (fun Qj192 hNj192 hOj192 => ?_) (fun a w hR => ?_)
        · skip
          have H := Hyj192
          refine L_blk (fun Qb445 hNb445 hXb445 hOb445 => ?_)
          refine L_lp (fun k a w => ∃ (l610 : List (Int × Int × Int)), ∃ (l613 : List Int), ∃ (y614 : Int), ∃ (A608 : Option Addr), ∃ (c609 : Nat), ∃ (A611 : Option Addr), ∃ (c612 : Nat), Is Try.f20.ntmps a [(0, .slice A_freq_0 l_freq_0.length c_freq_0), (4, .slice A9 z5.length c10), (6, .pointer (some ⟨g34, 0, none⟩)), (9, .slice A611 l613.length c612)] ∧ Hp S0 w0 w [.rd A_freq_0 (rowC (Eint .i64) l_freq_0), .own A9 c10 (rowC (Eint .i64) z5) 3 (Eint .i64).sz, .box g34 [.slice A608 l610.length c609, .int .i64 y614] 93, .own A608 c609 (rowC E_heap_node_int l610) 95 E_heap_node_int.sz, .own A611 c612 (rowC (Eint .i64) l613) 3 (Eint .i64).sz] ∧ build_Depths.l3 k l610 l613 y614  = some yj192) FU (fun a ha => ⟨_, _, _, _, _, _, _, Is.cons ha (Is.cons ha (Is.cons ha (Is.cons ha (Is.nil ha) rfl) rfl) rfl) rfl, HS183.sel [0, 1, 2, 3, 4] rfl, H⟩) (fun kp607 a w615 hI Qp607 hNp607 hOp607 => ?_)
          obtain ⟨l610, l613, y614, A608, c609, A611, c612, ha, HS616, HAp607⟩ := hI
          cases kp607 with
          | zero => cases (show (none : Option _) = some _ from HAp607)
          | succ kp607 =>
            have H := (build_Depths.l3.eq_2 ..).symm.trans HAp607
            refine wpLF_app ?_ ha
            refine L_seq ?_
            refine L_seq ?_
            refine L_region ?_
            refine F_val rfl rfl rfl (O_move rfl rfl) ?_
            obtain ⟨⟨z621, z622, z623⟩, h620, H⟩ := of_bind H
            refine F_call (xs := [.tmp 58]) rfl rfl rfl rfl Try.func40 nm40 rfl rfl ((heap_Heap_int_Len.calls (HS616.give [2, 3] rfl (Lent.nil)) h620).mono (fun e w hc => ?_))
            obtain ⟨A626, c627, rfl, HSo⟩ := hc
            refine ⟨.int .i64 z621, rfl, ?_⟩
            have HS625 : Hp S0 w0 w [.rd A_freq_0 (rowC (Eint .i64) l_freq_0), .own A9 c10 (rowC (Eint .i64) z5) 3 (Eint .i64).sz, .box g34 [.slice A626 z622.length c627, .int .i64 z623] 93, .own A626 c627 (rowC E_heap_node_int z622) 95 E_heap_node_int.sz, .own A611 c612 (rowC (Eint .i64) l613) 3 (Eint .i64).sz] := (HS616.back [2, 3] HSo rfl).sel [0, 1, 5, 6, 4] rfl
            refine F_val rfl rfl rfl (O_gt rfl rfl rfl) ?_
            refine F_nil ?_
            refine L_condP rfl (fun c628 => ?_) (fun c628 => ?_)
            · have H := of_pos H c628
              refine L_skip ?_
              refine L_blk (fun Q629 hN629 hX629 hO629 => ?_)
              refine L_seq ?_
              refine L_region ?_
              refine F_val rfl rfl rfl (O_move rfl rfl) ?_
              obtain ⟨⟨z634, z635, z636, z637, z638⟩, h633, H⟩ := of_bind H
              refine F_call (xs := [.tmp 62]) rfl rfl rfl rfl Try.func41 nm41 rfl rfl ((heap_Heap_int_Pop.calls (HS625.give [2, 3] rfl (Lent.nil)) h633).mono (fun e w hc => ?_))
              obtain ⟨A641, c642, rfl, HSo⟩ := hc
              refine ⟨.tuple #[.int .i64 z634, .int .i64 z635, .bool z636], rfl, ?_⟩
              have HS640 : Hp S0 w0 w [.rd A_freq_0 (rowC (Eint .i64) l_freq_0), .own A9 c10 (rowC (Eint .i64) z5) 3 (Eint .i64).sz, .box g34 [.slice A641 z637.length c642, .int .i64 z638] 93, .own A641 c642 (rowC E_heap_node_int z637) 95 E_heap_node_int.sz, .own A611 c612 (rowC (Eint .i64) l613) 3 (Eint .i64).sz] := (HS625.back [2, 3] HSo rfl).sel [0, 1, 5, 6, 4] rfl
              refine F_val rfl rfl rfl (O_move rfl rfl) ?_
              refine F_val rfl rfl rfl (O_extract (v := .int .i64 z634) rfl rfl rfl) ?_
              refine F_val rfl rfl rfl (O_extract (v := .int .i64 z635) rfl rfl rfl) ?_
              refine F_val rfl rfl rfl (O_extract (v := .bool z636) rfl rfl rfl) ?_
              refine F_val rfl rfl rfl (O_assign rfl rfl) ?_
              refine F_val rfl rfl rfl (O_assign rfl rfl) ?_
              refine F_val rfl rfl rfl (O_assign rfl rfl) ?_
              refine F_nil ?_
              refine L_seq ?_
              refine L_region ?_
              refine F_val rfl rfl rfl (O_move rfl rfl) ?_
              obtain ⟨⟨z647, z648, z649, z650, z651⟩, h646, H⟩ := of_bind H
              refine F_call (xs := [.tmp 68]) rfl rfl rfl rfl Try.func41 nm41 rfl rfl ((heap_Heap_int_Pop.calls (HS640.give [2, 3] rfl (Lent.nil)) h646).mono (fun e w hc => ?_))
              obtain ⟨A654, c655, rfl, HSo⟩ := hc
              refine ⟨.tuple #[.int .i64 z647, .int .i64 z648, .bool z649], rfl, ?_⟩
              have HS653 : Hp S0 w0 w [.rd A_freq_0 (rowC (Eint .i64) l_freq_0), .own A9 c10 (rowC (Eint .i64) z5) 3 (Eint .i64).sz, .box g34 [.slice A654 z650.length c655, .int .i64 z651] 93, .own A654 c655 (rowC E_heap_node_int z650) 95 E_heap_node_int.sz, .own A611 c612 (rowC (Eint .i64) l613) 3 (Eint .i64).sz] := (HS640.back [2, 3] HSo rfl).sel [0, 1, 5, 6, 4] rfl
              refine F_val rfl rfl rfl (O_move rfl rfl) ?_
              refine F_val rfl rfl rfl (O_extract (v := .int .i64 z647) rfl rfl rfl) ?_
              refine F_val rfl rfl rfl (O_extract (v := .int .i64 z648) rfl rfl rfl) ?_
              refine F_val rfl rfl rfl (O_extract (v := .bool z649) rfl rfl rfl) ?_
              refine F_val rfl rfl rfl (O_assign rfl rfl) ?_
              refine F_val rfl rfl rfl (O_assign rfl rfl) ?_
              refine F_val rfl rfl rfl (O_assign rfl rfl) ?_
              refine F_nil ?_
              refine L_seq ?_
              refine L_region ?_
              refine F_val rfl rfl rfl (O_move rfl rfl) ?_
              refine F_val rfl rfl rfl (O_len rfl rfl Try.underlying22) ?_
              obtain ⟨x656, h657, H⟩ := of_bnd H
              refine F_val rfl rfl rfl (O_assign' rfl rfl (congrArg (Value.int .i64) h657)) ?_
              refine F_nil ?_
              refine L_seq ?_
              refine L_region ?_
              refine F_val rfl rfl rfl (O_move rfl rfl) ?_
              refine F_val rfl rfl rfl (O_move rfl rfl) ?_
              refine F_val rfl rfl rfl (O_move rfl rfl) ?_
              refine F_val rfl rfl rfl (O_move rfl rfl) ?_
              refine F_val rfl rfl rfl (O_move rfl rfl) ?_
              refine F_val rfl rfl rfl (O_move rfl rfl) ?_
              obtain ⟨⟨g658, g659⟩, H⟩ := of_gd H
              refine F_val rfl rfl rfl (O_idx rfl rfl rfl Try.underlying22 size3 g658 g659 (Cells.isA (HS653.cells_own (i := 4) rfl) (rowC_ne (E := (Eint .i64)) g658 g659 (by decide)))) ?_
              obtain ⟨l662, h663, H⟩ := of_bnd H
              refine F_setE (E := (Eint .i64)) (i := 4) (a := x656) (q := z635) rfl rfl rfl rfl rfl rfl size3 HS653 rfl (by decide) g658 g659 h663 (fun w660 HS661 => ?_)
              have e664 : l613.length = l662.length := by rw [← h663, List.length_set]
              refine F_know (i := 9) rfl (congrArg (fun n => Value.slice A611 n c612) e664) ?_
              refine F_know (i := 77) rfl (congrArg (fun n => Value.slice A611 n c612) e664) ?_
              have HS661 : Hp S0 w0 w660 [.rd A_freq_0 (rowC (Eint .i64) l_freq_0), .own A9 c10 (rowC (Eint .i64) z5) 3 (Eint .i64).sz, .box g34 [.slice A654 z650.length c655, .int .i64 z651] 93, .own A654 c655 (rowC E_heap_node_int z650) 95 E_heap_node_int.sz, .own A611 c612 (rowC (Eint .i64) l662) 3 (Eint .i64).sz] := HS661
              obtain ⟨⟨g665, g666⟩, H⟩ := of_gd H
              refine F_val rfl rfl rfl (O_idx rfl rfl rfl Try.underlying22 size3 g665 g666 (Cells.isA (HS661.cells_own (i := 4) rfl) (rowC_ne (E := (Eint .i64)) g665 g666 (by decide)))) ?_
              obtain ⟨l669, h670, H⟩ := of_bnd H
              refine F_setE (E := (Eint .i64)) (i := 4) (a := x656) (q := z648) rfl rfl rfl rfl rfl rfl size3 HS661 rfl (by decide) g665 g666 h670 (fun w667 HS668 => ?_)
              have e671 : l662.length = l669.length := by rw [← h670, List.length_set]
              refine F_know (i := 9) rfl (congrArg (fun n => Value.slice A611 n c612) e671) ?_
              have HS668 : Hp S0 w0 w667 [.rd A_freq_0 (rowC (Eint .i64) l_freq_0), .own A9 c10 (rowC (Eint .i64) z5) 3 (Eint .i64).sz, .box g34 [.slice A654 z650.length c655, .int .i64 z651] 93, .own A654 c655 (rowC E_heap_node_int z650) 95 E_heap_node_int.sz, .own A611 c612 (rowC (Eint .i64) l669) 3 (Eint .i64).sz] := HS668
              refine F_nil ?_
              refine L_seq ?_
              refine L_region ?_
              refine F_val rfl rfl rfl (O_move rfl rfl) ?_
              refine F_val rfl rfl rfl (O_move rfl rfl) ?_
              refine F_litE (E := (Eint .i64)) (e := 3) [(0, .int .i64 x656)] [x656] rfl rfl rfl rfl rfl rfl rfl (by decide) (fun w => by kernel_rfl) HS668 (fun w672 A674 c675 HS673 => ?_)
              have HS673 : Hp S0 w0 w672 [.rd A_freq_0 (rowC (Eint .i64) l_freq_0), .own A9 c10 (rowC (Eint .i64) z5) 3 (Eint .i64).sz, .box g34 [.slice A654 z650.length c655, .int .i64 z651] 93, .own A654 c655 (rowC E_heap_node_int z650) 95 E_heap_node_int.sz, .own A611 c612 (rowC (Eint .i64) l669) 3 (Eint .i64).sz, .own A674 c675 (rowC (Eint .i64) [x656]) 3 (Eint .i64).sz] := HS673
              obtain ⟨l679, h680, H⟩ := of_bnd H
              obtain ⟨g681, H⟩ := of_gd H
              refine F_appE (E := (Eint .i64)) (xs := l669) (ys := [x656]) (i := 4) rfl rfl rfl rfl Try.underlying22 info3 rfl (by decide) (by decide) rfl rfl HS673 rfl (HS673.cells_own (i := 5) rfl) h680 g681 (fun w677 A682 c683 HS678 => ?_)
              have HS678 : Hp S0 w0 w677 [.rd A_freq_0 (rowC (Eint .i64) l_freq_0), .own A9 c10 (rowC (Eint .i64) z5) 3 (Eint .i64).sz, .box g34 [.slice A654 z650.length c655, .int .i64 z651] 93, .own A654 c655 (rowC E_heap_node_int z650) 95 E_heap_node_int.sz, .own A682 c683 (rowC (Eint .i64) l679) 3 (Eint .i64).sz, .own A674 c675 (rowC (Eint .i64) [x656]) 3 (Eint .i64).sz] := HS678
              refine F_val rfl rfl rfl (O_assign rfl rfl) ?_
              refine F_nil ?_
              refine L_region ?_
              refine F_val rfl rfl rfl (O_move rfl rfl) ?_
              refine F_val rfl rfl rfl (O_move rfl rfl) ?_
              refine F_val rfl rfl rfl (O_move rfl rfl) ?_
              refine F_val rfl rfl rfl (O_add rfl rfl rfl) ?_
              refine F_val rfl rfl rfl (O_move rfl rfl) ?_
              obtain ⟨⟨z688, z689⟩, h687, H⟩ := of_bind H
              refine F_call (xs := [.tmp 87, .tmp 90, .tmp 91]) rfl rfl rfl rfl Try.func39 nm39 rfl rfl ((heap_Heap_int_Push.calls (HS678.give [2, 3] rfl (Lent.nil)) h687).mono (fun e w hc => ?_))
              obtain ⟨A692, c693, rfl, HSo⟩ := hc
              refine ⟨.tuple #[], rfl, ?_⟩
              have HS691 : Hp S0 w0 w [.rd A_freq_0 (rowC (Eint .i64) l_freq_0), .own A9 c10 (rowC (Eint .i64) z5) 3 (Eint .i64).sz, .box g34 [.slice A692 z688.length c693, .int .i64 z689] 93, .own A692 c693 (rowC E_heap_node_int z688) 95 E_heap_node_int.sz, .own A682 c683 (rowC (Eint .i64) l679) 3 (Eint .i64).sz, .own A674 c675 (rowC (Eint .i64) [x656]) 3 (Eint .i64).sz] := (HS678.back [2, 3] HSo rfl).sel [0, 1, 6, 7, 4, 5] rfl
              refine F_nil ?_
              refine L_endB hN629 ?_
              refine L_nil (fun a ha => hNp607 _ a _ (Nat.lt_succ_self _) ⟨_, _, _, _, _, _, _, Is.cons ha (Is.cons ha (Is.cons ha (Is.cons ha (Is.nil ha) rfl) rfl) rfl) rfl, HS691.sel [0, 1, 2, 3, 4] rfl, H⟩)
            · have H := of_neg H c628
              refine L_exitB (fun a w h => hOp607 (.exit 2) a w rfl (hXb445 a w h)) ?_
              refine L_nil (fun a ha => hNj192 a _ ⟨_, _, _, (Option.some.inj H).symm, Is.cons ha (Is.cons ha (Is.cons ha (Is.nil ha) rfl) rfl) rfl, HS625.sel [0, 1, 4] rfl⟩)
        · obtain ⟨l444, A442, c443, ej, ha, HS695⟩ := hR
          obtain rfl := ej.symm
          refine wpLF_app ?_ ha
          refine L_seq ?_
          refine L_region ?_
          refine F_val rfl rfl rfl (O_move rfl rfl) ?_
          refine F_val rfl rfl rfl (O_len rfl rfl Try.underlying22) ?_
          obtain ⟨⟨g698, g699⟩, H⟩ := of_gd H
          obtain ⟨l700, h701, H⟩ := of_bnd H
          refine F_makeE (E := (Eint .i64)) rfl rfl rfl rfl rfl rfl Try.underlying22 info3 rfl (by decide) (by decide) g698 g699 HS695 h701 (fun w696 A702 c703 HS697 => ?_)
          have HS697 : Hp S0 w0 w696 [.rd A_freq_0 (rowC (Eint .i64) l_freq_0), .own A9 c10 (rowC (Eint .i64) z5) 3 (Eint .i64).sz, .own A442 c443 (rowC (Eint .i64) l444) 3 (Eint .i64).sz, .own A702 c703 (rowC (Eint .i64) l700) 3 (Eint .i64).sz] := HS697
          refine F_val rfl rfl rfl (O_assign rfl rfl) ?_
          refine F_nil ?_
          refine L_seq ?_
          refine L_seq ?_
          refine L_region ?_
          refine F_val rfl rfl rfl (O_move rfl rfl) ?_
          refine F_val rfl rfl rfl (O_len rfl rfl Try.underlying22) ?_
          refine F_val rfl rfl rfl (O_move rfl rfl) ?_
          refine F_nil ?_
          obtain ⟨yj705, Hyj705, H⟩ := of_bind H
          refine L_join (fun a w => ∃ (l1026 : List Int), yj705 = l1026 ∧ Is Try.f20.ntmps a [(17, .slice A702 l1026.length c703)] ∧ Hp S0 w0 w [.rd A_freq_0 (rowC (Eint .i64) l_freq_0), .own A702 c703 (rowC (Eint .i64) l1026) 3 (Eint .i64).sz]) (fun Qj705 hNj705 hOj705 => ?_) (fun a w hR => ?_)
          · skip
            have H := Hyj705
            refine L_blk (fun Qb1027 hNb1027 hXb1027 hOb1027 => ?_)
            refine L_lp (fun k a w => ∃ (l1239 : List Int), ∃ (t1240 : Int), Is Try.f20.ntmps a [(9, .slice A442 l444.length c443), (17, .slice A702 l1239.length c703), (96, .slice A9 z5.length c10), (97, .int .i64 (z5.length : Int)), (98, .int .i64 t1240)] ∧ Hp S0 w0 w [.rd A_freq_0 (rowC (Eint .i64) l_freq_0), .own A442 c443 (rowC (Eint .i64) l444) 3 (Eint .i64).sz, .own A702 c703 (rowC (Eint .i64) l1239) 3 (Eint .i64).sz, .own A9 c10 (rowC (Eint .i64) z5) 3 (Eint .i64).sz] ∧ build_Depths.l15 k l1239 t1240 z5 l444 = some yj705) FU (fun a ha => ⟨_, _, Is.cons ha (Is.cons ha (Is.cons ha (Is.cons ha (Is.cons ha (Is.nil ha) rfl) rfl) rfl) rfl) rfl, HS697.sel [0, 2, 3, 1] rfl, H⟩) (fun kp1238 a w1241 hI Qp1238 hNp1238 hOp1238 => ?_)
            obtain ⟨l1239, t1240, ha, HS1242, HAp1238⟩ := hI
            cases kp1238 with
            | zero => cases (show (none : Option _) = some _ from HAp1238)
            | succ kp1238 =>
              have H := (build_Depths.l15.eq_2 ..).symm.trans HAp1238
              refine wpLF_app ?_ ha
              refine L_seq ?_
              refine L_region ?_
              refine F_val rfl rfl rfl (O_lt rfl rfl rfl) ?_
              refine F_nil ?_
              refine L_seq ?_
              refine L_condP rfl (fun c1243 => ?_) (fun c1243 => ?_)
              · have H := of_pos H c1243
                refine L_skip ?_
                refine L_seq ?_
                refine L_blk (fun Q1244 hN1244 hX1244 hO1244 => ?_)
                refine L_seq ?_
                refine L_region ?_
                refine F_val rfl rfl rfl (O_move rfl rfl) ?_
                obtain ⟨⟨g1245, g1246⟩, H⟩ := of_gd H
                refine F_val rfl rfl rfl (O_idx rfl rfl rfl Try.underlying22 size3 g1245 g1246 (Cells.isA (HS1242.cells_own (i := 3) rfl) (rowC_ne (E := (Eint .i64)) g1245 g1246 (by decide)))) ?_
                refine F_val rfl rfl rfl (O_loadC rfl rfl flat3 (HS1242.cells_own (i := 3) rfl) (int_cell g1245 g1246)) ?_
                refine F_val rfl rfl rfl (O_assign rfl rfl) ?_
                obtain ⟨x1247, h1248, H⟩ := of_bnd H
                refine F_val rfl rfl rfl (O_assign' rfl rfl (congrArg (Value.int .i64) h1248)) ?_
                refine F_nil ?_
                refine L_seq ?_
                refine L_region ?_
                refine F_val rfl rfl rfl (O_move rfl rfl) ?_
                refine F_val rfl rfl rfl (O_assign rfl rfl) ?_
                refine F_nil ?_
                obtain ⟨yj1249, Hyj1249, H⟩ := of_bind H
                refine L_join (fun a w => ∃ (l1297 : List Int), yj1249 = l1297 ∧ Is Try.f20.ntmps a [(9, .slice A442 l444.length c443), (17, .slice A702 l1297.length c703), (96, .slice A9 z5.length c10), (97, .int .i64 (z5.length : Int)), (98, .int .i64 t1240)] ∧ Hp S0 w0 w [.rd A_freq_0 (rowC (Eint .i64) l_freq_0), .own A442 c443 (rowC (Eint .i64) l444) 3 (Eint .i64).sz, .own A702 c703 (rowC (Eint .i64) l1297) 3 (Eint .i64).sz, .own A9 c10 (rowC (Eint .i64) z5) 3 (Eint .i64).sz]) (fun Qj1249 hNj1249 hOj1249 => ?_) (fun a w hR => ?_)
                · skip
                  have H := Hyj1249
                  refine L_blk (fun Qb1298 hNb1298 hXb1298 hOb1298 => ?_)
                  refine L_lp (fun k a w => ∃ (l1328 : List Int), ∃ (at_1329 : Int), Is Try.f20.ntmps a [(9, .slice A442 l444.length c443), (17, .slice A702 l1328.length c703), (19, .int .i64 x1247), (20, .int .i64 at_1329), (96, .slice A9 z5.length c10), (97, .int .i64 (z5.length : Int)), (98, .int .i64 t1240)] ∧ Hp S0 w0 w [.rd A_freq_0 (rowC (Eint .i64) l_freq_0), .own A442 c443 (rowC (Eint .i64) l444) 3 (Eint .i64).sz, .own A702 c703 (rowC (Eint .i64) l1328) 3 (Eint .i64).sz, .own A9 c10 (rowC (Eint .i64) z5) 3 (Eint .i64).sz] ∧ build_Depths.l17 k l1328 at_1329 l444 x1247 = some yj1249) FU (fun a ha => ⟨_, _, Is.cons ha (Is.cons ha (Is.cons ha (Is.cons ha (Is.cons ha (Is.cons ha (Is.cons ha (Is.nil ha) rfl) rfl) rfl) rfl) rfl) rfl) rfl, HS1242.sel [0, 1, 2, 3] rfl, H⟩) (fun kp1327 a w1330 hI Qp1327 hNp1327 hOp1327 => ?_)
                  obtain ⟨l1328, at_1329, ha, HS1331, HAp1327⟩ := hI
                  cases kp1327 with
                  | zero => cases (show (none : Option _) = some _ from HAp1327)
                  | succ kp1327 =>
                    have H := (build_Depths.l17.eq_2 ..).symm.trans HAp1327
                    refine wpLF_app ?_ ha
                    refine L_seq ?_
                    refine L_seq ?_
                    refine L_region ?_
                    refine F_val rfl rfl rfl (O_move rfl rfl) ?_
                    refine F_val rfl rfl rfl (O_move rfl rfl) ?_
                    obtain ⟨⟨g1332, g1333⟩, H⟩ := of_gd H
                    refine F_val rfl rfl rfl (O_idx rfl rfl rfl Try.underlying22 size3 g1332 g1333 (Cells.isA (HS1331.cells_own (i := 1) rfl) (rowC_ne (E := (Eint .i64)) g1332 g1333 (by decide)))) ?_
                    refine F_val rfl rfl rfl (O_loadC rfl rfl flat3 (HS1331.cells_own (i := 1) rfl) (int_cell g1332 g1333)) ?_
                    refine F_val rfl rfl rfl (O_move rfl rfl) ?_
                    refine F_val rfl rfl rfl (O_ne rfl rfl rfl) ?_
                    refine F_nil ?_
                    refine L_condP rfl (fun c1334 => ?_) (fun c1334 => ?_)
                    · have H := of_pos H c1334
                      refine L_skip ?_
                      refine L_seq ?_
                      refine L_blk (fun Q1335 hN1335 hX1335 hO1335 => ?_)
                      refine L_region ?_
                      refine F_val rfl rfl rfl (O_move rfl rfl) ?_
                      refine F_val rfl rfl rfl (O_move rfl rfl) ?_
                      obtain ⟨⟨g1336, g1337⟩, H⟩ := of_gd H
                      refine F_val rfl rfl rfl (O_idx rfl rfl rfl Try.underlying22 size3 g1336 g1337 (Cells.isA (HS1331.cells_own (i := 2) rfl) (rowC_ne (E := (Eint .i64)) g1336 g1337 (by decide)))) ?_
                      refine F_val rfl rfl rfl (O_loadC rfl rfl flat3 (HS1331.cells_own (i := 2) rfl) (int_cell g1336 g1337)) ?_
                      refine F_val rfl rfl rfl (O_add rfl rfl rfl) ?_
                      refine F_val rfl rfl rfl (O_idx rfl rfl rfl Try.underlying22 size3 g1336 g1337 (Cells.isA (HS1331.cells_own (i := 2) rfl) (rowC_ne (E := (Eint .i64)) g1336 g1337 (by decide)))) ?_
                      obtain ⟨l1340, h1341, H⟩ := of_bnd H
                      refine F_setE (E := (Eint .i64)) (i := 2) (a := IntKind.i64.wrap ((rd l1328 x1247) + 1)) (q := x1247) rfl rfl rfl rfl rfl rfl size3 HS1331 rfl (by decide) g1336 g1337 h1341 (fun w1338 HS1339 => ?_)
                      have e1342 : l1328.length = l1340.length := by rw [← h1341, List.length_set]
                      refine F_know (i := 17) rfl (congrArg (fun n => Value.slice A702 n c703) e1342) ?_
                      have HS1339 : Hp S0 w0 w1338 [.rd A_freq_0 (rowC (Eint .i64) l_freq_0), .own A442 c443 (rowC (Eint .i64) l444) 3 (Eint .i64).sz, .own A702 c703 (rowC (Eint .i64) l1340) 3 (Eint .i64).sz, .own A9 c10 (rowC (Eint .i64) z5) 3 (Eint .i64).sz] := HS1339
                      refine F_nil ?_
                      refine L_endB hN1335 ?_
                      refine L_region ?_
                      refine F_val rfl rfl rfl (O_move rfl rfl) ?_
                      refine F_val rfl rfl rfl (O_move rfl rfl) ?_
                      refine F_val rfl rfl rfl (O_idx rfl rfl rfl Try.underlying22 size3 g1332 g1333 (Cells.isA (HS1339.cells_own (i := 1) rfl) (rowC_ne (E := (Eint .i64)) g1332 g1333 (by decide)))) ?_
                      refine F_val rfl rfl rfl (O_loadC rfl rfl flat3 (HS1339.cells_own (i := 1) rfl) (int_cell g1332 g1333)) ?_
                      obtain ⟨x1343, h1344, H⟩ := of_bnd H
                      refine F_val rfl rfl rfl (O_assign' rfl rfl (congrArg (Value.int .i64) h1344)) ?_
                      refine F_nil ?_
                      refine L_nil (fun a ha => hNp1327 _ a _ (Nat.lt_succ_self _) ⟨_, _, Is.cons ha (Is.cons ha (Is.cons ha (Is.cons ha (Is.cons ha (Is.cons ha (Is.cons ha (Is.nil ha) rfl) rfl) rfl) rfl) rfl) rfl) rfl, HS1339.sel [0, 1, 2, 3] rfl, H⟩)
                    · have H := of_neg H c1334
                      refine L_exitB (fun a w h => hOp1327 (.exit 6) a w rfl (hXb1298 a w h)) ?_
                      refine L_nil (fun a ha => hNj1249 a _ ⟨_, (Option.some.inj H).symm, Is.cons ha (Is.cons ha (Is.cons ha (Is.cons ha (Is.cons ha (Is.nil ha) rfl) rfl) rfl) rfl) rfl, HS1331.sel [0, 1, 2, 3] rfl⟩)
                · obtain ⟨l1297, ej, ha, HS1346⟩ := hR
                  obtain rfl := ej.symm
                  refine wpLF_app ?_ ha
                  refine L_endB hN1244 ?_
                  refine L_region ?_
                  refine F_val rfl rfl rfl (O_add rfl rfl rfl) ?_
                  refine F_val rfl rfl rfl (O_move rfl rfl) ?_
                  refine F_nil ?_
                  refine L_nil (fun a ha => hNp1238 _ a _ (Nat.lt_succ_self _) ⟨_, _, Is.cons ha (Is.cons ha (Is.cons ha (Is.cons ha (Is.cons ha (Is.nil ha) rfl) rfl) rfl) rfl) rfl, HS1346.sel [0, 1, 2, 3] rfl, H⟩)
              · have H := of_neg H c1243
                refine L_exitB (fun a w h => hOp1238 (.exit 4) a w rfl (hXb1027 a w h)) ?_
                refine L_nil (fun a ha => hNj705 a _ ⟨_, (Option.some.inj H).symm, Is.cons ha (Is.nil ha) rfl, HS1242.sel [0, 2] rfl⟩)
          · obtain ⟨l1026, ej, ha, HS1348⟩ := hR
            obtain rfl := ej.symm
            refine wpLF_app ?_ ha
            refine L_seq ?_
            refine L_region ?_
            refine F_val rfl rfl rfl (O_move rfl rfl) ?_
            refine F_val rfl rfl rfl (O_assign rfl rfl) ?_
            refine F_val rfl rfl rfl (O_assign rfl rfl) ?_
            refine F_nil ?_
            refine L_ret (fun a ha => (post_ret2 ha rfl rfl rfl ?_))
            obtain rfl := Option.some.inj H
            exact ⟨_, _, rfl, HS1348.sel [1] rfl⟩

/-! function 46: slices.Clone[[]int,int] -/
theorem slices_Clone_int_int.calls {S0 : Nat → Prop} {w0 : World} {A : Option Addr} {c : Nat} {l r : List Int} (HS0 : Hp S0 w0 w0 [.rd A (rowC (Eint .i64) l)]) (hc : l.length ≤ c) (h : slices_Clone_int_int.f l = some r) :
    Calls Try.prog 46 ([.slice A l.length c] : List Value).toArray w0 (fun e w => ∃ (A1 : Option Addr) (c1 : Nat), e = .returned (.slice A1 r.length c1) ∧ Hp S0 w0 w [.own A1 c1 (rowC (Eint .i64) r) 3 (Eint .i64).sz]) := by
  obtain ⟨g1, H⟩ := of_gd h
  obtain rfl := Option.some.inj H
  refine calls_start Try.func46 rfl rfl ?_
  refine L_seq ?_
  refine L_region ?_
  refine F_val rfl rfl rfl (O_assign rfl rfl) ?_
  refine F_nil ?_
  refine L_seq ?_
  refine L_seq ?_
  refine L_region ?_
  refine F_val rfl rfl rfl (O_move rfl rfl) ?_
  refine F_val rfl rfl rfl (O_sleqN rfl rfl rfl Try.underlying22) ?_
  refine F_nil ?_
  refine L_cond rfl (fun c1 => ?_) (fun c1 => ?_)
  · have hl : l = [] := nil_of_none (HS0.cells_rd (i := 0) rfl) c1
    subst hl
    refine L_seq ?_
    refine L_region ?_
    refine F_val rfl rfl rfl (O_assign rfl rfl) ?_
    refine F_nil ?_
    refine L_ret (fun a ha => post_ret1 ha rfl rfl ?_)
    exact ⟨none, 0, rfl, (HS0.addNil 3 (Eint .i64).sz).sel [1] rfl⟩
  · refine L_skip ?_
    refine L_seq ?_
    refine L_region ?_
    refine F_litE (E := (Eint .i64)) (e := 3) [] ([] : List Int) rfl rfl rfl rfl rfl rfl rfl (by decide) (fun w => by kernel_rfl) HS0 (fun w1 A1 c1 HS1 => ?_)
    refine F_val rfl rfl rfl (O_move rfl rfl) ?_
    refine F_appE (E := (Eint .i64)) (xs := ([] : List Int)) (ys := l) (i := 1) rfl rfl rfl rfl Try.underlying22 info3 rfl (by decide) (by decide) rfl rfl HS1 rfl (HS1.cells_rd (i := 0) rfl) (List.nil_append l) g1 (fun w2 A2 c2 HS2 => ?_)
    refine F_val rfl rfl rfl (O_assign rfl rfl) ?_
    refine F_nil ?_
    refine L_ret (fun a ha => post_ret1 ha rfl rfl ?_)
    exact ⟨_, _, rfl, HS2.sel [1] rfl⟩

/-! function 70: cmp.isNaN[int] -/
theorem cmp_isNaN_int.calls {S0 : Nat → Prop} {w0 : World} {x_0 : Int} {r : Bool} (HS0 : Hp S0 w0 w0 []) (h : cmp_isNaN_int.f x_0 = some r) :
    Calls Try.prog 70 ([.int .i64 x_0] : List Value).toArray w0 (fun e w => e = .returned (.bool r) ∧ Hp S0 w0 w []) := by
  have H : ((some (decide (x_0 ≠ x_0))) : Option (Bool)) = some r := h
  refine calls_start Try.func70 rfl rfl ?_
  refine L_seq ?_
  refine L_region ?_
  refine F_val rfl rfl rfl (O_assign rfl rfl) ?_
  refine F_nil ?_
  refine L_seq ?_
  refine L_region ?_
  refine F_val rfl rfl rfl (O_move rfl rfl) ?_
  refine F_val rfl rfl rfl (O_move rfl rfl) ?_
  refine F_val rfl rfl rfl (O_ne rfl rfl rfl) ?_
  refine F_val rfl rfl rfl (O_assign rfl rfl) ?_
  refine F_nil ?_
  refine L_ret (fun a ha => (post_ret1 ha rfl rfl ?_))
  obtain rfl := Option.some.inj H
  exact ⟨rfl, HS0.sel [] rfl⟩

/-! function 49: cmp.Compare[int] -/
theorem cmp_Compare_int.calls {S0 : Nat → Prop} {w0 : World} {x_0 : Int} {y_1 : Int} {r : Int} (HS0 : Hp S0 w0 w0 []) (h : cmp_Compare_int.f x_0 y_1 = some r) :
    Calls Try.prog 49 ([.int .i64 x_0, .int .i64 y_1] : List Value).toArray w0 (fun e w => e = .returned (.int .i64 r) ∧ Hp S0 w0 w []) := by
  have H : (((cmp_isNaN_int.f x_0).bind fun z3 => (cmp_isNaN_int.f y_1).bind fun z9 => if z3 = true then (if z9 = true then (some 0) else (some (-1))) else (if z9 = true then (some 1) else (if x_0 < y_1 then (some (-1)) else (if y_1 < x_0 then (some 1) else (some 0))))) : Option (Int)) = some r := h
  refine calls_start Try.func49 rfl rfl ?_
  refine L_seq ?_
  refine L_region ?_
  refine F_val rfl rfl rfl (O_assign rfl rfl) ?_
  refine F_nil ?_
  refine L_seq ?_
  refine L_region ?_
  refine F_val rfl rfl rfl (O_move rfl rfl) ?_
  obtain ⟨z3, h2, H⟩ := of_bind H
  refine F_qcall (v := .bool z3) (xs := [.tmp 7]) rfl rfl rfl rfl Try.func70 nm70 rfl rfl ((cmp_isNaN_int.calls (HS0.give [] rfl (Lent.nil)) h2).mono (fun e w hc => ?_)) (fun w4 hw5 => ?_)
  · obtain ⟨rfl, h⟩ := hc
    exact ⟨rfl, h.chg0⟩
  have HS6 := HS0.keep hw5
  refine F_val rfl rfl rfl (O_assign rfl rfl) ?_
  refine F_nil ?_
  refine L_seq ?_
  refine L_region ?_
  refine F_val rfl rfl rfl (O_move rfl rfl) ?_
  obtain ⟨z9, h8, H⟩ := of_bind H
  refine F_qcall (v := .bool z9) (xs := [.tmp 9]) rfl rfl rfl rfl Try.func70 nm70 rfl rfl ((cmp_isNaN_int.calls (HS6.give [] rfl (Lent.nil)) h8).mono (fun e w hc => ?_)) (fun w10 hw11 => ?_)
  · obtain ⟨rfl, h⟩ := hc
    exact ⟨rfl, h.chg0⟩
  have HS12 := HS6.keep hw11
  refine F_val rfl rfl rfl (O_assign rfl rfl) ?_
  refine F_nil ?_
  refine L_seq ?_
  refine L_seq ?_
  refine L_region ?_
  refine F_val rfl rfl rfl (O_move rfl rfl) ?_
  refine F_nil ?_
  refine L_cond rfl (fun c13 => ?_) (fun c13 => ?_)
  · have H := of_pos H c13
    refine L_seq ?_
    refine L_seq ?_
    refine L_region ?_
    refine F_val rfl rfl rfl (O_move rfl rfl) ?_
    refine F_nil ?_
    refine L_cond rfl (fun c14 => ?_) (fun c14 => ?_)
    · have H := of_pos H c14
      refine L_seq ?_
      refine L_region ?_
      refine F_val rfl rfl rfl (O_assign rfl rfl) ?_
      refine F_nil ?_
      refine L_ret (fun a ha => (post_ret1 ha rfl rfl ?_))
      obtain rfl := Option.some.inj H
      exact ⟨rfl, HS12.sel [] rfl⟩
    · have H := of_neg H (by rw [c14]; exact Bool.false_ne_true)
      refine L_skip ?_
      refine L_seq ?_
      refine L_region ?_
      refine F_val rfl rfl rfl (O_assign rfl rfl) ?_
      refine F_nil ?_
      refine L_ret (fun a ha => (post_ret1 ha rfl rfl ?_))
      obtain rfl := Option.some.inj H
      exact ⟨rfl, HS12.sel [] rfl⟩
  · have H := of_neg H (by rw [c13]; exact Bool.false_ne_true)
    refine L_skip ?_
    refine L_seq ?_
    refine L_seq ?_
    refine L_region ?_
    refine F_val rfl rfl rfl (O_move rfl rfl) ?_
    refine F_nil ?_
    refine L_cond rfl (fun c15 => ?_) (fun c15 => ?_)
    · have H := of_pos H c15
      refine L_seq ?_
      refine L_region ?_
      refine F_val rfl rfl rfl (O_assign rfl rfl) ?_
      refine F_nil ?_
      refine L_ret (fun a ha => (post_ret1 ha rfl rfl ?_))
      obtain rfl := Option.some.inj H
      exact ⟨rfl, HS12.sel [] rfl⟩
    · have H := of_neg H (by rw [c15]; exact Bool.false_ne_true)
      refine L_skip ?_
      refine L_seq ?_
      refine L_seq ?_
      refine L_region ?_
      refine F_val rfl rfl rfl (O_move rfl rfl) ?_
      refine F_val rfl rfl rfl (O_move rfl rfl) ?_
      refine F_val rfl rfl rfl (O_lt rfl rfl rfl) ?_
      refine F_nil ?_
      refine L_condP rfl (fun c16 => ?_) (fun c16 => ?_)
      · have H := of_pos H c16
        refine L_seq ?_
        refine L_region ?_
        refine F_val rfl rfl rfl (O_assign rfl rfl) ?_
        refine F_nil ?_
        refine L_ret (fun a ha => (post_ret1 ha rfl rfl ?_))
        obtain rfl := Option.some.inj H
        exact ⟨rfl, HS12.sel [] rfl⟩
      · have H := of_neg H c16
        refine L_skip ?_
        refine L_seq ?_
        refine L_seq ?_
        refine L_region ?_
        refine F_val rfl rfl rfl (O_move rfl rfl) ?_
        refine F_val rfl rfl rfl (O_move rfl rfl) ?_
        refine F_val rfl rfl rfl (O_gt rfl rfl rfl) ?_
        refine F_nil ?_
        refine L_condP rfl (fun c17 => ?_) (fun c17 => ?_)
        · have H := of_pos H c17
          refine L_seq ?_
          refine L_region ?_
          refine F_val rfl rfl rfl (O_assign rfl rfl) ?_
          refine F_nil ?_
          refine L_ret (fun a ha => (post_ret1 ha rfl rfl ?_))
          obtain rfl := Option.some.inj H
          exact ⟨rfl, HS12.sel [] rfl⟩
        · have H := of_neg H c17
          refine L_skip ?_
          refine L_seq ?_
          refine L_region ?_
          refine F_val rfl rfl rfl (O_assign rfl rfl) ?_
          refine F_nil ?_
          refine L_ret (fun a ha => (post_ret1 ha rfl rfl ?_))
          obtain rfl := Option.some.inj H
          exact ⟨rfl, HS12.sel [] rfl⟩

/-! function 48: valise/build.Limited$1 -/
theorem build_Limited_1.calls {S0 : Nat → Prop} {w0 : World} {g_cap0 : Nat} {A_cap0_v : Option Addr} {c_cap0_v : Nat} {a_0 : Int} {b_1 : Int} {cap0_v : List Int} {r : Int} (HS0 : Hp S0 w0 w0 [.rd (some ⟨g_cap0, 0, none⟩) [.slice A_cap0_v cap0_v.length c_cap0_v], .rd A_cap0_v (rowC (Eint .i64) cap0_v)]) (hc_r_cap0_v : cap0_v.length ≤ c_cap0_v) (h : build_Limited_1.f a_0 b_1 cap0_v = some r) :
    Calls Try.prog 48 ([.int .i64 a_0, .int .i64 b_1, .pointer (some ⟨g_cap0, 0, none⟩)] : List Value).toArray w0 (fun e w => e = .returned (.int .i64 r) ∧ Hp S0 w0 w []) := by
  have H : ((gd ((0 : Int) ≤ a_0 ∧ a_0 < (cap0_v.length : Int)) (gd ((0 : Int) ≤ b_1 ∧ b_1 < (cap0_v.length : Int)) ((cmp_Compare_int.f (rd cap0_v a_0) (rd cap0_v b_1)).bind fun z7 => some z7))) : Option (Int)) = some r := h
  refine calls_start Try.func48 rfl rfl ?_
  refine L_seq ?_
  refine L_region ?_
  refine F_val rfl rfl rfl (O_assign rfl rfl) ?_
  refine F_nil ?_
  refine L_seq ?_
  refine L_quiet mix (by kernel_rfl) ?_
  refine Q_val rfl rfl rfl (fun wq hq => O_loadB rfl rfl flat22 ((HS0.keep hq).cells_rd (i := 0) rfl) rfl) ?_
  refine Q_val rfl rfl rfl (fun wq hq => O_move rfl rfl) ?_
  obtain ⟨⟨g1, g2⟩, H⟩ := of_gd H
  refine Q_val rfl rfl rfl (fun wq hq => O_idx rfl rfl rfl Try.underlying22 size3 g1 g2 (Cells.isA ((HS0.keep hq).cells_rd (i := 1) rfl) (rowC_ne (E := (Eint .i64)) g1 g2 (by decide)))) ?_
  refine Q_val rfl rfl rfl (fun wq hq => O_loadC rfl rfl flat3 ((HS0.keep hq).cells_rd (i := 1) rfl) (int_cell g1 g2)) ?_
  refine Q_val rfl rfl rfl (fun wq hq => O_loadB rfl rfl flat22 ((HS0.keep hq).cells_rd (i := 0) rfl) rfl) ?_
  refine Q_val rfl rfl rfl (fun wq hq => O_move rfl rfl) ?_
  obtain ⟨⟨g3, g4⟩, H⟩ := of_gd H
  refine Q_val rfl rfl rfl (fun wq hq => O_idx rfl rfl rfl Try.underlying22 size3 g3 g4 (Cells.isA ((HS0.keep hq).cells_rd (i := 1) rfl) (rowC_ne (E := (Eint .i64)) g3 g4 (by decide)))) ?_
  refine Q_val rfl rfl rfl (fun wq hq => O_loadC rfl rfl flat3 ((HS0.keep hq).cells_rd (i := 1) rfl) (int_cell g3 g4)) ?_
  obtain ⟨z7, h6, H⟩ := of_bind H
  refine Q_call (v := .int .i64 z7) (xs := [.tmp 9, .tmp 13]) rfl rfl rfl rfl Try.func49 nm49 rfl rfl (fun wq hq => (cmp_Compare_int.calls ((HS0.keep hq).give [] rfl (Lent.nil)) h6).mono (fun e w hc => ?_)) ?_
  · obtain ⟨rfl, h⟩ := hc
    exact ⟨rfl, hq.trans h.chg0⟩
  refine Q_val rfl rfl rfl (fun wq hq => O_assign rfl rfl) ?_
  refine Q_nil (fun w8 hw9 => ?_)
  have HS10 := HS0.keep hw9
  refine L_ret (fun a ha => (post_ret1 ha rfl rfl ?_))
  obtain rfl := Option.some.inj H
  exact ⟨rfl, HS10.sel [] rfl⟩

/-! function 81: slices.insertionSortCmpFunc[int] -/
theorem slices_insertionSortCmpFunc_int_cbuild_Limited_1.calls {S0 : Nat → Prop} {w0 : World} {A_data_0 : Option Addr} {c_data_0 : Nat} {g_cmp_3_c0 : Nat} {A_cmp_3_c0_v : Option Addr} {c_cmp_3_c0_v : Nat} {l_data_0 : List Int} {a_1 : Int} {b_2 : Int} {cmp_3_c0_v : List Int} {r : List Int} (HS0 : Hp S0 w0 w0 [.own A_data_0 c_data_0 (rowC (Eint .i64) l_data_0) 3 (Eint .i64).sz, .rd (some ⟨g_cmp_3_c0, 0, none⟩) [.slice A_cmp_3_c0_v cmp_3_c0_v.length c_cmp_3_c0_v], .rd A_cmp_3_c0_v (rowC (Eint .i64) cmp_3_c0_v)]) (hc_r_cmp_3_c0_v : cmp_3_c0_v.length ≤ c_cmp_3_c0_v) (h : slices_insertionSortCmpFunc_int_cbuild_Limited_1.f l_data_0 a_1 b_2 cmp_3_c0_v = some r) :
    Calls Try.prog 81 ([.slice A_data_0 l_data_0.length c_data_0, .int .i64 a_1, .int .i64 b_2, .func (.func 48) #[] #[.pointer (some ⟨g_cmp_3_c0, 0, none⟩)]] : List Value).toArray w0 (fun e w => e = .returned (.tuple #[]) ∧ Hp S0 w0 w [.own A_data_0 c_data_0 (rowC (Eint .i64) r) 3 (Eint .i64).sz] ∧ r.length = l_data_0.length) := by
  have H : ((bnd (IntKind.i64.wrap (a_1 + 1)) fun x1 => (slices_insertionSortCmpFunc_int_cbuild_Limited_1.l11 FU l_data_0 x1 a_1 b_2 cmp_3_c0_v).bind fun l1218 => gd (l1218.length = l_data_0.length) (some l1218)) : Option (List Int)) = some r := h
  refine calls_start Try.func81 rfl rfl ?_
  refine L_seq ?_
  refine L_region ?_
  refine F_val rfl rfl rfl (O_move rfl rfl) ?_
  refine F_val rfl rfl rfl (O_add rfl rfl rfl) ?_
  obtain ⟨x1, h2, H⟩ := of_bnd H
  refine F_val rfl rfl rfl (O_assign' rfl rfl (congrArg (Value.int .i64) h2)) ?_
  refine F_nil ?_
  obtain ⟨yj3, Hyj3, H⟩ := of_bind H
  refine L_join (fun a w => ∃ (l1218 : List Int), yj3 = l1218 ∧ Is Try.f81.ntmps a [] ∧ Hp S0 w0 w [.own A_data_0 c_data_0 (rowC (Eint .i64) l1218) 3 (Eint .i64).sz, .rd (some ⟨g_cmp_3_c0, 0, none⟩) [.slice A_cmp_3_c0_v cmp_3_c0_v.length c_cmp_3_c0_v], .rd A_cmp_3_c0_v (rowC (Eint .i64) cmp_3_c0_v)]) (fun Qj3 hNj3 hOj3 => ?_) (fun a w hR => ?_)
  · skip
    have H := Hyj3
    refine L_blk (fun Qb1219 hNb1219 hXb1219 hOb1219 => ?_)
    refine L_lp (fun k a w => ∃ (l2027 : List Int), ∃ (i_2028 : Int), Is Try.f81.ntmps a [(0, .slice A_data_0 l2027.length c_data_0), (1, .int .i64 a_1), (2, .int .i64 b_2), (3, .func (.func 48) #[] #[.pointer (some ⟨g_cmp_3_c0, 0, none⟩)]), (8, .int .i64 i_2028)] ∧ Hp S0 w0 w [.own A_data_0 c_data_0 (rowC (Eint .i64) l2027) 3 (Eint .i64).sz, .rd (some ⟨g_cmp_3_c0, 0, none⟩) [.slice A_cmp_3_c0_v cmp_3_c0_v.length c_cmp_3_c0_v], .rd A_cmp_3_c0_v (rowC (Eint .i64) cmp_3_c0_v)] ∧ slices_insertionSortCmpFunc_int_cbuild_Limited_1.l11 k l2027 i_2028 a_1 b_2 cmp_3_c0_v = some yj3) FU (fun a ha => ⟨_, _, Is.cons ha (Is.cons ha (Is.cons ha (Is.cons ha (Is.cons ha (Is.nil ha) rfl) rfl) rfl) rfl) rfl, HS0.sel [0, 1, 2] rfl, H⟩) (fun kp2026 a w2029 hI Qp2026 hNp2026 hOp2026 => ?_)
    obtain ⟨l2027, i_2028, ha, HS2030, HAp2026⟩ := hI
    cases kp2026 with
    | zero => cases (show (none : Option _) = some _ from HAp2026)
    | succ kp2026 =>
      have H := (slices_insertionSortCmpFunc_int_cbuild_Limited_1.l11.eq_2 ..).symm.trans HAp2026
      refine wpLF_app ?_ ha
      refine L_seq ?_
      refine L_seq ?_
      refine L_region ?_
      refine F_val rfl rfl rfl (O_move rfl rfl) ?_
      refine F_val rfl rfl rfl (O_move rfl rfl) ?_
      refine F_val rfl rfl rfl (O_lt rfl rfl rfl) ?_
      refine F_nil ?_
      refine L_condP rfl (fun c2031 => ?_) (fun c2031 => ?_)
      · have H := of_pos H c2031
        refine L_skip ?_
        refine L_seq ?_
        refine L_blk (fun Q2032 hN2032 hX2032 hO2032 => ?_)
        refine L_seq ?_
        refine L_region ?_
        refine F_val rfl rfl rfl (O_move rfl rfl) ?_
        refine F_val rfl rfl rfl (O_assign rfl rfl) ?_
        refine F_nil ?_
        obtain ⟨yj2033, Hyj2033, H⟩ := of_bind H
        refine L_join (fun a w => ∃ (l2231 : List Int), yj2033 = l2231 ∧ Is Try.f81.ntmps a [(0, .slice A_data_0 l2231.length c_data_0), (1, .int .i64 a_1), (2, .int .i64 b_2), (3, .func (.func 48) #[] #[.pointer (some ⟨g_cmp_3_c0, 0, none⟩)]), (8, .int .i64 i_2028)] ∧ Hp S0 w0 w [.own A_data_0 c_data_0 (rowC (Eint .i64) l2231) 3 (Eint .i64).sz, .rd (some ⟨g_cmp_3_c0, 0, none⟩) [.slice A_cmp_3_c0_v cmp_3_c0_v.length c_cmp_3_c0_v], .rd A_cmp_3_c0_v (rowC (Eint .i64) cmp_3_c0_v)]) (fun Qj2033 hNj2033 hOj2033 => ?_) (fun a w hR => ?_)
        · skip
          have H := Hyj2033
          refine L_blk (fun Qb2232 hNb2232 hXb2232 hOb2232 => ?_)
          refine L_lp (fun k a w => ∃ (l2362 : List Int), ∃ (j_2363 : Int), Is Try.f81.ntmps a [(0, .slice A_data_0 l2362.length c_data_0), (1, .int .i64 a_1), (2, .int .i64 b_2), (3, .func (.func 48) #[] #[.pointer (some ⟨g_cmp_3_c0, 0, none⟩)]), (8, .int .i64 i_2028), (9, .int .i64 j_2363)] ∧ Hp S0 w0 w [.own A_data_0 c_data_0 (rowC (Eint .i64) l2362) 3 (Eint .i64).sz, .rd (some ⟨g_cmp_3_c0, 0, none⟩) [.slice A_cmp_3_c0_v cmp_3_c0_v.length c_cmp_3_c0_v], .rd A_cmp_3_c0_v (rowC (Eint .i64) cmp_3_c0_v)] ∧ slices_insertionSortCmpFunc_int_cbuild_Limited_1.l13 k l2362 j_2363 a_1 cmp_3_c0_v = some yj2033) FU (fun a ha => ⟨_, _, Is.cons ha (Is.cons ha (Is.cons ha (Is.cons ha (Is.cons ha (Is.cons ha (Is.nil ha) rfl) rfl) rfl) rfl) rfl) rfl, HS2030.sel [0, 1, 2] rfl, H⟩) (fun kp2361 a w2364 hI Qp2361 hNp2361 hOp2361 => ?_)
          obtain ⟨l2362, j_2363, ha, HS2365, HAp2361⟩ := hI
          cases kp2361 with
          | zero => cases (show (none : Option _) = some _ from HAp2361)
          | succ kp2361 =>
            have H := (slices_insertionSortCmpFunc_int_cbuild_Limited_1.l13.eq_2 ..).symm.trans HAp2361
            refine wpLF_app ?_ ha
            refine L_seq ?_
            refine L_seq ?_
            refine L_quiet mix (by kernel_rfl) ?_
            refine Q_val rfl rfl rfl (fun wq hq => O_move rfl rfl) ?_
            refine Q_val rfl rfl rfl (fun wq hq => O_move rfl rfl) ?_
            refine Q_val rfl rfl rfl (fun wq hq => O_gt rfl rfl rfl) ?_
            refine Q_val rfl rfl rfl (fun wq hq => O_move rfl rfl) ?_
            obtain ⟨b2373, Hb2373, H⟩ := of_bind H
            refine Q_grp 13 [(34, .bool b2373), (0, .slice A_data_0 l2362.length c_data_0), (1, .int .i64 a_1), (2, .int .i64 b_2), (3, .func (.func 48) #[] #[.pointer (some ⟨g_cmp_3_c0, 0, none⟩)]), (8, .int .i64 i_2028), (9, .int .i64 j_2363)] ?_ ?_
            · rcases Decidable.em (a_1 < j_2363) with c2377 | c2377
              · refine Q_know (i := 21) rfl (dec_t c2377) ?_
                have H := of_pos Hb2373 c2377
                refine Q_gval rfl rfl rfl rfl rfl rfl (fun wq hq => O_move rfl rfl) ?_
                refine Q_gval rfl rfl rfl rfl rfl rfl (fun wq hq => O_move rfl rfl) ?_
                refine Q_gval rfl rfl rfl rfl rfl rfl (fun wq hq => O_move rfl rfl) ?_
                obtain ⟨⟨g2378, g2379⟩, H⟩ := of_gd H
                refine Q_gval rfl rfl rfl rfl rfl rfl (fun wq hq => O_idx rfl rfl rfl Try.underlying22 size3 g2378 g2379 (Cells.isA ((HS2365.keep hq).cells_own (i := 0) rfl) (rowC_ne (E := (Eint .i64)) g2378 g2379 (by decide)))) ?_
                refine Q_gval rfl rfl rfl rfl rfl rfl (fun wq hq => O_loadC rfl rfl flat3 ((HS2365.keep hq).cells_own (i := 0) rfl) (int_cell g2378 g2379)) ?_
                refine Q_gval rfl rfl rfl rfl rfl rfl (fun wq hq => O_move rfl rfl) ?_
                refine Q_gval rfl rfl rfl rfl rfl rfl (fun wq hq => O_move rfl rfl) ?_
                refine Q_gval rfl rfl rfl rfl rfl rfl (fun wq hq => O_sub rfl rfl rfl) ?_
                obtain ⟨⟨g2380, g2381⟩, H⟩ := of_gd H
                refine Q_gval rfl rfl rfl rfl rfl rfl (fun wq hq => O_idx rfl rfl rfl Try.underlying22 size3 g2380 g2381 (Cells.isA ((HS2365.keep hq).cells_own (i := 0) rfl) (rowC_ne (E := (Eint .i64)) g2380 g2381 (by decide)))) ?_
                refine Q_gval rfl rfl rfl rfl rfl rfl (fun wq hq => O_loadC rfl rfl flat3 ((HS2365.keep hq).cells_own (i := 0) rfl) (int_cell g2380 g2381)) ?_
                obtain ⟨z2384, h2383, H⟩ := of_bind H
                refine Q_gcallV (v := .int .i64 z2384) (xs := [.tmp 26, .tmp 31]) (cv := [.pointer (some ⟨g_cmp_3_c0, 0, none⟩)]) rfl rfl rfl rfl rfl rfl rfl rfl Try.func48 nm48 rfl rfl rfl (fun wq hq => (build_Limited_1.calls ((HS2365.keep hq).give [] rfl (Lent.rd (HS2365.keep hq) (Lent.rd (HS2365.keep hq) (Lent.nil) (i := 2) rfl (((HS2365.keep hq).cells_rd (i := 2) rfl).self)) (i := 1) rfl ((HS2365.keep hq).cells_rd (i := 1) rfl).self)) hc_r_cmp_3_c0_v h2383).mono (fun e w hc => ?_)) ?_
                · obtain ⟨rfl, h⟩ := hc
                  exact ⟨rfl, hq.trans h.chg0⟩
                refine Q_gval rfl rfl rfl rfl rfl rfl (fun wq hq => O_lt rfl rfl rfl) ?_
                refine Q_val rfl rfl rfl (fun wq hq => O_pickT rfl rfl rfl) ?_
                refine Q_know (i := 34) rfl (congrArg Value.bool (Option.some.inj H)) ?_
                exact Q_grpE (fun a ha => Is.cons ha (Is.cons ha (Is.cons ha (Is.cons ha (Is.cons ha (Is.cons ha (Is.cons ha (Is.nil ha) rfl) rfl) rfl) rfl) rfl) rfl) rfl)
              · refine Q_know (i := 21) rfl (dec_f c2377) ?_
                have H := of_neg Hb2373 c2377
                refine Q_gskip rfl rfl rfl rfl rfl rfl rfl ?_
                refine Q_gskip rfl rfl rfl rfl rfl rfl rfl ?_
                refine Q_gskip rfl rfl rfl rfl rfl rfl rfl ?_
                refine Q_gskip rfl rfl rfl rfl rfl rfl rfl ?_
                refine Q_gskip rfl rfl rfl rfl rfl rfl rfl ?_
                refine Q_gskip rfl rfl rfl rfl rfl rfl rfl ?_
                refine Q_gskip rfl rfl rfl rfl rfl rfl rfl ?_
                refine Q_gskip rfl rfl rfl rfl rfl rfl rfl ?_
                refine Q_gskip rfl rfl rfl rfl rfl rfl rfl ?_
                refine Q_gskip rfl rfl rfl rfl rfl rfl rfl ?_
                refine Q_gskip rfl rfl rfl rfl rfl rfl rfl ?_
                refine Q_gskip rfl rfl rfl rfl rfl rfl rfl ?_
                refine Q_val rfl rfl rfl (fun wq hq => O_pickF rfl rfl rfl) ?_
                refine Q_know (i := 34) rfl (congrArg Value.bool (Option.some.inj H)) ?_
                exact Q_grpE (fun a ha => Is.cons ha (Is.cons ha (Is.cons ha (Is.cons ha (Is.cons ha (Is.cons ha (Is.cons ha (Is.nil ha) rfl) rfl) rfl) rfl) rfl) rfl) rfl)
            · skip
              refine Q_nil (fun w2385 hw2386 => ?_)
              have HS2387 := HS2365.keep hw2386
              refine L_cond rfl (fun c2388 => ?_) (fun c2388 => ?_)
              · have H := of_pos H c2388
                refine L_skip ?_
                refine L_seq ?_
                refine L_blk (fun Q2389 hN2389 hX2389 hO2389 => ?_)
                refine L_held2 17 1 [17] [15, 17] mix rfl (fun w2406 hw2407 => ?_)
                have HS2408 := HS2387.keep hw2407
                have HR2409 : Hp (HS2408.ft [0]) w2406 w2406 [.own A_data_0 c_data_0 (rowC (Eint .i64) l2362) 3 (Eint .i64).sz, .rd (some ⟨g_cmp_3_c0, 0, none⟩) [.slice A_cmp_3_c0_v cmp_3_c0_v.length c_cmp_3_c0_v], .rd A_cmp_3_c0_v (rowC (Eint .i64) cmp_3_c0_v)] := HS2408.give [0] rfl (Lent.rd HS2408 (Lent.rd HS2408 (Lent.nil) (i := 2) rfl (HS2408.cells_rd (i := 2) rfl).self) (i := 1) rfl (HS2408.cells_rd (i := 1) rfl).self)
                refine ⟨fun w => Hp (HS2408.ft [0]) w2406 w [.own A_data_0 c_data_0 (rowC (Eint .i64) l2362) 3 (Eint .i64).sz, .rd (some ⟨g_cmp_3_c0, 0, none⟩) [.slice A_cmp_3_c0_v cmp_3_c0_v.length c_cmp_3_c0_v], .rd A_cmp_3_c0_v (rowC (Eint .i64) cmp_3_c0_v)], HS2408.turns [0], ?_⟩
                refine H2_fval (i := 0) rfl (by kernel_rfl) (by kernel_rfl) (by kernel_rfl) (by kernel_rfl) (by kernel_rfl) rfl rfl rfl (SS_0 (by kernel_rfl) (HR2409.sel [0, 1, 2] rfl)) (fun wq => O_move rfl rfl) ?_
                refine H2_fval (i := 1) rfl (by kernel_rfl) (by kernel_rfl) (by kernel_rfl) (by kernel_rfl) (by kernel_rfl) rfl rfl rfl (SS_0 (by kernel_rfl) (HR2409.sel [0, 1, 2] rfl)) (fun wq => O_move rfl rfl) ?_
                refine H2_fval (i := 2) rfl (by kernel_rfl) (by kernel_rfl) (by kernel_rfl) (by kernel_rfl) (by kernel_rfl) rfl rfl rfl (SS_0 (by kernel_rfl) (HR2409.sel [0, 1, 2] rfl)) (fun wq => O_move rfl rfl) ?_
                refine H2_fval (i := 3) rfl (by kernel_rfl) (by kernel_rfl) (by kernel_rfl) (by kernel_rfl) (by kernel_rfl) rfl rfl rfl (SS_0 (by kernel_rfl) (HR2409.sel [0, 1, 2] rfl)) (fun wq => O_move rfl rfl) ?_
                refine H2_fval (i := 4) rfl (by kernel_rfl) (by kernel_rfl) (by kernel_rfl) (by kernel_rfl) (by kernel_rfl) rfl rfl rfl (SS_0 (by kernel_rfl) (HR2409.sel [0, 1, 2] rfl)) (fun wq => O_sub rfl rfl rfl) ?_
                refine H2_fval (i := 5) rfl (by kernel_rfl) (by kernel_rfl) (by kernel_rfl) (by kernel_rfl) (by kernel_rfl) rfl rfl rfl (SS_0 (by kernel_rfl) (HR2409.sel [0, 1, 2] rfl)) (fun wq => O_move rfl rfl) ?_
                refine H2_fval (i := 6) rfl (by kernel_rfl) (by kernel_rfl) (by kernel_rfl) (by kernel_rfl) (by kernel_rfl) rfl rfl rfl (SS_0 (by kernel_rfl) (HR2409.sel [0, 1, 2] rfl)) (fun wq => O_move rfl rfl) ?_
                refine H2_fval (i := 7) rfl (by kernel_rfl) (by kernel_rfl) (by kernel_rfl) (by kernel_rfl) (by kernel_rfl) rfl rfl rfl (SS_0 (by kernel_rfl) (HR2409.sel [0, 1, 2] rfl)) (fun wq => O_sub rfl rfl rfl) ?_
                obtain ⟨⟨g2410, g2411⟩, H⟩ := of_gd H
                refine H2_fval (i := 8) rfl (by kernel_rfl) (by kernel_rfl) (by kernel_rfl) (by kernel_rfl) (by kernel_rfl) rfl rfl rfl (SS_0 (by kernel_rfl) (HR2409.sel [0, 1, 2] rfl)) (fun wq => O_idx rfl rfl rfl Try.underlying22 size3 g2410 g2411 (Cells.isA (HR2409.cells_own (i := 0) rfl) (rowC_ne (E := (Eint .i64)) g2410 g2411 (by decide)))) ?_
                refine H2_val (i := 9) [14, 15, 16, 17] rfl (by kernel_rfl) (by kernel_rfl) (by kernel_rfl) (by kernel_rfl) (by kernel_rfl) (by kernel_rfl) (by kernel_rfl) (by kernel_rfl) rfl rfl rfl (HR2409.sel [0, 1, 2] rfl) (fun wq hq => O_loadC rfl rfl flat3 (hq.cells_own (i := 0) rfl) (int_cell g2410 g2411)) ?_
                refine H2_fval (i := 10) rfl (by kernel_rfl) (by kernel_rfl) (by kernel_rfl) (by kernel_rfl) (by kernel_rfl) rfl rfl rfl (SS_0 (by kernel_rfl) (HR2409.sel [0, 1, 2] rfl)) (fun wq => O_move rfl rfl) ?_
                refine H2_fval (i := 11) rfl (by kernel_rfl) (by kernel_rfl) (by kernel_rfl) (by kernel_rfl) (by kernel_rfl) rfl rfl rfl (SS_0 (by kernel_rfl) (HR2409.sel [0, 1, 2] rfl)) (fun wq => O_move rfl rfl) ?_
                obtain ⟨⟨g2412, g2413⟩, H⟩ := of_gd H
                refine H2_fval (i := 12) rfl (by kernel_rfl) (by kernel_rfl) (by kernel_rfl) (by kernel_rfl) (by kernel_rfl) rfl rfl rfl (SS_0 (by kernel_rfl) (HR2409.sel [0, 1, 2] rfl)) (fun wq => O_idx rfl rfl rfl Try.underlying22 size3 g2412 g2413 (Cells.isA (HR2409.cells_own (i := 0) rfl) (rowC_ne (E := (Eint .i64)) g2412 g2413 (by decide)))) ?_
                refine H2_val (i := 13) [14, 15, 16, 17] rfl (by kernel_rfl) (by kernel_rfl) (by kernel_rfl) (by kernel_rfl) (by kernel_rfl) (by kernel_rfl) (by kernel_rfl) (by kernel_rfl) rfl rfl rfl (HR2409.sel [0, 1, 2] rfl) (fun wq hq => O_loadC rfl rfl flat3 (hq.cells_own (i := 0) rfl) (int_cell g2412 g2413)) ?_
                refine H2_fval (i := 14) rfl (by kernel_rfl) (by kernel_rfl) (by kernel_rfl) (by kernel_rfl) (by kernel_rfl) rfl rfl rfl (SS_0 (by kernel_rfl) (HR2409.sel [0, 1, 2] rfl)) (fun wq => O_idx rfl rfl rfl Try.underlying22 size3 g2412 g2413 (Cells.isA (HR2409.cells_own (i := 0) rfl) (rowC_ne (E := (Eint .i64)) g2412 g2413 (by decide)))) ?_
                refine H2_one (i := 15) rfl (by kernel_rfl) (by kernel_rfl) ?_
                obtain ⟨l2416, h2417, H⟩ := of_bnd H
                refine F_setE (E := (Eint .i64)) (i := 0) (a := rd l2362 (IntKind.i64.wrap (j_2363 - 1))) (q := j_2363) rfl rfl rfl rfl rfl rfl size3 HR2409 rfl (by decide) g2412 g2413 h2417 (fun w2414 HS2415 => ?_)
                have e2418 : l2362.length = l2416.length := by rw [← h2417, List.length_set]
                refine F_know (i := 0) rfl (congrArg (fun n => Value.slice A_data_0 n c_data_0) e2418) ?_
                refine F_know (i := 37) rfl (congrArg (fun n => Value.slice A_data_0 n c_data_0) e2418) ?_
                refine F_know (i := 39) rfl (congrArg (fun n => Value.slice A_data_0 n c_data_0) e2418) ?_
                refine F_know (i := 42) rfl (congrArg (fun n => Value.slice A_data_0 n c_data_0) e2418) ?_
                refine F_know (i := 47) rfl (congrArg (fun n => Value.slice A_data_0 n c_data_0) e2418) ?_
                have HS2415 : Hp (HS2408.ft [0]) w2406 w2414 [.own A_data_0 c_data_0 (rowC (Eint .i64) l2416) 3 (Eint .i64).sz, .rd (some ⟨g_cmp_3_c0, 0, none⟩) [.slice A_cmp_3_c0_v cmp_3_c0_v.length c_cmp_3_c0_v], .rd A_cmp_3_c0_v (rowC (Eint .i64) cmp_3_c0_v)] := HS2415
                refine H2_next (SS_1 (by kernel_rfl) HS2415.chg) ?_
                obtain ⟨⟨g2419, g2420⟩, H⟩ := of_gd H
                refine H2_fval (i := 16) rfl (by kernel_rfl) (by kernel_rfl) (by kernel_rfl) (by kernel_rfl) (by kernel_rfl) rfl rfl rfl (SS_1 (by kernel_rfl) HS2415.chg) (fun wq => O_idx rfl rfl rfl Try.underlying22 size3 g2419 g2420 (Cells.isA (HS2415.cells_own (i := 0) rfl) (rowC_ne (E := (Eint .i64)) g2419 g2420 (by decide)))) ?_
                refine H2_end (by kernel_rfl) ?_
                have HS2421 : Hp S0 w0 w2414 [.own A_data_0 c_data_0 (rowC (Eint .i64) l2416) 3 (Eint .i64).sz, .rd (some ⟨g_cmp_3_c0, 0, none⟩) [.slice A_cmp_3_c0_v cmp_3_c0_v.length c_cmp_3_c0_v], .rd A_cmp_3_c0_v (rowC (Eint .i64) cmp_3_c0_v)] := (HS2408.back [0] (HS2415.sel [0] rfl) rfl).sel [3, 1, 2] rfl
                refine T_one (i := 17) rfl (by kernel_rfl) ?_
                obtain ⟨l2424, h2425, H⟩ := of_bnd H
                refine F_setE (E := (Eint .i64)) (i := 0) (a := rd l2362 j_2363) (q := IntKind.i64.wrap (j_2363 - 1)) rfl rfl rfl rfl rfl rfl size3 HS2421 rfl (by decide) g2419 g2420 h2425 (fun w2422 HS2423 => ?_)
                have e2426 : l2416.length = l2424.length := by rw [← h2425, List.length_set]
                refine F_know (i := 0) rfl (congrArg (fun n => Value.slice A_data_0 n c_data_0) e2426) ?_
                refine F_know (i := 37) rfl (congrArg (fun n => Value.slice A_data_0 n c_data_0) e2426) ?_
                refine F_know (i := 39) rfl (congrArg (fun n => Value.slice A_data_0 n c_data_0) e2426) ?_
                refine F_know (i := 42) rfl (congrArg (fun n => Value.slice A_data_0 n c_data_0) e2426) ?_
                refine F_know (i := 47) rfl (congrArg (fun n => Value.slice A_data_0 n c_data_0) e2426) ?_
                have HS2423 : Hp S0 w0 w2422 [.own A_data_0 c_data_0 (rowC (Eint .i64) l2424) 3 (Eint .i64).sz, .rd (some ⟨g_cmp_3_c0, 0, none⟩) [.slice A_cmp_3_c0_v cmp_3_c0_v.length c_cmp_3_c0_v], .rd A_cmp_3_c0_v (rowC (Eint .i64) cmp_3_c0_v)] := HS2423
                refine T_next ?_
                refine T_done (by kernel_rfl) ?_
                refine L_endB hN2389 ?_
                refine L_region ?_
                refine F_val rfl rfl rfl (O_move rfl rfl) ?_
                refine F_val rfl rfl rfl (O_sub rfl rfl rfl) ?_
                obtain ⟨x2427, h2428, H⟩ := of_bnd H
                refine F_val rfl rfl rfl (O_assign' rfl rfl (congrArg (Value.int .i64) h2428)) ?_
                refine F_nil ?_
                refine L_nil (fun a ha => hNp2361 _ a _ (Nat.lt_succ_self _) ⟨_, _, Is.cons ha (Is.cons ha (Is.cons ha (Is.cons ha (Is.cons ha (Is.cons ha (Is.nil ha) rfl) rfl) rfl) rfl) rfl) rfl, HS2423.sel [0, 1, 2] rfl, H⟩)
              · have H := of_neg H (by rw [c2388]; exact Bool.false_ne_true)
                refine L_exitB (fun a w h => hOp2361 (.exit 2) a w rfl (hXb2232 a w h)) ?_
                refine L_nil (fun a ha => hNj2033 a _ ⟨_, (Option.some.inj H).symm, Is.cons ha (Is.cons ha (Is.cons ha (Is.cons ha (Is.cons ha (Is.nil ha) rfl) rfl) rfl) rfl) rfl, HS2387.sel [0, 1, 2] rfl⟩)
        · obtain ⟨l2231, ej, ha, HS2430⟩ := hR
          obtain rfl := ej.symm
          refine wpLF_app ?_ ha
          refine L_endB hN2032 ?_
          refine L_region ?_
          refine F_val rfl rfl rfl (O_move rfl rfl) ?_
          refine F_val rfl rfl rfl (O_add rfl rfl rfl) ?_
          obtain ⟨x2431, h2432, H⟩ := of_bnd H
          refine F_val rfl rfl rfl (O_assign' rfl rfl (congrArg (Value.int .i64) h2432)) ?_
          refine F_nil ?_
          refine L_nil (fun a ha => hNp2026 _ a _ (Nat.lt_succ_self _) ⟨_, _, Is.cons ha (Is.cons ha (Is.cons ha (Is.cons ha (Is.cons ha (Is.nil ha) rfl) rfl) rfl) rfl) rfl, HS2430.sel [0, 1, 2] rfl, H⟩)
      · have H := of_neg H c2031
        refine L_exitB (fun a w h => hOp2026 (.exit 0) a w rfl (hXb1219 a w h)) ?_
        refine L_nil (fun a ha => hNj3 a _ ⟨_, (Option.some.inj H).symm, Is.nil ha, HS2030.sel [0, 1, 2] rfl⟩)
  · obtain ⟨l1218, ej, ha, HS2434⟩ := hR
    obtain rfl := ej.symm
    refine wpLF_app ?_ ha
    obtain ⟨g2435, H⟩ := of_gd H
    refine L_nil (fun a ha => (post_end0 ha rfl ?_))
    obtain rfl := Option.some.inj H
    exact ⟨rfl, HS2434.sel [0] rfl, g2435⟩

/-! function 89: slices.swapRangeCmpFunc[int] -/
theorem slices_swapRangeCmpFunc_int_cbuild_Limited_1.calls {S0 : Nat → Prop} {w0 : World} {A_data_0 : Option Addr} {c_data_0 : Nat} {g_cmp_4_c0 : Nat} {A_cmp_4_c0_v : Option Addr} {c_cmp_4_c0_v : Nat} {l_data_0 : List Int} {a_1 : Int} {b_2 : Int} {n_3 : Int} {cmp_4_c0_v : List Int} {r : List Int} (HS0 : Hp S0 w0 w0 [.own A_data_0 c_data_0 (rowC (Eint .i64) l_data_0) 3 (Eint .i64).sz, .rd (some ⟨g_cmp_4_c0, 0, none⟩) [.slice A_cmp_4_c0_v cmp_4_c0_v.length c_cmp_4_c0_v], .rd A_cmp_4_c0_v (rowC (Eint .i64) cmp_4_c0_v)]) (hc_r_cmp_4_c0_v : cmp_4_c0_v.length ≤ c_cmp_4_c0_v) (h : slices_swapRangeCmpFunc_int_cbuild_Limited_1.f l_data_0 a_1 b_2 n_3 cmp_4_c0_v = some r) :
    Calls Try.prog 89 ([.slice A_data_0 l_data_0.length c_data_0, .int .i64 a_1, .int .i64 b_2, .int .i64 n_3, .func (.func 48) #[] #[.pointer (some ⟨g_cmp_4_c0, 0, none⟩)]] : List Value).toArray w0 (fun e w => e = .returned (.tuple #[]) ∧ Hp S0 w0 w [.own A_data_0 c_data_0 (rowC (Eint .i64) r) 3 (Eint .i64).sz] ∧ r.length = l_data_0.length) := by
  have H : (((slices_swapRangeCmpFunc_int_cbuild_Limited_1.l1 FU l_data_0 0 a_1 b_2 n_3).bind fun l133 => gd (l133.length = l_data_0.length) (some l133)) : Option (List Int)) = some r := h
  refine calls_start Try.func89 rfl rfl ?_
  refine L_seq ?_
  refine L_region ?_
  refine F_val rfl rfl rfl (O_assign rfl rfl) ?_
  refine F_nil ?_
  obtain ⟨yj1, Hyj1, H⟩ := of_bind H
  refine L_join (fun a w => ∃ (l133 : List Int), yj1 = l133 ∧ Is Try.f89.ntmps a [] ∧ Hp S0 w0 w [.own A_data_0 c_data_0 (rowC (Eint .i64) l133) 3 (Eint .i64).sz, .rd (some ⟨g_cmp_4_c0, 0, none⟩) [.slice A_cmp_4_c0_v cmp_4_c0_v.length c_cmp_4_c0_v], .rd A_cmp_4_c0_v (rowC (Eint .i64) cmp_4_c0_v)]) (fun Qj1 hNj1 hOj1 => ?_) (fun a w hR => ?_)
  · skip
    have H := Hyj1
    refine L_blk (fun Qb134 hNb134 hXb134 hOb134 => ?_)
    refine L_lp (fun k a w => ∃ (l220 : List Int), ∃ (i_221 : Int), Is Try.f89.ntmps a [(0, .slice A_data_0 l220.length c_data_0), (1, .int .i64 a_1), (2, .int .i64 b_2), (3, .int .i64 n_3), (10, .int .i64 i_221)] ∧ Hp S0 w0 w [.own A_data_0 c_data_0 (rowC (Eint .i64) l220) 3 (Eint .i64).sz, .rd (some ⟨g_cmp_4_c0, 0, none⟩) [.slice A_cmp_4_c0_v cmp_4_c0_v.length c_cmp_4_c0_v], .rd A_cmp_4_c0_v (rowC (Eint .i64) cmp_4_c0_v)] ∧ slices_swapRangeCmpFunc_int_cbuild_Limited_1.l1 k l220 i_221 a_1 b_2 n_3 = some yj1) FU (fun a ha => ⟨_, _, Is.cons ha (Is.cons ha (Is.cons ha (Is.cons ha (Is.cons ha (Is.nil ha) rfl) rfl) rfl) rfl) rfl, HS0.sel [0, 1, 2] rfl, H⟩) (fun kp219 a w222 hI Qp219 hNp219 hOp219 => ?_)
    obtain ⟨l220, i_221, ha, HS223, HAp219⟩ := hI
    cases kp219 with
    | zero => cases (show (none : Option _) = some _ from HAp219)
    | succ kp219 =>
      have H := (slices_swapRangeCmpFunc_int_cbuild_Limited_1.l1.eq_2 ..).symm.trans HAp219
      refine wpLF_app ?_ ha
      refine L_seq ?_
      refine L_seq ?_
      refine L_region ?_
      refine F_val rfl rfl rfl (O_move rfl rfl) ?_
      refine F_val rfl rfl rfl (O_move rfl rfl) ?_
      refine F_val rfl rfl rfl (O_lt rfl rfl rfl) ?_
      refine F_nil ?_
      refine L_condP rfl (fun c224 => ?_) (fun c224 => ?_)
      · have H := of_pos H c224
        refine L_skip ?_
        refine L_seq ?_
        refine L_blk (fun Q225 hN225 hX225 hO225 => ?_)
        refine L_held2 23 1 [23] [21, 23] mix rfl (fun w242 hw243 => ?_)
        have HS244 := HS223.keep hw243
        have HR245 : Hp (HS244.ft [0]) w242 w242 [.own A_data_0 c_data_0 (rowC (Eint .i64) l220) 3 (Eint .i64).sz, .rd (some ⟨g_cmp_4_c0, 0, none⟩) [.slice A_cmp_4_c0_v cmp_4_c0_v.length c_cmp_4_c0_v], .rd A_cmp_4_c0_v (rowC (Eint .i64) cmp_4_c0_v)] := HS244.give [0] rfl (Lent.rd HS244 (Lent.rd HS244 (Lent.nil) (i := 2) rfl (HS244.cells_rd (i := 2) rfl).self) (i := 1) rfl (HS244.cells_rd (i := 1) rfl).self)
        refine ⟨fun w => Hp (HS244.ft [0]) w242 w [.own A_data_0 c_data_0 (rowC (Eint .i64) l220) 3 (Eint .i64).sz, .rd (some ⟨g_cmp_4_c0, 0, none⟩) [.slice A_cmp_4_c0_v cmp_4_c0_v.length c_cmp_4_c0_v], .rd A_cmp_4_c0_v (rowC (Eint .i64) cmp_4_c0_v)], HS244.turns [0], ?_⟩
        refine H2_fval (i := 0) rfl (by kernel_rfl) (by kernel_rfl) (by kernel_rfl) (by kernel_rfl) (by kernel_rfl) rfl rfl rfl (SS_0 (by kernel_rfl) (HR245.sel [0, 1, 2] rfl)) (fun wq => O_move rfl rfl) ?_
        refine H2_fval (i := 1) rfl (by kernel_rfl) (by kernel_rfl) (by kernel_rfl) (by kernel_rfl) (by kernel_rfl) rfl rfl rfl (SS_0 (by kernel_rfl) (HR245.sel [0, 1, 2] rfl)) (fun wq => O_move rfl rfl) ?_
        refine H2_fval (i := 2) rfl (by kernel_rfl) (by kernel_rfl) (by kernel_rfl) (by kernel_rfl) (by kernel_rfl) rfl rfl rfl (SS_0 (by kernel_rfl) (HR245.sel [0, 1, 2] rfl)) (fun wq => O_move rfl rfl) ?_
        refine H2_fval (i := 3) rfl (by kernel_rfl) (by kernel_rfl) (by kernel_rfl) (by kernel_rfl) (by kernel_rfl) rfl rfl rfl (SS_0 (by kernel_rfl) (HR245.sel [0, 1, 2] rfl)) (fun wq => O_add rfl rfl rfl) ?_
        refine H2_fval (i := 4) rfl (by kernel_rfl) (by kernel_rfl) (by kernel_rfl) (by kernel_rfl) (by kernel_rfl) rfl rfl rfl (SS_0 (by kernel_rfl) (HR245.sel [0, 1, 2] rfl)) (fun wq => O_move rfl rfl) ?_
        refine H2_fval (i := 5) rfl (by kernel_rfl) (by kernel_rfl) (by kernel_rfl) (by kernel_rfl) (by kernel_rfl) rfl rfl rfl (SS_0 (by kernel_rfl) (HR245.sel [0, 1, 2] rfl)) (fun wq => O_move rfl rfl) ?_
        refine H2_fval (i := 6) rfl (by kernel_rfl) (by kernel_rfl) (by kernel_rfl) (by kernel_rfl) (by kernel_rfl) rfl rfl rfl (SS_0 (by kernel_rfl) (HR245.sel [0, 1, 2] rfl)) (fun wq => O_move rfl rfl) ?_
        refine H2_fval (i := 7) rfl (by kernel_rfl) (by kernel_rfl) (by kernel_rfl) (by kernel_rfl) (by kernel_rfl) rfl rfl rfl (SS_0 (by kernel_rfl) (HR245.sel [0, 1, 2] rfl)) (fun wq => O_add rfl rfl rfl) ?_
        refine H2_fval (i := 8) rfl (by kernel_rfl) (by kernel_rfl) (by kernel_rfl) (by kernel_rfl) (by kernel_rfl) rfl rfl rfl (SS_0 (by kernel_rfl) (HR245.sel [0, 1, 2] rfl)) (fun wq => O_move rfl rfl) ?_
        refine H2_fval (i := 9) rfl (by kernel_rfl) (by kernel_rfl) (by kernel_rfl) (by kernel_rfl) (by kernel_rfl) rfl rfl rfl (SS_0 (by kernel_rfl) (HR245.sel [0, 1, 2] rfl)) (fun wq => O_move rfl rfl) ?_
        refine H2_fval (i := 10) rfl (by kernel_rfl) (by kernel_rfl) (by kernel_rfl) (by kernel_rfl) (by kernel_rfl) rfl rfl rfl (SS_0 (by kernel_rfl) (HR245.sel [0, 1, 2] rfl)) (fun wq => O_move rfl rfl) ?_
        refine H2_fval (i := 11) rfl (by kernel_rfl) (by kernel_rfl) (by kernel_rfl) (by kernel_rfl) (by kernel_rfl) rfl rfl rfl (SS_0 (by kernel_rfl) (HR245.sel [0, 1, 2] rfl)) (fun wq => O_add rfl rfl rfl) ?_
        obtain ⟨⟨g246, g247⟩, H⟩ := of_gd H
        refine H2_fval (i := 12) rfl (by kernel_rfl) (by kernel_rfl) (by kernel_rfl) (by kernel_rfl) (by kernel_rfl) rfl rfl rfl (SS_0 (by kernel_rfl) (HR245.sel [0, 1, 2] rfl)) (fun wq => O_idx rfl rfl rfl Try.underlying22 size3 g246 g247 (Cells.isA (HR245.cells_own (i := 0) rfl) (rowC_ne (E := (Eint .i64)) g246 g247 (by decide)))) ?_
        refine H2_val (i := 13) [20, 21, 22, 23] rfl (by kernel_rfl) (by kernel_rfl) (by kernel_rfl) (by kernel_rfl) (by kernel_rfl) (by kernel_rfl) (by kernel_rfl) (by kernel_rfl) rfl rfl rfl (HR245.sel [0, 1, 2] rfl) (fun wq hq => O_loadC rfl rfl flat3 (hq.cells_own (i := 0) rfl) (int_cell g246 g247)) ?_
        refine H2_fval (i := 14) rfl (by kernel_rfl) (by kernel_rfl) (by kernel_rfl) (by kernel_rfl) (by kernel_rfl) rfl rfl rfl (SS_0 (by kernel_rfl) (HR245.sel [0, 1, 2] rfl)) (fun wq => O_move rfl rfl) ?_
        refine H2_fval (i := 15) rfl (by kernel_rfl) (by kernel_rfl) (by kernel_rfl) (by kernel_rfl) (by kernel_rfl) rfl rfl rfl (SS_0 (by kernel_rfl) (HR245.sel [0, 1, 2] rfl)) (fun wq => O_move rfl rfl) ?_
        refine H2_fval (i := 16) rfl (by kernel_rfl) (by kernel_rfl) (by kernel_rfl) (by kernel_rfl) (by kernel_rfl) rfl rfl rfl (SS_0 (by kernel_rfl) (HR245.sel [0, 1, 2] rfl)) (fun wq => O_move rfl rfl) ?_
        refine H2_fval (i := 17) rfl (by kernel_rfl) (by kernel_rfl) (by kernel_rfl) (by kernel_rfl) (by kernel_rfl) rfl rfl rfl (SS_0 (by kernel_rfl) (HR245.sel [0, 1, 2] rfl)) (fun wq => O_add rfl rfl rfl) ?_
        obtain ⟨⟨g248, g249⟩, H⟩ := of_gd H
        refine H2_fval (i := 18) rfl (by kernel_rfl) (by kernel_rfl) (by kernel_rfl) (by kernel_rfl) (by kernel_rfl) rfl rfl rfl (SS_0 (by kernel_rfl) (HR245.sel [0, 1, 2] rfl)) (fun wq => O_idx rfl rfl rfl Try.underlying22 size3 g248 g249 (Cells.isA (HR245.cells_own (i := 0) rfl) (rowC_ne (E := (Eint .i64)) g248 g249 (by decide)))) ?_
        refine H2_val (i := 19) [20, 21, 22, 23] rfl (by kernel_rfl) (by kernel_rfl) (by kernel_rfl) (by kernel_rfl) (by kernel_rfl) (by kernel_rfl) (by kernel_rfl) (by kernel_rfl) rfl rfl rfl (HR245.sel [0, 1, 2] rfl) (fun wq hq => O_loadC rfl rfl flat3 (hq.cells_own (i := 0) rfl) (int_cell g248 g249)) ?_
        refine H2_fval (i := 20) rfl (by kernel_rfl) (by kernel_rfl) (by kernel_rfl) (by kernel_rfl) (by kernel_rfl) rfl rfl rfl (SS_0 (by kernel_rfl) (HR245.sel [0, 1, 2] rfl)) (fun wq => O_idx rfl rfl rfl Try.underlying22 size3 g248 g249 (Cells.isA (HR245.cells_own (i := 0) rfl) (rowC_ne (E := (Eint .i64)) g248 g249 (by decide)))) ?_
        refine H2_one (i := 21) rfl (by kernel_rfl) (by kernel_rfl) ?_
        obtain ⟨l252, h253, H⟩ := of_bnd H
        refine F_setE (E := (Eint .i64)) (i := 0) (a := rd l220 (IntKind.i64.wrap (b_2 + i_221))) (q := IntKind.i64.wrap (a_1 + i_221)) rfl rfl rfl rfl rfl rfl size3 HR245 rfl (by decide) g248 g249 h253 (fun w250 HS251 => ?_)
        have e254 : l220.length = l252.length := by rw [← h253, List.length_set]
        refine F_know (i := 0) rfl (congrArg (fun n => Value.slice A_data_0 n c_data_0) e254) ?_
        refine F_know (i := 16) rfl (congrArg (fun n => Value.slice A_data_0 n c_data_0) e254) ?_
        refine F_know (i := 20) rfl (congrArg (fun n => Value.slice A_data_0 n c_data_0) e254) ?_
        refine F_know (i := 24) rfl (congrArg (fun n => Value.slice A_data_0 n c_data_0) e254) ?_
        refine F_know (i := 30) rfl (congrArg (fun n => Value.slice A_data_0 n c_data_0) e254) ?_
        have HS251 : Hp (HS244.ft [0]) w242 w250 [.own A_data_0 c_data_0 (rowC (Eint .i64) l252) 3 (Eint .i64).sz, .rd (some ⟨g_cmp_4_c0, 0, none⟩) [.slice A_cmp_4_c0_v cmp_4_c0_v.length c_cmp_4_c0_v], .rd A_cmp_4_c0_v (rowC (Eint .i64) cmp_4_c0_v)] := HS251
        refine H2_next (SS_1 (by kernel_rfl) HS251.chg) ?_
        obtain ⟨⟨g255, g256⟩, H⟩ := of_gd H
        refine H2_fval (i := 22) rfl (by kernel_rfl) (by kernel_rfl) (by kernel_rfl) (by kernel_rfl) (by kernel_rfl) rfl rfl rfl (SS_1 (by kernel_rfl) HS251.chg) (fun wq => O_idx rfl rfl rfl Try.underlying22 size3 g255 g256 (Cells.isA (HS251.cells_own (i := 0) rfl) (rowC_ne (E := (Eint .i64)) g255 g256 (by decide)))) ?_
        refine H2_end (by kernel_rfl) ?_
        have HS257 : Hp S0 w0 w250 [.own A_data_0 c_data_0 (rowC (Eint .i64) l252) 3 (Eint .i64).sz, .rd (some ⟨g_cmp_4_c0, 0, none⟩) [.slice A_cmp_4_c0_v cmp_4_c0_v.length c_cmp_4_c0_v], .rd A_cmp_4_c0_v (rowC (Eint .i64) cmp_4_c0_v)] := (HS244.back [0] (HS251.sel [0] rfl) rfl).sel [3, 1, 2] rfl
        refine T_one (i := 23) rfl (by kernel_rfl) ?_
        obtain ⟨l260, h261, H⟩ := of_bnd H
        refine F_setE (E := (Eint .i64)) (i := 0) (a := rd l220 (IntKind.i64.wrap (a_1 + i_221))) (q := IntKind.i64.wrap (b_2 + i_221)) rfl rfl rfl rfl rfl rfl size3 HS257 rfl (by decide) g255 g256 h261 (fun w258 HS259 => ?_)
        have e262 : l252.length = l260.length := by rw [← h261, List.length_set]
        refine F_know (i := 0) rfl (congrArg (fun n => Value.slice A_data_0 n c_data_0) e262) ?_
        refine F_know (i := 16) rfl (congrArg (fun n => Value.slice A_data_0 n c_data_0) e262) ?_
        refine F_know (i := 20) rfl (congrArg (fun n => Value.slice A_data_0 n c_data_0) e262) ?_
        refine F_know (i := 24) rfl (congrArg (fun n => Value.slice A_data_0 n c_data_0) e262) ?_
        refine F_know (i := 30) rfl (congrArg (fun n => Value.slice A_data_0 n c_data_0) e262) ?_
        have HS259 : Hp S0 w0 w258 [.own A_data_0 c_data_0 (rowC (Eint .i64) l260) 3 (Eint .i64).sz, .rd (some ⟨g_cmp_4_c0, 0, none⟩) [.slice A_cmp_4_c0_v cmp_4_c0_v.length c_cmp_4_c0_v], .rd A_cmp_4_c0_v (rowC (Eint .i64) cmp_4_c0_v)] := HS259
        refine T_next ?_
        refine T_done (by kernel_rfl) ?_
        refine L_endB hN225 ?_
        refine L_region ?_
        refine F_val rfl rfl rfl (O_move rfl rfl) ?_
        refine F_val rfl rfl rfl (O_add rfl rfl rfl) ?_
        obtain ⟨x263, h264, H⟩ := of_bnd H
        refine F_val rfl rfl rfl (O_assign' rfl rfl (congrArg (Value.int .i64) h264)) ?_
        refine F_nil ?_
        refine L_nil (fun a ha => hNp219 _ a _ (Nat.lt_succ_self _) ⟨_, _, Is.cons ha (Is.cons ha (Is.cons ha (Is.cons ha (Is.cons ha (Is.nil ha) rfl) rfl) rfl) rfl) rfl, HS259.sel [0, 1, 2] rfl, H⟩)
      · have H := of_neg H c224
        refine L_exitB (fun a w h => hOp219 (.exit 0) a w rfl (hXb134 a w h)) ?_
        refine L_nil (fun a ha => hNj1 a _ ⟨_, (Option.some.inj H).symm, Is.nil ha, HS223.sel [0, 1, 2] rfl⟩)
  · obtain ⟨l133, ej, ha, HS266⟩ := hR
    obtain rfl := ej.symm
    refine wpLF_app ?_ ha
    obtain ⟨g267, H⟩ := of_gd H
    refine L_nil (fun a ha => (post_end0 ha rfl ?_))
    obtain rfl := Option.some.inj H
    exact ⟨rfl, HS266.sel [0] rfl, g267⟩

/-! function 88: slices.rotateCmpFunc[int] -/
theorem slices_rotateCmpFunc_int_cbuild_Limited_1.calls {S0 : Nat → Prop} {w0 : World} {A_data_0 : Option Addr} {c_data_0 : Nat} {g_cmp_4_c0 : Nat} {A_cmp_4_c0_v : Option Addr} {c_cmp_4_c0_v : Nat} {l_data_0 : List Int} {a_1 : Int} {m_2 : Int} {b_3 : Int} {cmp_4_c0_v : List Int} {r : List Int} (HS0 : Hp S0 w0 w0 [.own A_data_0 c_data_0 (rowC (Eint .i64) l_data_0) 3 (Eint .i64).sz, .rd (some ⟨g_cmp_4_c0, 0, none⟩) [.slice A_cmp_4_c0_v cmp_4_c0_v.length c_cmp_4_c0_v], .rd A_cmp_4_c0_v (rowC (Eint .i64) cmp_4_c0_v)]) (hc_r_cmp_4_c0_v : cmp_4_c0_v.length ≤ c_cmp_4_c0_v) (h : slices_rotateCmpFunc_int_cbuild_Limited_1.f l_data_0 a_1 m_2 b_3 cmp_4_c0_v = some r) :
    Calls Try.prog 88 ([.slice A_data_0 l_data_0.length c_data_0, .int .i64 a_1, .int .i64 m_2, .int .i64 b_3, .func (.func 48) #[] #[.pointer (some ⟨g_cmp_4_c0, 0, none⟩)]] : List Value).toArray w0 (fun e w => e = .returned (.tuple #[]) ∧ Hp S0 w0 w [.own A_data_0 c_data_0 (rowC (Eint .i64) r) 3 (Eint .i64).sz] ∧ r.length = l_data_0.length) := by
  have H : ((bnd (IntKind.i64.wrap (m_2 - a_1)) fun x1 => bnd (IntKind.i64.wrap (b_3 - m_2)) fun x3 => (slices_rotateCmpFunc_int_cbuild_Limited_1.l1 FU l_data_0 x1 x3 m_2 cmp_4_c0_v).bind fun (l178, i_179) => (slices_swapRangeCmpFunc_int_cbuild_Limited_1.f l178 (IntKind.i64.wrap (m_2 - i_179)) m_2 i_179 cmp_4_c0_v).bind fun z358 => gd (z358.length = l_data_0.length) (some z358)) : Option (List Int)) = some r := h
  refine calls_start Try.func88 rfl rfl ?_
  refine L_seq ?_
  refine L_region ?_
  refine F_val rfl rfl rfl (O_move rfl rfl) ?_
  refine F_val rfl rfl rfl (O_move rfl rfl) ?_
  refine F_val rfl rfl rfl (O_sub rfl rfl rfl) ?_
  obtain ⟨x1, h2, H⟩ := of_bnd H
  refine F_val rfl rfl rfl (O_assign' rfl rfl (congrArg (Value.int .i64) h2)) ?_
  refine F_nil ?_
  refine L_seq ?_
  refine L_region ?_
  refine F_val rfl rfl rfl (O_move rfl rfl) ?_
  refine F_val rfl rfl rfl (O_move rfl rfl) ?_
  refine F_val rfl rfl rfl (O_sub rfl rfl rfl) ?_
  obtain ⟨x3, h4, H⟩ := of_bnd H
  refine F_val rfl rfl rfl (O_assign' rfl rfl (congrArg (Value.int .i64) h4)) ?_
  refine F_nil ?_
  refine L_seq ?_
  obtain ⟨yj5, Hyj5, H⟩ := of_bind H
  refine L_join (fun a w => ∃ (l178 : List Int), ∃ (i_179 : Int), yj5 = (l178, i_179) ∧ Is Try.f88.ntmps a [(0, .slice A_data_0 l178.length c_data_0), (2, .int .i64 m_2), (4, .func (.func 48) #[] #[.pointer (some ⟨g_cmp_4_c0, 0, none⟩)]), (10, .int .i64 i_179)] ∧ Hp S0 w0 w [.own A_data_0 c_data_0 (rowC (Eint .i64) l178) 3 (Eint .i64).sz, .rd (some ⟨g_cmp_4_c0, 0, none⟩) [.slice A_cmp_4_c0_v cmp_4_c0_v.length c_cmp_4_c0_v], .rd A_cmp_4_c0_v (rowC (Eint .i64) cmp_4_c0_v)]) (fun Qj5 hNj5 hOj5 => ?_) (fun a w hR => ?_)
  · skip
    have H := Hyj5
    refine L_blk (fun Qb180 hNb180 hXb180 hOb180 => ?_)
    refine L_lp (fun k a w => ∃ (l293 : List Int), ∃ (i_294 : Int), ∃ (j_295 : Int), Is Try.f88.ntmps a [(0, .slice A_data_0 l293.length c_data_0), (2, .int .i64 m_2), (4, .func (.func 48) #[] #[.pointer (some ⟨g_cmp_4_c0, 0, none⟩)]), (10, .int .i64 i_294), (11, .int .i64 j_295)] ∧ Hp S0 w0 w [.own A_data_0 c_data_0 (rowC (Eint .i64) l293) 3 (Eint .i64).sz, .rd (some ⟨g_cmp_4_c0, 0, none⟩) [.slice A_cmp_4_c0_v cmp_4_c0_v.length c_cmp_4_c0_v], .rd A_cmp_4_c0_v (rowC (Eint .i64) cmp_4_c0_v)] ∧ slices_rotateCmpFunc_int_cbuild_Limited_1.l1 k l293 i_294 j_295 m_2 cmp_4_c0_v = some yj5) FU (fun a ha => ⟨_, _, _, Is.cons ha (Is.cons ha (Is.cons ha (Is.cons ha (Is.cons ha (Is.nil ha) rfl) rfl) rfl) rfl) rfl, HS0.sel [0, 1, 2] rfl, H⟩) (fun kp292 a w296 hI Qp292 hNp292 hOp292 => ?_)
    obtain ⟨l293, i_294, j_295, ha, HS297, HAp292⟩ := hI
    cases kp292 with
    | zero => cases (show (none : Option _) = some _ from HAp292)
    | succ kp292 =>
      have H := (slices_rotateCmpFunc_int_cbuild_Limited_1.l1.eq_2 ..).symm.trans HAp292
      refine wpLF_app ?_ ha
      refine L_seq ?_
      refine L_seq ?_
      refine L_region ?_
      refine F_val rfl rfl rfl (O_move rfl rfl) ?_
      refine F_val rfl rfl rfl (O_move rfl rfl) ?_
      refine F_val rfl rfl rfl (O_ne rfl rfl rfl) ?_
      refine F_nil ?_
      refine L_condP rfl (fun c298 => ?_) (fun c298 => ?_)
      · have H := of_pos H c298
        refine L_skip ?_
        refine L_blk (fun Q299 hN299 hX299 hO299 => ?_)
        refine L_seq ?_
        refine L_region ?_
        refine F_val rfl rfl rfl (O_move rfl rfl) ?_
        refine F_val rfl rfl rfl (O_move rfl rfl) ?_
        refine F_val rfl rfl rfl (O_gt rfl rfl rfl) ?_
        refine F_nil ?_
        obtain ⟨yj300, Hyj300, H⟩ := of_bind H
        refine L_join (fun a w => ∃ (l324 : List Int), ∃ (i_325 : Int), ∃ (j_326 : Int), yj300 = (l324, i_325, j_326) ∧ Is Try.f88.ntmps a [(0, .slice A_data_0 l324.length c_data_0), (2, .int .i64 m_2), (4, .func (.func 48) #[] #[.pointer (some ⟨g_cmp_4_c0, 0, none⟩)]), (10, .int .i64 i_325), (11, .int .i64 j_326)] ∧ Hp S0 w0 w [.own A_data_0 c_data_0 (rowC (Eint .i64) l324) 3 (Eint .i64).sz, .rd (some ⟨g_cmp_4_c0, 0, none⟩) [.slice A_cmp_4_c0_v cmp_4_c0_v.length c_cmp_4_c0_v], .rd A_cmp_4_c0_v (rowC (Eint .i64) cmp_4_c0_v)]) (fun Qj300 hNj300 hOj300 => ?_) (fun a w hR => ?_)
        · skip
          have H := Hyj300
          refine L_condP rfl (fun c327 => ?_) (fun c327 => ?_)
          · have H := of_pos H c327
            refine L_seq ?_
            refine L_region ?_
            refine F_val rfl rfl rfl (O_move rfl rfl) ?_
            refine F_val rfl rfl rfl (O_move rfl rfl) ?_
            refine F_val rfl rfl rfl (O_move rfl rfl) ?_
            refine F_val rfl rfl rfl (O_sub rfl rfl rfl) ?_
            refine F_val rfl rfl rfl (O_move rfl rfl) ?_
            refine F_val rfl rfl rfl (O_move rfl rfl) ?_
            refine F_val rfl rfl rfl (O_move rfl rfl) ?_
            obtain ⟨z332, h331, H⟩ := of_bind H
            refine F_call (xs := [.tmp 24, .tmp 27, .tmp 28, .tmp 29, .tmp 30]) rfl rfl rfl rfl Try.func89 nm89 rfl rfl ((slices_swapRangeCmpFunc_int_cbuild_Limited_1.calls (HS297.give [0] rfl (Lent.rd HS297 (Lent.rd HS297 (Lent.nil) (i := 2) rfl ((HS297.cells_rd (i := 2) rfl).self)) (i := 1) rfl (HS297.cells_rd (i := 1) rfl).self)) hc_r_cmp_4_c0_v h331).mono (fun e w hc => ?_))
            obtain ⟨rfl, HSo, hl335⟩ := hc
            refine ⟨.tuple #[], rfl, ?_⟩
            have HS334 : Hp S0 w0 w [.own A_data_0 c_data_0 (rowC (Eint .i64) z332) 3 (Eint .i64).sz, .rd (some ⟨g_cmp_4_c0, 0, none⟩) [.slice A_cmp_4_c0_v cmp_4_c0_v.length c_cmp_4_c0_v], .rd A_cmp_4_c0_v (rowC (Eint .i64) cmp_4_c0_v)] := (HS297.back [0] HSo rfl).sel [3, 1, 2] rfl
            have e336 : l293.length = z332.length := hl335.symm
            refine F_know (i := 0) rfl (congrArg (fun n => Value.slice A_data_0 n c_data_0) e336) ?_
            refine F_nil ?_
            refine L_region ?_
            refine F_val rfl rfl rfl (O_move rfl rfl) ?_
            refine F_val rfl rfl rfl (O_move rfl rfl) ?_
            refine F_val rfl rfl rfl (O_sub rfl rfl rfl) ?_
            obtain ⟨x337, h338, H⟩ := of_bnd H
            refine F_val rfl rfl rfl (O_assign' rfl rfl (congrArg (Value.int .i64) h338)) ?_
            refine F_nil ?_
            refine L_nil (fun a ha => hNj300 a _ ⟨_, _, _, (Option.some.inj H).symm, Is.cons ha (Is.cons ha (Is.cons ha (Is.cons ha (Is.cons ha (Is.nil ha) rfl) rfl) rfl) rfl) rfl, HS334.sel [0, 1, 2] rfl⟩)
          · have H := of_neg H c327
            refine L_seq ?_
            refine L_region ?_
            refine F_val rfl rfl rfl (O_move rfl rfl) ?_
            refine F_val rfl rfl rfl (O_move rfl rfl) ?_
            refine F_val rfl rfl rfl (O_move rfl rfl) ?_
            refine F_val rfl rfl rfl (O_sub rfl rfl rfl) ?_
            refine F_val rfl rfl rfl (O_move rfl rfl) ?_
            refine F_val rfl rfl rfl (O_move rfl rfl) ?_
            refine F_val rfl rfl rfl (O_add rfl rfl rfl) ?_
            refine F_val rfl rfl rfl (O_move rfl rfl) ?_
            refine F_val rfl rfl rfl (O_sub rfl rfl rfl) ?_
            refine F_val rfl rfl rfl (O_move rfl rfl) ?_
            refine F_val rfl rfl rfl (O_move rfl rfl) ?_
            obtain ⟨z343, h342, H⟩ := of_bind H
            refine F_call (xs := [.tmp 35, .tmp 38, .tmp 43, .tmp 44, .tmp 45]) rfl rfl rfl rfl Try.func89 nm89 rfl rfl ((slices_swapRangeCmpFunc_int_cbuild_Limited_1.calls (HS297.give [0] rfl (Lent.rd HS297 (Lent.rd HS297 (Lent.nil) (i := 2) rfl ((HS297.cells_rd (i := 2) rfl).self)) (i := 1) rfl (HS297.cells_rd (i := 1) rfl).self)) hc_r_cmp_4_c0_v h342).mono (fun e w hc => ?_))
            obtain ⟨rfl, HSo, hl346⟩ := hc
            refine ⟨.tuple #[], rfl, ?_⟩
            have HS345 : Hp S0 w0 w [.own A_data_0 c_data_0 (rowC (Eint .i64) z343) 3 (Eint .i64).sz, .rd (some ⟨g_cmp_4_c0, 0, none⟩) [.slice A_cmp_4_c0_v cmp_4_c0_v.length c_cmp_4_c0_v], .rd A_cmp_4_c0_v (rowC (Eint .i64) cmp_4_c0_v)] := (HS297.back [0] HSo rfl).sel [3, 1, 2] rfl
            have e347 : l293.length = z343.length := hl346.symm
            refine F_know (i := 0) rfl (congrArg (fun n => Value.slice A_data_0 n c_data_0) e347) ?_
            refine F_nil ?_
            refine L_region ?_
            refine F_val rfl rfl rfl (O_move rfl rfl) ?_
            refine F_val rfl rfl rfl (O_move rfl rfl) ?_
            refine F_val rfl rfl rfl (O_sub rfl rfl rfl) ?_
            obtain ⟨x348, h349, H⟩ := of_bnd H
            refine F_val rfl rfl rfl (O_assign' rfl rfl (congrArg (Value.int .i64) h349)) ?_
            refine F_nil ?_
            refine L_nil (fun a ha => hNj300 a _ ⟨_, _, _, (Option.some.inj H).symm, Is.cons ha (Is.cons ha (Is.cons ha (Is.cons ha (Is.cons ha (Is.nil ha) rfl) rfl) rfl) rfl) rfl, HS345.sel [0, 1, 2] rfl⟩)
        · obtain ⟨l324, i_325, j_326, rfl, ha, HS351⟩ := hR
          refine wpLF_app ?_ ha
          refine L_endB hN299 ?_
          refine L_nil (fun a ha => hNp292 _ a _ (Nat.lt_succ_self _) ⟨_, _, _, Is.cons ha (Is.cons ha (Is.cons ha (Is.cons ha (Is.cons ha (Is.nil ha) rfl) rfl) rfl) rfl) rfl, HS351.sel [0, 1, 2] rfl, H⟩)
      · have H := of_neg H c298
        refine L_exitB (fun a w h => hOp292 (.exit 0) a w rfl (hXb180 a w h)) ?_
        refine L_nil (fun a ha => hNj5 a _ ⟨_, _, (Option.some.inj H).symm, Is.cons ha (Is.cons ha (Is.cons ha (Is.cons ha (Is.nil ha) rfl) rfl) rfl) rfl, HS297.sel [0, 1, 2] rfl⟩)
  · obtain ⟨l178, i_179, rfl, ha, HS353⟩ := hR
    refine wpLF_app ?_ ha
    refine L_region ?_
    refine F_val rfl rfl rfl (O_move rfl rfl) ?_
    refine F_val rfl rfl rfl (O_move rfl rfl) ?_
    refine F_val rfl rfl rfl (O_move rfl rfl) ?_
    refine F_val rfl rfl rfl (O_sub rfl rfl rfl) ?_
    refine F_val rfl rfl rfl (O_move rfl rfl) ?_
    refine F_val rfl rfl rfl (O_move rfl rfl) ?_
    refine F_val rfl rfl rfl (O_move rfl rfl) ?_
    obtain ⟨z358, h357, H⟩ := of_bind H
    refine F_call (xs := [.tmp 50, .tmp 53, .tmp 54, .tmp 55, .tmp 56]) rfl rfl rfl rfl Try.func89 nm89 rfl rfl ((slices_swapRangeCmpFunc_int_cbuild_Limited_1.calls (HS353.give [0] rfl (Lent.rd HS353 (Lent.rd HS353 (Lent.nil) (i := 2) rfl ((HS353.cells_rd (i := 2) rfl).self)) (i := 1) rfl (HS353.cells_rd (i := 1) rfl).self)) hc_r_cmp_4_c0_v h357).mono (fun e w hc => ?_))
    obtain ⟨rfl, HSo, hl361⟩ := hc
    refine ⟨.tuple #[], rfl, ?_⟩
    have HS360 : Hp S0 w0 w [.own A_data_0 c_data_0 (rowC (Eint .i64) z358) 3 (Eint .i64).sz, .rd (some ⟨g_cmp_4_c0, 0, none⟩) [.slice A_cmp_4_c0_v cmp_4_c0_v.length c_cmp_4_c0_v], .rd A_cmp_4_c0_v (rowC (Eint .i64) cmp_4_c0_v)] := (HS353.back [0] HSo rfl).sel [3, 1, 2] rfl
    have e362 : l178.length = z358.length := hl361.symm
    refine F_know (i := 0) rfl (congrArg (fun n => Value.slice A_data_0 n c_data_0) e362) ?_
    refine F_nil ?_
    obtain ⟨g363, H⟩ := of_gd H
    refine L_nil (fun a ha => (post_end0 ha rfl ?_))
    obtain rfl := Option.some.inj H
    exact ⟨rfl, HS360.sel [0] rfl, g363⟩

end Go.Proofs.Ytbegkkmngkpjmaa
