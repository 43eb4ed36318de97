import Derived.Test.YtfglehdaimgaeaaChecked
import Derived.Test.YtfglehdaimgaeaaGCodeFixedPure
set_option linter.unusedVariables false
set_option linter.unusedSimpArgs false
set_option maxRecDepth 10000
set_option maxHeartbeats 1000000
namespace Go.Proofs.Ytfglehdaimgaeaa
open Go Go.V Go.V.Pu
theorem mix : Try.prog.follows .mixedOrders = true := by kernel_rfl
theorem info3 : (Try.prog.info? 3).map (fun i => (i.zero, i.size, i.bytes)) = some (some (.int .i64 0), 1, 8) := by kernel_rfl
theorem size3 : (Try.prog.info? 3).map (·.size) = some 1 := by kernel_rfl
theorem nm13 : (Try.f13.name == "runtime.NumGoroutine") = false := by kernel_rfl
theorem nm14 : (Try.f14.name == "runtime.NumGoroutine") = false := by kernel_rfl
theorem nm16 : (Try.f16.name == "runtime.NumGoroutine") = false := by kernel_rfl
theorem flat3 : Flat Try.prog 3 := Flat.of Try.underlying3 rfl
theorem nm15 : (Try.f15.name == "runtime.NumGoroutine") = false := by kernel_rfl
theorem nm17 : (Try.f17.name == "runtime.NumGoroutine") = false := by kernel_rfl
theorem nm18 : (Try.f18.name == "runtime.NumGoroutine") = false := by kernel_rfl
theorem nm19 : (Try.f19.name == "runtime.NumGoroutine") = false := by kernel_rfl
/-! function 13: valise/code.FixedLit -/
theorem code_FixedLit.calls {S0 : Nat → Prop} {w0 : World} {r : List Int} (HS0 : Hp S0 w0 w0 []) (h : code_FixedLit.f = some r) :
    Calls Try.prog 13 ([] : List Value).toArray w0 (fun e w => ∃ (A1 : Option Addr), ∃ (c1 : Nat), e = .returned (.slice A1 r.length c1) ∧ Hp S0 w0 w [.own A1 c1 (rowC (Eint .i64) r) 3 (Eint .i64).sz]) := by
  have H : (((code_FixedLit.l1 FU (List.replicate (288 : Int).toNat (0 : Int)) 0 ).bind fun l163 => some l163) : Option (List Int)) = some r := h
  refine calls_start Try.func13 rfl rfl ?_
  refine L_seq ?_
  refine L_region ?_
  refine F_val rfl rfl rfl (O_assign rfl rfl) ?_
  refine F_nil ?_
  refine L_seq ?_
  refine L_region ?_
  refine F_makeK (E := (Eint .i64)) rfl rfl rfl rfl rfl rfl Try.underlying22 info3 rfl (by decide) (by decide) (by decide) (by decide) HS0 (fun w1 A3 c4 HS2 => ?_)
  have HS2 : Hp S0 w0 w1 [.own A3 c4 (rowC (Eint .i64) (List.replicate (288 : Int).toNat (0 : Int))) 3 (Eint .i64).sz] := HS2
  refine F_val rfl rfl rfl (O_assign rfl rfl) ?_
  refine F_nil ?_
  refine L_seq ?_
  refine L_seq ?_
  refine L_region ?_
  refine F_val rfl rfl rfl (O_move rfl rfl) ?_
  refine F_val rfl rfl rfl (O_len rfl rfl Try.underlying22) ?_
  refine F_val rfl rfl rfl (O_move rfl rfl) ?_
  refine F_nil ?_
  obtain ⟨yj6, Hyj6, H⟩ := of_bind H
  refine L_join (fun a w => ∃ (l163 : List Int), yj6 = l163 ∧ Is Try.f13.ntmps a [(1, .slice A3 l163.length c4)] ∧ Hp S0 w0 w [.own A3 c4 (rowC (Eint .i64) l163) 3 (Eint .i64).sz]) (fun Qj6 hNj6 hOj6 => ?_) (fun a w hR => ?_)
  · skip
    have H := Hyj6
    refine L_blk (fun Qb164 hNb164 hXb164 hOb164 => ?_)
    refine L_lp (fun k a w => ∃ (l247 : List Int), ∃ (t248 : Int), Is Try.f13.ntmps a [(1, .slice A3 l247.length c4), (5, .int .i64 ((List.replicate (288 : Int).toNat (0 : Int)).length : Int)), (6, .int .i64 t248)] ∧ Hp S0 w0 w [.own A3 c4 (rowC (Eint .i64) l247) 3 (Eint .i64).sz] ∧ code_FixedLit.l1 k l247 t248  = some yj6) FU (fun a ha => ⟨_, _, Is.cons ha (Is.cons ha (Is.cons ha (Is.nil ha) rfl) rfl) rfl, HS2.sel [0] rfl, H⟩) (fun kp246 a w249 hI Qp246 hNp246 hOp246 => ?_)
    obtain ⟨l247, t248, ha, HS250, HAp246⟩ := hI
    cases kp246 with
    | zero => cases (show (none : Option _) = some _ from HAp246)
    | succ kp246 =>
      have H := (code_FixedLit.l1.eq_2 ..).symm.trans HAp246
      refine wpLF_app ?_ ha
      refine L_seq ?_
      refine L_region ?_
      refine F_val rfl rfl rfl (O_lt rfl rfl rfl) ?_
      refine F_nil ?_
      refine L_seq ?_
      refine L_condP rfl (fun c251 => ?_) (fun c251 => ?_)
      · have H := of_pos H c251
        refine L_skip ?_
        refine L_seq ?_
        refine L_blk (fun Q252 hN252 hX252 hO252 => ?_)
        refine L_seq ?_
        refine L_region ?_
        refine F_val rfl rfl rfl (O_move rfl rfl) ?_
        refine F_val rfl rfl rfl (O_assign rfl rfl) ?_
        refine F_nil ?_
        refine L_blk (fun Q253 hN253 hX253 hO253 => ?_)
        refine L_seq ?_
        refine L_region ?_
        refine F_val rfl rfl rfl (O_move rfl rfl) ?_
        refine F_val rfl rfl rfl (O_lt rfl rfl rfl) ?_
        refine F_val rfl rfl rfl (O_assign rfl rfl) ?_
        refine F_nil ?_
        obtain ⟨yj254, Hyj254, H⟩ := of_bind H
        refine L_join (fun a w => ∃ (l286 : List Int), yj254 = l286 ∧ Is Try.f13.ntmps a [(1, .slice A3 l286.length c4), (5, .int .i64 ((List.replicate (288 : Int).toNat (0 : Int)).length : Int)), (6, .int .i64 t248)] ∧ Hp S0 w0 w [.own A3 c4 (rowC (Eint .i64) l286) 3 (Eint .i64).sz]) (fun Qj254 hNj254 hOj254 => ?_) (fun a w hR => ?_)
        · skip
          have H := Hyj254
          refine L_condP rfl (fun c287 => ?_) (fun c287 => ?_)
          · have H := of_pos H c287
            refine L_region ?_
            refine F_val rfl rfl rfl (O_move rfl rfl) ?_
            refine F_val rfl rfl rfl (O_move rfl rfl) ?_
            obtain ⟨⟨g288, g289⟩, H⟩ := of_gd H
            refine F_val rfl rfl rfl (O_idx rfl rfl rfl Try.underlying22 size3 g288 g289 (Cells.isA (HS250.cells_own (i := 0) rfl) (rowC_ne (E := (Eint .i64)) g288 g289 (by decide)))) ?_
            obtain ⟨l292, h293, H⟩ := of_bnd H
            refine F_setE (E := (Eint .i64)) (i := 0) (a := 8) (q := t248) rfl rfl rfl rfl rfl rfl size3 HS250 rfl (by decide) g288 g289 h293 (fun w290 HS291 => ?_)
            have e294 : l247.length = l292.length := by rw [← h293, List.length_set]
            refine F_know (i := 1) rfl (congrArg (fun n => Value.slice A3 n c4) e294) ?_
            have HS291 : Hp S0 w0 w290 [.own A3 c4 (rowC (Eint .i64) l292) 3 (Eint .i64).sz] := HS291
            refine F_nil ?_
            refine L_nil (fun a ha => hNj254 a _ ⟨_, (Option.some.inj H).symm, Is.cons ha (Is.cons ha (Is.cons ha (Is.nil ha) rfl) rfl) rfl, HS291.sel [0] rfl⟩)
          · have H := of_neg H c287
            refine L_seq ?_
            refine L_region ?_
            refine F_val rfl rfl rfl (O_move rfl rfl) ?_
            refine F_val rfl rfl rfl (O_lt rfl rfl rfl) ?_
            refine F_val rfl rfl rfl (O_assign rfl rfl) ?_
            refine F_nil ?_
            refine L_condP rfl (fun c295 => ?_) (fun c295 => ?_)
            · have H := of_pos H c295
              refine L_region ?_
              refine F_val rfl rfl rfl (O_move rfl rfl) ?_
              refine F_val rfl rfl rfl (O_move rfl rfl) ?_
              obtain ⟨⟨g296, g297⟩, H⟩ := of_gd H
              refine F_val rfl rfl rfl (O_idx rfl rfl rfl Try.underlying22 size3 g296 g297 (Cells.isA (HS250.cells_own (i := 0) rfl) (rowC_ne (E := (Eint .i64)) g296 g297 (by decide)))) ?_
              obtain ⟨l300, h301, H⟩ := of_bnd H
              refine F_setE (E := (Eint .i64)) (i := 0) (a := 9) (q := t248) rfl rfl rfl rfl rfl rfl size3 HS250 rfl (by decide) g296 g297 h301 (fun w298 HS299 => ?_)
              have e302 : l247.length = l300.length := by rw [← h301, List.length_set]
              refine F_know (i := 1) rfl (congrArg (fun n => Value.slice A3 n c4) e302) ?_
              have HS299 : Hp S0 w0 w298 [.own A3 c4 (rowC (Eint .i64) l300) 3 (Eint .i64).sz] := HS299
              refine F_nil ?_
              refine L_nil (fun a ha => hNj254 a _ ⟨_, (Option.some.inj H).symm, Is.cons ha (Is.cons ha (Is.cons ha (Is.nil ha) rfl) rfl) rfl, HS299.sel [0] rfl⟩)
            · have H := of_neg H c295
              refine L_seq ?_
              refine L_region ?_
              refine F_val rfl rfl rfl (O_move rfl rfl) ?_
              refine F_val rfl rfl rfl (O_lt rfl rfl rfl) ?_
              refine F_val rfl rfl rfl (O_assign rfl rfl) ?_
              refine F_nil ?_
              refine L_condP rfl (fun c303 => ?_) (fun c303 => ?_)
              · have H := of_pos H c303
                refine L_region ?_
                refine F_val rfl rfl rfl (O_move rfl rfl) ?_
                refine F_val rfl rfl rfl (O_move rfl rfl) ?_
                obtain ⟨⟨g304, g305⟩, H⟩ := of_gd H
                refine F_val rfl rfl rfl (O_idx rfl rfl rfl Try.underlying22 size3 g304 g305 (Cells.isA (HS250.cells_own (i := 0) rfl) (rowC_ne (E := (Eint .i64)) g304 g305 (by decide)))) ?_
                obtain ⟨l308, h309, H⟩ := of_bnd H
                refine F_setE (E := (Eint .i64)) (i := 0) (a := 7) (q := t248) rfl rfl rfl rfl rfl rfl size3 HS250 rfl (by decide) g304 g305 h309 (fun w306 HS307 => ?_)
                have e310 : l247.length = l308.length := by rw [← h309, List.length_set]
                refine F_know (i := 1) rfl (congrArg (fun n => Value.slice A3 n c4) e310) ?_
                have HS307 : Hp S0 w0 w306 [.own A3 c4 (rowC (Eint .i64) l308) 3 (Eint .i64).sz] := HS307
                refine F_nil ?_
                refine L_nil (fun a ha => hNj254 a _ ⟨_, (Option.some.inj H).symm, Is.cons ha (Is.cons ha (Is.cons ha (Is.nil ha) rfl) rfl) rfl, HS307.sel [0] rfl⟩)
              · have H := of_neg H c303
                refine L_region ?_
                refine F_val rfl rfl rfl (O_move rfl rfl) ?_
                refine F_val rfl rfl rfl (O_move rfl rfl) ?_
                obtain ⟨⟨g311, g312⟩, H⟩ := of_gd H
                refine F_val rfl rfl rfl (O_idx rfl rfl rfl Try.underlying22 size3 g311 g312 (Cells.isA (HS250.cells_own (i := 0) rfl) (rowC_ne (E := (Eint .i64)) g311 g312 (by decide)))) ?_
                obtain ⟨l315, h316, H⟩ := of_bnd H
                refine F_setE (E := (Eint .i64)) (i := 0) (a := 8) (q := t248) rfl rfl rfl rfl rfl rfl size3 HS250 rfl (by decide) g311 g312 h316 (fun w313 HS314 => ?_)
                have e317 : l247.length = l315.length := by rw [← h316, List.length_set]
                refine F_know (i := 1) rfl (congrArg (fun n => Value.slice A3 n c4) e317) ?_
                have HS314 : Hp S0 w0 w313 [.own A3 c4 (rowC (Eint .i64) l315) 3 (Eint .i64).sz] := HS314
                refine F_nil ?_
                refine L_nil (fun a ha => hNj254 a _ ⟨_, (Option.some.inj H).symm, Is.cons ha (Is.cons ha (Is.cons ha (Is.nil ha) rfl) rfl) rfl, HS314.sel [0] rfl⟩)
        · obtain ⟨l286, ej, ha, HS319⟩ := hR
          obtain rfl := ej.symm
          refine wpLF_app ?_ ha
          refine L_endB hN253 ?_
          refine L_endB hN252 ?_
          refine L_region ?_
          refine F_val rfl rfl rfl (O_add rfl rfl rfl) ?_
          refine F_val rfl rfl rfl (O_move rfl rfl) ?_
          refine F_nil ?_
          refine L_nil (fun a ha => hNp246 _ a _ (Nat.lt_succ_self _) ⟨_, _, Is.cons ha (Is.cons ha (Is.cons ha (Is.nil ha) rfl) rfl) rfl, HS319.sel [0] rfl, H⟩)
      · have H := of_neg H c251
        refine L_exitB (fun a w h => hOp246 (.exit 0) a w rfl (hXb164 a w h)) ?_
        refine L_nil (fun a ha => hNj6 a _ ⟨_, (Option.some.inj H).symm, Is.cons ha (Is.nil ha) rfl, HS250.sel [0] rfl⟩)
  · obtain ⟨l163, ej, ha, HS321⟩ := hR
    obtain rfl := ej.symm
    refine wpLF_app ?_ ha
    refine L_seq ?_
    refine L_region ?_
    refine F_val rfl rfl rfl (O_move rfl rfl) ?_
    refine F_val rfl rfl rfl (O_assign rfl rfl) ?_
    refine F_nil ?_
    refine L_ret (fun a ha => (post_ret1 ha rfl rfl ?_))
    obtain rfl := Option.some.inj H
    exact ⟨_, _, rfl, HS321.sel [0] rfl⟩

/-! function 14: valise/code.FixedDist -/
theorem code_FixedDist.calls {S0 : Nat → Prop} {w0 : World} {r : List Int} (HS0 : Hp S0 w0 w0 []) (h : code_FixedDist.f = some r) :
    Calls Try.prog 14 ([] : List Value).toArray w0 (fun e w => ∃ (A1 : Option Addr), ∃ (c1 : Nat), e = .returned (.slice A1 r.length c1) ∧ Hp S0 w0 w [.own A1 c1 (rowC (Eint .i64) r) 3 (Eint .i64).sz]) := by
  have H : (((code_FixedDist.l1 FU (List.replicate (32 : Int).toNat (0 : Int)) 0 ).bind fun l42 => some l42) : Option (List Int)) = some r := h
  refine calls_start Try.func14 rfl rfl ?_
  refine L_seq ?_
  refine L_region ?_
  refine F_val rfl rfl rfl (O_assign rfl rfl) ?_
  refine F_nil ?_
  refine L_seq ?_
  refine L_region ?_
  refine F_makeK (E := (Eint .i64)) rfl rfl rfl rfl rfl rfl Try.underlying22 info3 rfl (by decide) (by decide) (by decide) (by decide) HS0 (fun w1 A3 c4 HS2 => ?_)
  have HS2 : Hp S0 w0 w1 [.own A3 c4 (rowC (Eint .i64) (List.replicate (32 : Int).toNat (0 : Int))) 3 (Eint .i64).sz] := HS2
  refine F_val rfl rfl rfl (O_assign rfl rfl) ?_
  refine F_nil ?_
  refine L_seq ?_
  refine L_seq ?_
  refine L_region ?_
  refine F_val rfl rfl rfl (O_move rfl rfl) ?_
  refine F_val rfl rfl rfl (O_len rfl rfl Try.underlying22) ?_
  refine F_val rfl rfl rfl (O_move rfl rfl) ?_
  refine F_nil ?_
  obtain ⟨yj6, Hyj6, H⟩ := of_bind H
  refine L_join (fun a w => ∃ (l42 : List Int), yj6 = l42 ∧ Is Try.f14.ntmps a [(1, .slice A3 l42.length c4)] ∧ Hp S0 w0 w [.own A3 c4 (rowC (Eint .i64) l42) 3 (Eint .i64).sz]) (fun Qj6 hNj6 hOj6 => ?_) (fun a w hR => ?_)
  · skip
    have H := Hyj6
    refine L_blk (fun Qb43 hNb43 hXb43 hOb43 => ?_)
    refine L_lp (fun k a w => ∃ (l65 : List Int), ∃ (t66 : Int), Is Try.f14.ntmps a [(1, .slice A3 l65.length c4), (5, .int .i64 ((List.replicate (32 : Int).toNat (0 : Int)).length : Int)), (6, .int .i64 t66)] ∧ Hp S0 w0 w [.own A3 c4 (rowC (Eint .i64) l65) 3 (Eint .i64).sz] ∧ code_FixedDist.l1 k l65 t66  = some yj6) FU (fun a ha => ⟨_, _, Is.cons ha (Is.cons ha (Is.cons ha (Is.nil ha) rfl) rfl) rfl, HS2.sel [0] rfl, H⟩) (fun kp64 a w67 hI Qp64 hNp64 hOp64 => ?_)
    obtain ⟨l65, t66, ha, HS68, HAp64⟩ := hI
    cases kp64 with
    | zero => cases (show (none : Option _) = some _ from HAp64)
    | succ kp64 =>
      have H := (code_FixedDist.l1.eq_2 ..).symm.trans HAp64
      refine wpLF_app ?_ ha
      refine L_seq ?_
      refine L_region ?_
      refine F_val rfl rfl rfl (O_lt rfl rfl rfl) ?_
      refine F_nil ?_
      refine L_seq ?_
      refine L_condP rfl (fun c69 => ?_) (fun c69 => ?_)
      · have H := of_pos H c69
        refine L_skip ?_
        refine L_seq ?_
        refine L_blk (fun Q70 hN70 hX70 hO70 => ?_)
        refine L_seq ?_
        refine L_region ?_
        refine F_val rfl rfl rfl (O_move rfl rfl) ?_
        refine F_val rfl rfl rfl (O_assign rfl rfl) ?_
        refine F_nil ?_
        refine L_region ?_
        refine F_val rfl rfl rfl (O_move rfl rfl) ?_
        refine F_val rfl rfl rfl (O_move rfl rfl) ?_
        obtain ⟨⟨g71, g72⟩, H⟩ := of_gd H
        refine F_val rfl rfl rfl (O_idx rfl rfl rfl Try.underlying22 size3 g71 g72 (Cells.isA (HS68.cells_own (i := 0) rfl) (rowC_ne (E := (Eint .i64)) g71 g72 (by decide)))) ?_
        obtain ⟨l75, h76, H⟩ := of_bnd H
        refine F_setE (E := (Eint .i64)) (i := 0) (a := 5) (q := t66) rfl rfl rfl rfl rfl rfl size3 HS68 rfl (by decide) g71 g72 h76 (fun w73 HS74 => ?_)
        have e77 : l65.length = l75.length := by rw [← h76, List.length_set]
        refine F_know (i := 1) rfl (congrArg (fun n => Value.slice A3 n c4) e77) ?_
        have HS74 : Hp S0 w0 w73 [.own A3 c4 (rowC (Eint .i64) l75) 3 (Eint .i64).sz] := HS74
        refine F_nil ?_
        refine L_endB hN70 ?_
        refine L_region ?_
        refine F_val rfl rfl rfl (O_add rfl rfl rfl) ?_
        refine F_val rfl rfl rfl (O_move rfl rfl) ?_
        refine F_nil ?_
        refine L_nil (fun a ha => hNp64 _ a _ (Nat.lt_succ_self _) ⟨_, _, Is.cons ha (Is.cons ha (Is.cons ha (Is.nil ha) rfl) rfl) rfl, HS74.sel [0] rfl, H⟩)
      · have H := of_neg H c69
        refine L_exitB (fun a w h => hOp64 (.exit 0) a w rfl (hXb43 a w h)) ?_
        refine L_nil (fun a ha => hNj6 a _ ⟨_, (Option.some.inj H).symm, Is.cons ha (Is.nil ha) rfl, HS68.sel [0] rfl⟩)
  · obtain ⟨l42, ej, ha, HS79⟩ := hR
    obtain rfl := ej.symm
    refine wpLF_app ?_ ha
    refine L_seq ?_
    refine L_region ?_
    refine F_val rfl rfl rfl (O_move rfl rfl) ?_
    refine F_val rfl rfl rfl (O_assign rfl rfl) ?_
    refine F_nil ?_
    refine L_ret (fun a ha => (post_ret1 ha rfl rfl ?_))
    obtain rfl := Option.some.inj H
    exact ⟨_, _, rfl, HS79.sel [0] rfl⟩

/-! function 16: valise/valiseref5.FixedLit -/
theorem valiseref5_FixedLit.calls {S0 : Nat → Prop} {w0 : World} {r : List Int} (HS0 : Hp S0 w0 w0 []) (h : valiseref5_FixedLit.f = some r) :
    Calls Try.prog 16 ([] : List Value).toArray w0 (fun e w => ∃ (A1 : Option Addr), ∃ (c1 : Nat), e = .returned (.slice A1 r.length c1) ∧ Hp S0 w0 w [.own A1 c1 (rowC (Eint .i64) r) 3 (Eint .i64).sz]) := by
  have H : (((valiseref5_FixedLit.l1 FU ([] : List Int) 0 ).bind fun l260 => some l260) : Option (List Int)) = some r := h
  refine calls_start Try.func16 rfl rfl ?_
  refine L_seq ?_
  refine L_region ?_
  refine F_val rfl rfl rfl (O_assign rfl rfl) ?_
  refine F_nil ?_
  refine L_seq ?_
  refine L_region ?_
  refine F_val rfl rfl rfl (O_assign rfl rfl) ?_
  have HS1 := HS0.addNil 3 (Eint .i64).sz
  have HS1 : Hp S0 w0 w0 [.own none 0 (rowC (Eint .i64) ([] : List Int)) 3 (Eint .i64).sz] := HS1
  refine F_nil ?_
  refine L_seq ?_
  refine L_seq ?_
  refine L_region ?_
  refine F_val rfl rfl rfl (O_assign rfl rfl) ?_
  refine F_nil ?_
  obtain ⟨yj3, Hyj3, H⟩ := of_bind H
  refine L_join (fun a w => ∃ (l260 : List Int), ∃ (A258 : Option Addr), ∃ (c259 : Nat), yj3 = l260 ∧ Is Try.f16.ntmps a [(1, .slice A258 l260.length c259)] ∧ Hp S0 w0 w [.own A258 c259 (rowC (Eint .i64) l260) 3 (Eint .i64).sz]) (fun Qj3 hNj3 hOj3 => ?_) (fun a w hR => ?_)
  · skip
    have H := Hyj3
    refine L_blk (fun Qb261 hNb261 hXb261 hOb261 => ?_)
    refine L_lp (fun k a w => ∃ (l398 : List Int), ∃ (s_399 : Int), ∃ (A396 : Option Addr), ∃ (c397 : Nat), Is Try.f16.ntmps a [(1, .slice A396 l398.length c397), (2, .int .i64 s_399)] ∧ Hp S0 w0 w [.own A396 c397 (rowC (Eint .i64) l398) 3 (Eint .i64).sz] ∧ valiseref5_FixedLit.l1 k l398 s_399  = some yj3) FU (fun a ha => ⟨_, _, _, _, Is.cons ha (Is.cons ha (Is.nil ha) rfl) rfl, HS1.sel [0] rfl, H⟩) (fun kp395 a w400 hI Qp395 hNp395 hOp395 => ?_)
    obtain ⟨l398, s_399, A396, c397, ha, HS401, HAp395⟩ := hI
    cases kp395 with
    | zero => cases (show (none : Option _) = some _ from HAp395)
    | succ kp395 =>
      have H := (valiseref5_FixedLit.l1.eq_2 ..).symm.trans HAp395
      refine wpLF_app ?_ ha
      refine L_seq ?_
      refine L_seq ?_
      refine L_region ?_
      refine F_val rfl rfl rfl (O_move rfl rfl) ?_
      refine F_val rfl rfl rfl (O_lt rfl rfl rfl) ?_
      refine F_nil ?_
      refine L_condP rfl (fun c402 => ?_) (fun c402 => ?_)
      · have H := of_pos H c402
        refine L_skip ?_
        refine L_seq ?_
        refine L_blk (fun Q403 hN403 hX403 hO403 => ?_)
        refine L_blk (fun Q404 hN404 hX404 hO404 => ?_)
        refine L_seq ?_
        refine L_region ?_
        refine F_val rfl rfl rfl (O_move rfl rfl) ?_
        refine F_val rfl rfl rfl (O_lt rfl rfl rfl) ?_
        refine F_val rfl rfl rfl (O_assign rfl rfl) ?_
        refine F_nil ?_
        obtain ⟨yj405, Hyj405, H⟩ := of_bind H
        refine L_join (fun a w => ∃ (l459 : List Int), ∃ (A457 : Option Addr), ∃ (c458 : Nat), yj405 = l459 ∧ Is Try.f16.ntmps a [(1, .slice A457 l459.length c458), (2, .int .i64 s_399)] ∧ Hp S0 w0 w [.own A457 c458 (rowC (Eint .i64) l459) 3 (Eint .i64).sz]) (fun Qj405 hNj405 hOj405 => ?_) (fun a w hR => ?_)
        · skip
          have H := Hyj405
          refine L_condP rfl (fun c460 => ?_) (fun c460 => ?_)
          · have H := of_pos H c460
            refine L_region ?_
            refine F_val rfl rfl rfl (O_move rfl rfl) ?_
            refine F_litE (E := (Eint .i64)) (e := 3) [(0, .int .i64 8)] [8] rfl rfl rfl rfl rfl rfl rfl (by decide) (fun w => by kernel_rfl) HS401 (fun w461 A463 c464 HS462 => ?_)
            have HS462 : Hp S0 w0 w461 [.own A396 c397 (rowC (Eint .i64) l398) 3 (Eint .i64).sz, .own A463 c464 (rowC (Eint .i64) [8]) 3 (Eint .i64).sz] := HS462
            obtain ⟨l468, h469, H⟩ := of_bnd H
            obtain ⟨g470, H⟩ := of_gd H
            refine F_appE (E := (Eint .i64)) (xs := l398) (ys := [8]) (i := 0) rfl rfl rfl rfl Try.underlying22 info3 rfl (by decide) (by decide) rfl rfl HS462 rfl (HS462.cells_own (i := 1) rfl) h469 g470 (fun w466 A471 c472 HS467 => ?_)
            have HS467 : Hp S0 w0 w466 [.own A471 c472 (rowC (Eint .i64) l468) 3 (Eint .i64).sz, .own A463 c464 (rowC (Eint .i64) [8]) 3 (Eint .i64).sz] := HS467
            refine F_val rfl rfl rfl (O_assign rfl rfl) ?_
            refine F_nil ?_
            refine L_nil (fun a ha => hNj405 a _ ⟨_, _, _, (Option.some.inj H).symm, Is.cons ha (Is.cons ha (Is.nil ha) rfl) rfl, HS467.sel [0] rfl⟩)
          · have H := of_neg H c460
            refine L_seq ?_
            refine L_region ?_
            refine F_val rfl rfl rfl (O_move rfl rfl) ?_
            refine F_val rfl rfl rfl (O_lt rfl rfl rfl) ?_
            refine F_val rfl rfl rfl (O_assign rfl rfl) ?_
            refine F_nil ?_
            refine L_condP rfl (fun c473 => ?_) (fun c473 => ?_)
            · have H := of_pos H c473
              refine L_region ?_
              refine F_val rfl rfl rfl (O_move rfl rfl) ?_
              refine F_litE (E := (Eint .i64)) (e := 3) [(0, .int .i64 9)] [9] rfl rfl rfl rfl rfl rfl rfl (by decide) (fun w => by kernel_rfl) HS401 (fun w474 A476 c477 HS475 => ?_)
              have HS475 : Hp S0 w0 w474 [.own A396 c397 (rowC (Eint .i64) l398) 3 (Eint .i64).sz, .own A476 c477 (rowC (Eint .i64) [9]) 3 (Eint .i64).sz] := HS475
              obtain ⟨l481, h482, H⟩ := of_bnd H
              obtain ⟨g483, H⟩ := of_gd H
              refine F_appE (E := (Eint .i64)) (xs := l398) (ys := [9]) (i := 0) rfl rfl rfl rfl Try.underlying22 info3 rfl (by decide) (by decide) rfl rfl HS475 rfl (HS475.cells_own (i := 1) rfl) h482 g483 (fun w479 A484 c485 HS480 => ?_)
              have HS480 : Hp S0 w0 w479 [.own A484 c485 (rowC (Eint .i64) l481) 3 (Eint .i64).sz, .own A476 c477 (rowC (Eint .i64) [9]) 3 (Eint .i64).sz] := HS480
              refine F_val rfl rfl rfl (O_assign rfl rfl) ?_
              refine F_nil ?_
              refine L_nil (fun a ha => hNj405 a _ ⟨_, _, _, (Option.some.inj H).symm, Is.cons ha (Is.cons ha (Is.nil ha) rfl) rfl, HS480.sel [0] rfl⟩)
            · have H := of_neg H c473
              refine L_seq ?_
              refine L_region ?_
              refine F_val rfl rfl rfl (O_move rfl rfl) ?_
              refine F_val rfl rfl rfl (O_lt rfl rfl rfl) ?_
              refine F_val rfl rfl rfl (O_assign rfl rfl) ?_
              refine F_nil ?_
              refine L_condP rfl (fun c486 => ?_) (fun c486 => ?_)
              · have H := of_pos H c486
                refine L_region ?_
                refine F_val rfl rfl rfl (O_move rfl rfl) ?_
                refine F_litE (E := (Eint .i64)) (e := 3) [(0, .int .i64 7)] [7] rfl rfl rfl rfl rfl rfl rfl (by decide) (fun w => by kernel_rfl) HS401 (fun w487 A489 c490 HS488 => ?_)
                have HS488 : Hp S0 w0 w487 [.own A396 c397 (rowC (Eint .i64) l398) 3 (Eint .i64).sz, .own A489 c490 (rowC (Eint .i64) [7]) 3 (Eint .i64).sz] := HS488
                obtain ⟨l494, h495, H⟩ := of_bnd H
                obtain ⟨g496, H⟩ := of_gd H
                refine F_appE (E := (Eint .i64)) (xs := l398) (ys := [7]) (i := 0) rfl rfl rfl rfl Try.underlying22 info3 rfl (by decide) (by decide) rfl rfl HS488 rfl (HS488.cells_own (i := 1) rfl) h495 g496 (fun w492 A497 c498 HS493 => ?_)
                have HS493 : Hp S0 w0 w492 [.own A497 c498 (rowC (Eint .i64) l494) 3 (Eint .i64).sz, .own A489 c490 (rowC (Eint .i64) [7]) 3 (Eint .i64).sz] := HS493
                refine F_val rfl rfl rfl (O_assign rfl rfl) ?_
                refine F_nil ?_
                refine L_nil (fun a ha => hNj405 a _ ⟨_, _, _, (Option.some.inj H).symm, Is.cons ha (Is.cons ha (Is.nil ha) rfl) rfl, HS493.sel [0] rfl⟩)
              · have H := of_neg H c486
                refine L_region ?_
                refine F_val rfl rfl rfl (O_move rfl rfl) ?_
                refine F_litE (E := (Eint .i64)) (e := 3) [(0, .int .i64 8)] [8] rfl rfl rfl rfl rfl rfl rfl (by decide) (fun w => by kernel_rfl) HS401 (fun w499 A501 c502 HS500 => ?_)
                have HS500 : Hp S0 w0 w499 [.own A396 c397 (rowC (Eint .i64) l398) 3 (Eint .i64).sz, .own A501 c502 (rowC (Eint .i64) [8]) 3 (Eint .i64).sz] := HS500
                obtain ⟨l506, h507, H⟩ := of_bnd H
                obtain ⟨g508, H⟩ := of_gd H
                refine F_appE (E := (Eint .i64)) (xs := l398) (ys := [8]) (i := 0) rfl rfl rfl rfl Try.underlying22 info3 rfl (by decide) (by decide) rfl rfl HS500 rfl (HS500.cells_own (i := 1) rfl) h507 g508 (fun w504 A509 c510 HS505 => ?_)
                have HS505 : Hp S0 w0 w504 [.own A509 c510 (rowC (Eint .i64) l506) 3 (Eint .i64).sz, .own A501 c502 (rowC (Eint .i64) [8]) 3 (Eint .i64).sz] := HS505
                refine F_val rfl rfl rfl (O_assign rfl rfl) ?_
                refine F_nil ?_
                refine L_nil (fun a ha => hNj405 a _ ⟨_, _, _, (Option.some.inj H).symm, Is.cons ha (Is.cons ha (Is.nil ha) rfl) rfl, HS505.sel [0] rfl⟩)
        · obtain ⟨l459, A457, c458, ej, ha, HS512⟩ := hR
          obtain rfl := ej.symm
          refine wpLF_app ?_ ha
          refine L_endB hN404 ?_
          refine L_endB hN403 ?_
          refine L_region ?_
          refine F_val rfl rfl rfl (O_move rfl rfl) ?_
          refine F_val rfl rfl rfl (O_add rfl rfl rfl) ?_
          obtain ⟨x513, h514, H⟩ := of_bnd H
          refine F_val rfl rfl rfl (O_assign' rfl rfl (congrArg (Value.int .i64) h514)) ?_
          refine F_nil ?_
          refine L_nil (fun a ha => hNp395 _ a _ (Nat.lt_succ_self _) ⟨_, _, _, _, Is.cons ha (Is.cons ha (Is.nil ha) rfl) rfl, HS512.sel [0] rfl, H⟩)
      · have H := of_neg H c402
        refine L_exitB (fun a w h => hOp395 (.exit 0) a w rfl (hXb261 a w h)) ?_
        refine L_nil (fun a ha => hNj3 a _ ⟨_, _, _, (Option.some.inj H).symm, Is.cons ha (Is.nil ha) rfl, HS401.sel [0] rfl⟩)
  · obtain ⟨l260, A258, c259, ej, ha, HS516⟩ := hR
    obtain rfl := ej.symm
    refine wpLF_app ?_ ha
    refine L_seq ?_
    refine L_region ?_
    refine F_val rfl rfl rfl (O_move rfl rfl) ?_
    refine F_val rfl rfl rfl (O_assign rfl rfl) ?_
    refine F_nil ?_
    refine L_ret (fun a ha => (post_ret1 ha rfl rfl ?_))
    obtain rfl := Option.some.inj H
    exact ⟨_, _, rfl, HS516.sel [0] rfl⟩

/-! function 15: valise/valiselaw5.same -/
theorem valiselaw5_same.calls {S0 : Nat → Prop} {w0 : World} {A_a_0 : Option Addr} {c_a_0 : Nat} {A_b_1 : Option Addr} {c_b_1 : Nat} {l_a_0 : List Int} {l_b_1 : List Int} {r : Bool} (HS0 : Hp S0 w0 w0 [.rd A_a_0 (rowC (Eint .i64) l_a_0), .rd A_b_1 (rowC (Eint .i64) l_b_1)]) (hc_a_0 : l_a_0.length ≤ c_a_0) (hc_b_1 : l_b_1.length ≤ c_b_1) (h : valiselaw5_same.f l_a_0 l_b_1 = some r) :
    Calls Try.prog 15 ([.slice A_a_0 l_a_0.length c_a_0, .slice A_b_1 l_b_1.length c_b_1] : List Value).toArray w0 (fun e w => e = .returned (.bool r) ∧ Hp S0 w0 w []) := by
  have H : ((if (l_a_0.length : Int) ≠ (l_b_1.length : Int) then (some false) else ((valiselaw5_same.l1 FU 0 l_a_0 l_b_1).bind fun (yj2 : Sum (Bool) (Unit)) => onR yj2 (fun r => some r) fun () => some true)) : Option (Bool)) = some r := h
  refine calls_start Try.func15 rfl rfl ?_
  refine L_seq ?_
  refine L_region ?_
  refine F_val rfl rfl rfl (O_assign rfl rfl) ?_
  refine F_nil ?_
  refine L_seq ?_
  refine L_seq ?_
  refine L_region ?_
  refine F_val rfl rfl rfl (O_move rfl rfl) ?_
  refine F_val rfl rfl rfl (O_len rfl rfl Try.underlying22) ?_
  refine F_val rfl rfl rfl (O_move rfl rfl) ?_
  refine F_val rfl rfl rfl (O_len rfl rfl Try.underlying22) ?_
  refine F_val rfl rfl rfl (O_ne rfl rfl rfl) ?_
  refine F_nil ?_
  refine L_condP rfl (fun c1 => ?_) (fun c1 => ?_)
  · have H := of_pos H c1
    refine L_seq ?_
    refine L_region ?_
    refine F_val rfl rfl rfl (O_assign rfl rfl) ?_
    refine F_nil ?_
    refine L_ret (fun a ha => (post_ret1 ha rfl rfl ?_))
    obtain rfl := Option.some.inj H
    exact ⟨rfl, HS0.sel [] rfl⟩
  · have H := of_neg H c1
    refine L_skip ?_
    refine L_seq ?_
    refine L_seq ?_
    refine L_region ?_
    refine F_val rfl rfl rfl (O_assign rfl rfl) ?_
    refine F_nil ?_
    obtain ⟨yj2, Hyj2, H⟩ := of_bind H
    refine L_join (fun a w => yj2 = Sum.inr () ∧ Is Try.f15.ntmps a [] ∧ Hp S0 w0 w [.rd A_a_0 (rowC (Eint .i64) l_a_0), .rd A_b_1 (rowC (Eint .i64) l_b_1)]) (fun Qj2 hNj2 hOj2 => ?_) (fun a w hR => ?_)
    · have HOj2 := H
      have H := Hyj2
      refine L_blk (fun Qb45 hNb45 hXb45 hOb45 => ?_)
      refine L_lp (fun k a w => ∃ (i_72 : Int), Is Try.f15.ntmps a [(0, .slice A_a_0 l_a_0.length c_a_0), (1, .slice A_b_1 l_b_1.length c_b_1), (5, .int .i64 i_72)] ∧ Hp S0 w0 w [.rd A_a_0 (rowC (Eint .i64) l_a_0), .rd A_b_1 (rowC (Eint .i64) l_b_1)] ∧ valiselaw5_same.l1 k i_72 l_a_0 l_b_1 = some yj2) FU (fun a ha => ⟨_, Is.cons ha (Is.cons ha (Is.cons ha (Is.nil ha) rfl) rfl) rfl, HS0.sel [0, 1] rfl, H⟩) (fun kp71 a w73 hI Qp71 hNp71 hOp71 => ?_)
      obtain ⟨i_72, ha, HS74, HAp71⟩ := hI
      cases kp71 with
      | zero => cases (show (none : Option _) = some _ from HAp71)
      | succ kp71 =>
        have H := (valiselaw5_same.l1.eq_2 ..).symm.trans HAp71
        refine wpLF_app ?_ ha
        refine L_seq ?_
        refine L_seq ?_
        refine L_region ?_
        refine F_val rfl rfl rfl (O_move rfl rfl) ?_
        refine F_val rfl rfl rfl (O_move rfl rfl) ?_
        refine F_val rfl rfl rfl (O_len rfl rfl Try.underlying22) ?_
        refine F_val rfl rfl rfl (O_lt rfl rfl rfl) ?_
        refine F_nil ?_
        refine L_condP rfl (fun c75 => ?_) (fun c75 => ?_)
        · have H := of_pos H c75
          refine L_skip ?_
          refine L_seq ?_
          refine L_blk (fun Q76 hN76 hX76 hO76 => ?_)
          refine L_seq ?_
          refine L_quiet mix (by kernel_rfl) ?_
          refine Q_val rfl rfl rfl (fun wq hq => O_move rfl rfl) ?_
          refine Q_val rfl rfl rfl (fun wq hq => O_move rfl rfl) ?_
          obtain ⟨⟨g77, g78⟩, H⟩ := of_gd H
          refine Q_val rfl rfl rfl (fun wq hq => O_idx rfl rfl rfl Try.underlying22 size3 g77 g78 (Cells.isA ((HS74.keep hq).cells_rd (i := 0) rfl) (rowC_ne (E := (Eint .i64)) g77 g78 (by decide)))) ?_
          refine Q_val rfl rfl rfl (fun wq hq => O_loadC rfl rfl flat3 ((HS74.keep hq).cells_rd (i := 0) rfl) (int_cell g77 g78)) ?_
          refine Q_val rfl rfl rfl (fun wq hq => O_move rfl rfl) ?_
          refine Q_val rfl rfl rfl (fun wq hq => O_move rfl rfl) ?_
          obtain ⟨⟨g79, g80⟩, H⟩ := of_gd H
          refine Q_val rfl rfl rfl (fun wq hq => O_idx rfl rfl rfl Try.underlying22 size3 g79 g80 (Cells.isA ((HS74.keep hq).cells_rd (i := 1) rfl) (rowC_ne (E := (Eint .i64)) g79 g80 (by decide)))) ?_
          refine Q_val rfl rfl rfl (fun wq hq => O_loadC rfl rfl flat3 ((HS74.keep hq).cells_rd (i := 1) rfl) (int_cell g79 g80)) ?_
          refine Q_val rfl rfl rfl (fun wq hq => O_ne rfl rfl rfl) ?_
          refine Q_nil (fun w81 hw82 => ?_)
          have HS83 := HS74.keep hw82
          refine L_condP rfl (fun c84 => ?_) (fun c84 => ?_)
          · have H := of_pos H c84
            refine L_seq ?_
            refine L_region ?_
            refine F_val rfl rfl rfl (O_assign rfl rfl) ?_
            refine F_nil ?_
            refine L_ret (fun a ha => (hO76 .ret a _ rfl (hOp71 .ret a _ rfl (hOb45 .ret a _ rfl (hOj2 .ret a _ rfl (post_ret1 ha rfl rfl ?_))))))
            obtain rfl := Option.some.inj H
            obtain rfl := Option.some.inj (show (some false : Option (Bool)) = some _ from HOj2)
            exact ⟨rfl, HS83.sel [] rfl⟩
          · have H := of_neg H c84
            refine L_skip ?_
            refine L_endB hN76 ?_
            refine L_region ?_
            refine F_val rfl rfl rfl (O_move rfl rfl) ?_
            refine F_val rfl rfl rfl (O_add rfl rfl rfl) ?_
            obtain ⟨x85, h86, H⟩ := of_bnd H
            refine F_val rfl rfl rfl (O_assign' rfl rfl (congrArg (Value.int .i64) h86)) ?_
            refine F_nil ?_
            refine L_nil (fun a ha => hNp71 _ a _ (Nat.lt_succ_self _) ⟨_, Is.cons ha (Is.cons ha (Is.cons ha (Is.nil ha) rfl) rfl) rfl, HS83.sel [0, 1] rfl, H⟩)
        · have H := of_neg H c75
          refine L_exitB (fun a w h => hOp71 (.exit 0) a w rfl (hXb45 a w h)) ?_
          refine L_nil (fun a ha => hNj2 a _ ⟨(Option.some.inj H).symm, Is.nil ha, HS74.sel [0, 1] rfl⟩)
    · obtain ⟨rfl, ha, HS88⟩ := hR
      refine wpLF_app ?_ ha
      have H := (onR_inr _ _ _).symm.trans H
      refine L_seq ?_
      refine L_region ?_
      refine F_val rfl rfl rfl (O_assign rfl rfl) ?_
      refine F_nil ?_
      refine L_ret (fun a ha => (post_ret1 ha rfl rfl ?_))
      obtain rfl := Option.some.inj H
      exact ⟨rfl, HS88.sel [] rfl⟩

/-! function 17: valise/valiseref5.FixedDist -/
theorem valiseref5_FixedDist.calls {S0 : Nat → Prop} {w0 : World} {r : List Int} (HS0 : Hp S0 w0 w0 []) (h : valiseref5_FixedDist.f = some r) :
    Calls Try.prog 17 ([] : List Value).toArray w0 (fun e w => ∃ (A1 : Option Addr), ∃ (c1 : Nat), e = .returned (.slice A1 r.length c1) ∧ Hp S0 w0 w [.own A1 c1 (rowC (Eint .i64) r) 3 (Eint .i64).sz]) := by
  have H : (((valiseref5_FixedDist.l1 FU ([] : List Int) 0 ).bind fun l65 => some l65) : Option (List Int)) = some r := h
  refine calls_start Try.func17 rfl rfl ?_
  refine L_seq ?_
  refine L_region ?_
  refine F_val rfl rfl rfl (O_assign rfl rfl) ?_
  refine F_nil ?_
  refine L_seq ?_
  refine L_region ?_
  refine F_val rfl rfl rfl (O_assign rfl rfl) ?_
  have HS1 := HS0.addNil 3 (Eint .i64).sz
  have HS1 : Hp S0 w0 w0 [.own none 0 (rowC (Eint .i64) ([] : List Int)) 3 (Eint .i64).sz] := HS1
  refine F_nil ?_
  refine L_seq ?_
  refine L_seq ?_
  refine L_region ?_
  refine F_val rfl rfl rfl (O_assign rfl rfl) ?_
  refine F_nil ?_
  obtain ⟨yj3, Hyj3, H⟩ := of_bind H
  refine L_join (fun a w => ∃ (l65 : List Int), ∃ (A63 : Option Addr), ∃ (c64 : Nat), yj3 = l65 ∧ Is Try.f17.ntmps a [(1, .slice A63 l65.length c64)] ∧ Hp S0 w0 w [.own A63 c64 (rowC (Eint .i64) l65) 3 (Eint .i64).sz]) (fun Qj3 hNj3 hOj3 => ?_) (fun a w hR => ?_)
  · skip
    have H := Hyj3
    refine L_blk (fun Qb66 hNb66 hXb66 hOb66 => ?_)
    refine L_lp (fun k a w => ∃ (l105 : List Int), ∃ (s_106 : Int), ∃ (A103 : Option Addr), ∃ (c104 : Nat), Is Try.f17.ntmps a [(1, .slice A103 l105.length c104), (2, .int .i64 s_106)] ∧ Hp S0 w0 w [.own A103 c104 (rowC (Eint .i64) l105) 3 (Eint .i64).sz] ∧ valiseref5_FixedDist.l1 k l105 s_106  = some yj3) FU (fun a ha => ⟨_, _, _, _, Is.cons ha (Is.cons ha (Is.nil ha) rfl) rfl, HS1.sel [0] rfl, H⟩) (fun kp102 a w107 hI Qp102 hNp102 hOp102 => ?_)
    obtain ⟨l105, s_106, A103, c104, ha, HS108, HAp102⟩ := hI
    cases kp102 with
    | zero => cases (show (none : Option _) = some _ from HAp102)
    | succ kp102 =>
      have H := (valiseref5_FixedDist.l1.eq_2 ..).symm.trans HAp102
      refine wpLF_app ?_ ha
      refine L_seq ?_
      refine L_seq ?_
      refine L_region ?_
      refine F_val rfl rfl rfl (O_move rfl rfl) ?_
      refine F_val rfl rfl rfl (O_lt rfl rfl rfl) ?_
      refine F_nil ?_
      refine L_condP rfl (fun c109 => ?_) (fun c109 => ?_)
      · have H := of_pos H c109
        refine L_skip ?_
        refine L_seq ?_
        refine L_blk (fun Q110 hN110 hX110 hO110 => ?_)
        refine L_region ?_
        refine F_val rfl rfl rfl (O_move rfl rfl) ?_
        refine F_litE (E := (Eint .i64)) (e := 3) [(0, .int .i64 5)] [5] rfl rfl rfl rfl rfl rfl rfl (by decide) (fun w => by kernel_rfl) HS108 (fun w111 A113 c114 HS112 => ?_)
        have HS112 : Hp S0 w0 w111 [.own A103 c104 (rowC (Eint .i64) l105) 3 (Eint .i64).sz, .own A113 c114 (rowC (Eint .i64) [5]) 3 (Eint .i64).sz] := HS112
        obtain ⟨l118, h119, H⟩ := of_bnd H
        obtain ⟨g120, H⟩ := of_gd H
        refine F_appE (E := (Eint .i64)) (xs := l105) (ys := [5]) (i := 0) rfl rfl rfl rfl Try.underlying22 info3 rfl (by decide) (by decide) rfl rfl HS112 rfl (HS112.cells_own (i := 1) rfl) h119 g120 (fun w116 A121 c122 HS117 => ?_)
        have HS117 : Hp S0 w0 w116 [.own A121 c122 (rowC (Eint .i64) l118) 3 (Eint .i64).sz, .own A113 c114 (rowC (Eint .i64) [5]) 3 (Eint .i64).sz] := HS117
        refine F_val rfl rfl rfl (O_assign rfl rfl) ?_
        refine F_nil ?_
        refine L_endB hN110 ?_
        refine L_region ?_
        refine F_val rfl rfl rfl (O_move rfl rfl) ?_
        refine F_val rfl rfl rfl (O_add rfl rfl rfl) ?_
        obtain ⟨x123, h124, H⟩ := of_bnd H
        refine F_val rfl rfl rfl (O_assign' rfl rfl (congrArg (Value.int .i64) h124)) ?_
        refine F_nil ?_
        refine L_nil (fun a ha => hNp102 _ a _ (Nat.lt_succ_self _) ⟨_, _, _, _, Is.cons ha (Is.cons ha (Is.nil ha) rfl) rfl, HS117.sel [0] rfl, H⟩)
      · have H := of_neg H c109
        refine L_exitB (fun a w h => hOp102 (.exit 0) a w rfl (hXb66 a w h)) ?_
        refine L_nil (fun a ha => hNj3 a _ ⟨_, _, _, (Option.some.inj H).symm, Is.cons ha (Is.nil ha) rfl, HS108.sel [0] rfl⟩)
  · obtain ⟨l65, A63, c64, ej, ha, HS126⟩ := hR
    obtain rfl := ej.symm
    refine wpLF_app ?_ ha
    refine L_seq ?_
    refine L_region ?_
    refine F_val rfl rfl rfl (O_move rfl rfl) ?_
    refine F_val rfl rfl rfl (O_assign rfl rfl) ?_
    refine F_nil ?_
    refine L_ret (fun a ha => (post_ret1 ha rfl rfl ?_))
    obtain rfl := Option.some.inj H
    exact ⟨_, _, rfl, HS126.sel [0] rfl⟩

/-! function 18: valise/valiselaw5.spoil -/
theorem valiselaw5_spoil.calls {S0 : Nat → Prop} {w0 : World} {A_l_0 : Option Addr} {c_l_0 : Nat} {l_l_0 : List Int} {r : List Int} (HS0 : Hp S0 w0 w0 [.own A_l_0 c_l_0 (rowC (Eint .i64) l_l_0) 3 (Eint .i64).sz]) (h : valiselaw5_spoil.f l_l_0 = some r) :
    Calls Try.prog 18 ([.slice A_l_0 l_l_0.length c_l_0] : List Value).toArray w0 (fun e w => e = .returned (.tuple #[]) ∧ Hp S0 w0 w [.own A_l_0 c_l_0 (rowC (Eint .i64) r) 3 (Eint .i64).sz] ∧ r.length = l_l_0.length) := by
  have H : (((valiselaw5_spoil.l1 FU l_l_0 0 ).bind fun l43 => gd (l43.length = l_l_0.length) (some l43)) : Option (List Int)) = some r := h
  refine calls_start Try.func18 rfl rfl ?_
  refine L_seq ?_
  refine L_region ?_
  refine F_val rfl rfl rfl (O_assign rfl rfl) ?_
  refine F_nil ?_
  obtain ⟨yj1, Hyj1, H⟩ := of_bind H
  refine L_join (fun a w => ∃ (l43 : List Int), yj1 = l43 ∧ Is Try.f18.ntmps a [] ∧ Hp S0 w0 w [.own A_l_0 c_l_0 (rowC (Eint .i64) l43) 3 (Eint .i64).sz]) (fun Qj1 hNj1 hOj1 => ?_) (fun a w hR => ?_)
  · skip
    have H := Hyj1
    refine L_blk (fun Qb44 hNb44 hXb44 hOb44 => ?_)
    refine L_lp (fun k a w => ∃ (l70 : List Int), ∃ (i_71 : Int), Is Try.f18.ntmps a [(0, .slice A_l_0 l70.length c_l_0), (2, .int .i64 i_71)] ∧ Hp S0 w0 w [.own A_l_0 c_l_0 (rowC (Eint .i64) l70) 3 (Eint .i64).sz] ∧ valiselaw5_spoil.l1 k l70 i_71  = some yj1) FU (fun a ha => ⟨_, _, Is.cons ha (Is.cons ha (Is.nil ha) rfl) rfl, HS0.sel [0] rfl, H⟩) (fun kp69 a w72 hI Qp69 hNp69 hOp69 => ?_)
    obtain ⟨l70, i_71, ha, HS73, HAp69⟩ := hI
    cases kp69 with
    | zero => cases (show (none : Option _) = some _ from HAp69)
    | succ kp69 =>
      have H := (valiselaw5_spoil.l1.eq_2 ..).symm.trans HAp69
      refine wpLF_app ?_ ha
      refine L_seq ?_
      refine L_seq ?_
      refine L_region ?_
      refine F_val rfl rfl rfl (O_move rfl rfl) ?_
      refine F_val rfl rfl rfl (O_move rfl rfl) ?_
      refine F_val rfl rfl rfl (O_len rfl rfl Try.underlying22) ?_
      refine F_val rfl rfl rfl (O_lt rfl rfl rfl) ?_
      refine F_nil ?_
      refine L_condP rfl (fun c74 => ?_) (fun c74 => ?_)
      · have H := of_pos H c74
        refine L_skip ?_
        refine L_seq ?_
        refine L_blk (fun Q75 hN75 hX75 hO75 => ?_)
        refine L_region ?_
        refine F_val rfl rfl rfl (O_move rfl rfl) ?_
        refine F_val rfl rfl rfl (O_move rfl rfl) ?_
        obtain ⟨⟨g76, g77⟩, H⟩ := of_gd H
        refine F_val rfl rfl rfl (O_idx rfl rfl rfl Try.underlying22 size3 g76 g77 (Cells.isA (HS73.cells_own (i := 0) rfl) (rowC_ne (E := (Eint .i64)) g76 g77 (by decide)))) ?_
        obtain ⟨l80, h81, H⟩ := of_bnd H
        refine F_setE (E := (Eint .i64)) (i := 0) (a := 9) (q := i_71) rfl rfl rfl rfl rfl rfl size3 HS73 rfl (by decide) g76 g77 h81 (fun w78 HS79 => ?_)
        have e82 : l70.length = l80.length := by rw [← h81, List.length_set]
        refine F_know (i := 0) rfl (congrArg (fun n => Value.slice A_l_0 n c_l_0) e82) ?_
        have HS79 : Hp S0 w0 w78 [.own A_l_0 c_l_0 (rowC (Eint .i64) l80) 3 (Eint .i64).sz] := HS79
        refine F_nil ?_
        refine L_endB hN75 ?_
        refine L_region ?_
        refine F_val rfl rfl rfl (O_move rfl rfl) ?_
        refine F_val rfl rfl rfl (O_add rfl rfl rfl) ?_
        obtain ⟨x83, h84, H⟩ := of_bnd H
        refine F_val rfl rfl rfl (O_assign' rfl rfl (congrArg (Value.int .i64) h84)) ?_
        refine F_nil ?_
        refine L_nil (fun a ha => hNp69 _ a _ (Nat.lt_succ_self _) ⟨_, _, Is.cons ha (Is.cons ha (Is.nil ha) rfl) rfl, HS79.sel [0] rfl, H⟩)
      · have H := of_neg H c74
        refine L_exitB (fun a w h => hOp69 (.exit 0) a w rfl (hXb44 a w h)) ?_
        refine L_nil (fun a ha => hNj1 a _ ⟨_, (Option.some.inj H).symm, Is.nil ha, HS73.sel [0] rfl⟩)
  · obtain ⟨l43, ej, ha, HS86⟩ := hR
    obtain rfl := ej.symm
    refine wpLF_app ?_ ha
    obtain ⟨g87, H⟩ := of_gd H
    refine L_nil (fun a ha => (post_end0 ha rfl ?_))
    obtain rfl := Option.some.inj H
    exact ⟨rfl, HS86.sel [0] rfl, g87⟩

/-! function 19: valise/valiselaw5.apartInts -/
theorem valiselaw5_apartInts.calls {S0 : Nat → Prop} {w0 : World} {A_a_0 : Option Addr} {c_a_0 : Nat} {A_b_1 : Option Addr} {c_b_1 : Nat} {l_a_0 : List Int} {l_b_1 : List Int} {r : Bool × List Int × List Int} (HS0 : Hp S0 w0 w0 [.own A_a_0 c_a_0 (rowC (Eint .i64) l_a_0) 3 (Eint .i64).sz, .own A_b_1 c_b_1 (rowC (Eint .i64) l_b_1) 3 (Eint .i64).sz]) (h : valiselaw5_apartInts.f l_a_0 l_b_1 = some r) :
    Calls Try.prog 19 ([.slice A_a_0 l_a_0.length c_a_0, .slice A_b_1 l_b_1.length c_b_1] : List Value).toArray w0 (fun e w => e = .returned (.bool r.1) ∧ Hp S0 w0 w [.own A_a_0 c_a_0 (rowC (Eint .i64) r.2.1) 3 (Eint .i64).sz, .own A_b_1 c_b_1 (rowC (Eint .i64) r.2.2) 3 (Eint .i64).sz] ∧ r.2.1.length = l_a_0.length ∧ r.2.2.length = l_b_1.length) := by
  have H : (((valiselaw5_apartInts.l1 FU l_a_0 0 ).bind fun l43 => (valiselaw5_apartInts.l3 FU l_b_1 0 ).bind fun l129 => bnd (l43 ++ [5]) fun l180 => gd ((l180.length : Int) * 8 ≤ 140737488355328) (bnd (l129 ++ [6]) fun l194 => gd ((l194.length : Int) * 8 ≤ 140737488355328) ((valiselaw5_apartInts.l5 FU 0 l_a_0 l_b_1 l43 l129).bind fun (yj202 : Sum (Bool × List Int × List Int) (Unit)) => onR yj202 (fun r => some r) fun () => (valiselaw5_apartInts.l7 FU 0 l_a_0 l_b_1 l43 l129).bind fun (yj283 : Sum (Bool × List Int × List Int) (Unit)) => onR yj283 (fun r => some r) fun () => gd ((0 : Int) ≤ (l43.length : Int) ∧ (l43.length : Int) < (l180.length : Int)) ((if rd l180 (l43.length : Int) = 5 then (gd ((0 : Int) ≤ (l129.length : Int) ∧ (l129.length : Int) < (l194.length : Int)) (some (decide (rd l194 (l129.length : Int) = 6)))) else (some false)).bind fun b368 => gd (l43.length = l_a_0.length) (gd (l129.length = l_b_1.length) (some (b368, l43, l129))))))) : Option (Bool × List Int × List Int)) = some r := h
  refine calls_start Try.func19 rfl rfl ?_
  refine L_seq ?_
  refine L_region ?_
  refine F_val rfl rfl rfl (O_assign rfl rfl) ?_
  refine F_nil ?_
  refine L_seq ?_
  refine L_seq ?_
  refine L_region ?_
  refine F_val rfl rfl rfl (O_assign rfl rfl) ?_
  refine F_nil ?_
  obtain ⟨yj1, Hyj1, H⟩ := of_bind H
  refine L_join (fun a w => ∃ (l43 : List Int), yj1 = l43 ∧ Is Try.f19.ntmps a [(0, .slice A_a_0 l43.length c_a_0), (1, .slice A_b_1 l_b_1.length c_b_1)] ∧ Hp S0 w0 w [.own A_a_0 c_a_0 (rowC (Eint .i64) l43) 3 (Eint .i64).sz, .own A_b_1 c_b_1 (rowC (Eint .i64) l_b_1) 3 (Eint .i64).sz]) (fun Qj1 hNj1 hOj1 => ?_) (fun a w hR => ?_)
  · skip
    have H := Hyj1
    refine L_blk (fun Qb44 hNb44 hXb44 hOb44 => ?_)
    refine L_lp (fun k a w => ∃ (l70 : List Int), ∃ (i_71 : Int), Is Try.f19.ntmps a [(0, .slice A_a_0 l70.length c_a_0), (1, .slice A_b_1 l_b_1.length c_b_1), (5, .int .i64 i_71)] ∧ Hp S0 w0 w [.own A_a_0 c_a_0 (rowC (Eint .i64) l70) 3 (Eint .i64).sz, .own A_b_1 c_b_1 (rowC (Eint .i64) l_b_1) 3 (Eint .i64).sz] ∧ valiselaw5_apartInts.l1 k l70 i_71  = some yj1) FU (fun a ha => ⟨_, _, Is.cons ha (Is.cons ha (Is.cons ha (Is.nil ha) rfl) rfl) rfl, HS0.sel [0, 1] rfl, H⟩) (fun kp69 a w72 hI Qp69 hNp69 hOp69 => ?_)
    obtain ⟨l70, i_71, ha, HS73, HAp69⟩ := hI
    cases kp69 with
    | zero => cases (show (none : Option _) = some _ from HAp69)
    | succ kp69 =>
      have H := (valiselaw5_apartInts.l1.eq_2 ..).symm.trans HAp69
      refine wpLF_app ?_ ha
      refine L_seq ?_
      refine L_seq ?_
      refine L_region ?_
      refine F_val rfl rfl rfl (O_move rfl rfl) ?_
      refine F_val rfl rfl rfl (O_move rfl rfl) ?_
      refine F_val rfl rfl rfl (O_len rfl rfl Try.underlying22) ?_
      refine F_val rfl rfl rfl (O_lt rfl rfl rfl) ?_
      refine F_nil ?_
      refine L_condP rfl (fun c74 => ?_) (fun c74 => ?_)
      · have H := of_pos H c74
        refine L_skip ?_
        refine L_seq ?_
        refine L_blk (fun Q75 hN75 hX75 hO75 => ?_)
        refine L_region ?_
        refine F_val rfl rfl rfl (O_move rfl rfl) ?_
        refine F_val rfl rfl rfl (O_move rfl rfl) ?_
        obtain ⟨⟨g76, g77⟩, H⟩ := of_gd H
        refine F_val rfl rfl rfl (O_idx rfl rfl rfl Try.underlying22 size3 g76 g77 (Cells.isA (HS73.cells_own (i := 0) rfl) (rowC_ne (E := (Eint .i64)) g76 g77 (by decide)))) ?_
        obtain ⟨l80, h81, H⟩ := of_bnd H
        refine F_setE (E := (Eint .i64)) (i := 0) (a := 9) (q := i_71) rfl rfl rfl rfl rfl rfl size3 HS73 rfl (by decide) g76 g77 h81 (fun w78 HS79 => ?_)
        have e82 : l70.length = l80.length := by rw [← h81, List.length_set]
        refine F_know (i := 0) rfl (congrArg (fun n => Value.slice A_a_0 n c_a_0) e82) ?_
        have HS79 : Hp S0 w0 w78 [.own A_a_0 c_a_0 (rowC (Eint .i64) l80) 3 (Eint .i64).sz, .own A_b_1 c_b_1 (rowC (Eint .i64) l_b_1) 3 (Eint .i64).sz] := HS79
        refine F_nil ?_
        refine L_endB hN75 ?_
        refine L_region ?_
        refine F_val rfl rfl rfl (O_move rfl rfl) ?_
        refine F_val rfl rfl rfl (O_add rfl rfl rfl) ?_
        obtain ⟨x83, h84, H⟩ := of_bnd H
        refine F_val rfl rfl rfl (O_assign' rfl rfl (congrArg (Value.int .i64) h84)) ?_
        refine F_nil ?_
        refine L_nil (fun a ha => hNp69 _ a _ (Nat.lt_succ_self _) ⟨_, _, Is.cons ha (Is.cons ha (Is.cons ha (Is.nil ha) rfl) rfl) rfl, HS79.sel [0, 1] rfl, H⟩)
      · have H := of_neg H c74
        refine L_exitB (fun a w h => hOp69 (.exit 0) a w rfl (hXb44 a w h)) ?_
        refine L_nil (fun a ha => hNj1 a _ ⟨_, (Option.some.inj H).symm, Is.cons ha (Is.cons ha (Is.nil ha) rfl) rfl, HS73.sel [0, 1] rfl⟩)
  · obtain ⟨l43, ej, ha, HS86⟩ := hR
    obtain rfl := ej.symm
    refine wpLF_app ?_ ha
    refine L_seq ?_
    refine L_seq ?_
    refine L_region ?_
    refine F_val rfl rfl rfl (O_assign rfl rfl) ?_
    refine F_nil ?_
    obtain ⟨yj87, Hyj87, H⟩ := of_bind H
    refine L_join (fun a w => ∃ (l129 : List Int), yj87 = l129 ∧ Is Try.f19.ntmps a [(0, .slice A_a_0 l43.length c_a_0), (1, .slice A_b_1 l129.length c_b_1)] ∧ Hp S0 w0 w [.own A_a_0 c_a_0 (rowC (Eint .i64) l43) 3 (Eint .i64).sz, .own A_b_1 c_b_1 (rowC (Eint .i64) l129) 3 (Eint .i64).sz]) (fun Qj87 hNj87 hOj87 => ?_) (fun a w hR => ?_)
    · skip
      have H := Hyj87
      refine L_blk (fun Qb130 hNb130 hXb130 hOb130 => ?_)
      refine L_lp (fun k a w => ∃ (l156 : List Int), ∃ (i_157 : Int), Is Try.f19.ntmps a [(0, .slice A_a_0 l43.length c_a_0), (1, .slice A_b_1 l156.length c_b_1), (6, .int .i64 i_157)] ∧ Hp S0 w0 w [.own A_a_0 c_a_0 (rowC (Eint .i64) l43) 3 (Eint .i64).sz, .own A_b_1 c_b_1 (rowC (Eint .i64) l156) 3 (Eint .i64).sz] ∧ valiselaw5_apartInts.l3 k l156 i_157  = some yj87) FU (fun a ha => ⟨_, _, Is.cons ha (Is.cons ha (Is.cons ha (Is.nil ha) rfl) rfl) rfl, HS86.sel [0, 1] rfl, H⟩) (fun kp155 a w158 hI Qp155 hNp155 hOp155 => ?_)
      obtain ⟨l156, i_157, ha, HS159, HAp155⟩ := hI
      cases kp155 with
      | zero => cases (show (none : Option _) = some _ from HAp155)
      | succ kp155 =>
        have H := (valiselaw5_apartInts.l3.eq_2 ..).symm.trans HAp155
        refine wpLF_app ?_ ha
        refine L_seq ?_
        refine L_seq ?_
        refine L_region ?_
        refine F_val rfl rfl rfl (O_move rfl rfl) ?_
        refine F_val rfl rfl rfl (O_move rfl rfl) ?_
        refine F_val rfl rfl rfl (O_len rfl rfl Try.underlying22) ?_
        refine F_val rfl rfl rfl (O_lt rfl rfl rfl) ?_
        refine F_nil ?_
        refine L_condP rfl (fun c160 => ?_) (fun c160 => ?_)
        · have H := of_pos H c160
          refine L_skip ?_
          refine L_seq ?_
          refine L_blk (fun Q161 hN161 hX161 hO161 => ?_)
          refine L_region ?_
          refine F_val rfl rfl rfl (O_move rfl rfl) ?_
          refine F_val rfl rfl rfl (O_move rfl rfl) ?_
          obtain ⟨⟨g162, g163⟩, H⟩ := of_gd H
          refine F_val rfl rfl rfl (O_idx rfl rfl rfl Try.underlying22 size3 g162 g163 (Cells.isA (HS159.cells_own (i := 1) rfl) (rowC_ne (E := (Eint .i64)) g162 g163 (by decide)))) ?_
          obtain ⟨l166, h167, H⟩ := of_bnd H
          refine F_setE (E := (Eint .i64)) (i := 1) (a := 8) (q := i_157) rfl rfl rfl rfl rfl rfl size3 HS159 rfl (by decide) g162 g163 h167 (fun w164 HS165 => ?_)
          have e168 : l156.length = l166.length := by rw [← h167, List.length_set]
          refine F_know (i := 1) rfl (congrArg (fun n => Value.slice A_b_1 n c_b_1) e168) ?_
          have HS165 : Hp S0 w0 w164 [.own A_a_0 c_a_0 (rowC (Eint .i64) l43) 3 (Eint .i64).sz, .own A_b_1 c_b_1 (rowC (Eint .i64) l166) 3 (Eint .i64).sz] := HS165
          refine F_nil ?_
          refine L_endB hN161 ?_
          refine L_region ?_
          refine F_val rfl rfl rfl (O_move rfl rfl) ?_
          refine F_val rfl rfl rfl (O_add rfl rfl rfl) ?_
          obtain ⟨x169, h170, H⟩ := of_bnd H
          refine F_val rfl rfl rfl (O_assign' rfl rfl (congrArg (Value.int .i64) h170)) ?_
          refine F_nil ?_
          refine L_nil (fun a ha => hNp155 _ a _ (Nat.lt_succ_self _) ⟨_, _, Is.cons ha (Is.cons ha (Is.cons ha (Is.nil ha) rfl) rfl) rfl, HS165.sel [0, 1] rfl, H⟩)
        · have H := of_neg H c160
          refine L_exitB (fun a w h => hOp155 (.exit 2) a w rfl (hXb130 a w h)) ?_
          refine L_nil (fun a ha => hNj87 a _ ⟨_, (Option.some.inj H).symm, Is.cons ha (Is.cons ha (Is.nil ha) rfl) rfl, HS159.sel [0, 1] rfl⟩)
    · obtain ⟨l129, ej, ha, HS172⟩ := hR
      obtain rfl := ej.symm
      refine wpLF_app ?_ ha
      refine L_seq ?_
      refine L_region ?_
      refine F_val rfl rfl rfl (O_move rfl rfl) ?_
      refine F_litE (E := (Eint .i64)) (e := 3) [(0, .int .i64 5)] [5] rfl rfl rfl rfl rfl rfl rfl (by decide) (fun w => by kernel_rfl) HS172 (fun w173 A175 c176 HS174 => ?_)
      have HS174 : Hp S0 w0 w173 [.own A_a_0 c_a_0 (rowC (Eint .i64) l43) 3 (Eint .i64).sz, .own A_b_1 c_b_1 (rowC (Eint .i64) l129) 3 (Eint .i64).sz, .own A175 c176 (rowC (Eint .i64) [5]) 3 (Eint .i64).sz] := HS174
      obtain ⟨l180, h181, H⟩ := of_bnd H
      obtain ⟨g182, H⟩ := of_gd H
      refine F_appE2 (E := (Eint .i64)) (xs := l43) (ys := [5]) (i := 0) rfl rfl rfl rfl Try.underlying22 info3 rfl (by decide) (by decide) rfl rfl HS174 rfl (HS174.cells_own (i := 2) rfl) h181 g182 (fun w178 HS179 => ?_) (fun w178 A183 c184 HS179 => ?_)
      · skip
        have HS179 : Hp S0 w0 w178 [.own A_a_0 c_a_0 (rowC (Eint .i64) l180) 3 (Eint .i64).sz, .own A_b_1 c_b_1 (rowC (Eint .i64) l129) 3 (Eint .i64).sz, .own A175 c176 (rowC (Eint .i64) [5]) 3 (Eint .i64).sz] := HS179
        have hs185 := (HS179.cells_own (i := 0) rfl).preZ h181
        refine F_val rfl rfl rfl (O_assign rfl rfl) ?_
        refine F_nil ?_
        refine L_seq ?_
        refine L_region ?_
        refine F_val rfl rfl rfl (O_move rfl rfl) ?_
        refine F_litE (E := (Eint .i64)) (e := 3) [(0, .int .i64 6)] [6] rfl rfl rfl rfl rfl rfl rfl (by decide) (fun w => by kernel_rfl) HS179 (fun w187 A189 c190 HS188 => ?_)
        have HS188 : Hp S0 w0 w187 [.own A_a_0 c_a_0 (rowC (Eint .i64) l180) 3 (Eint .i64).sz, .own A_b_1 c_b_1 (rowC (Eint .i64) l129) 3 (Eint .i64).sz, .own A175 c176 (rowC (Eint .i64) [5]) 3 (Eint .i64).sz, .own A189 c190 (rowC (Eint .i64) [6]) 3 (Eint .i64).sz] := HS188
        obtain ⟨l194, h195, H⟩ := of_bnd H
        obtain ⟨g196, H⟩ := of_gd H
        refine F_appE2 (E := (Eint .i64)) (xs := l129) (ys := [6]) (i := 1) rfl rfl rfl rfl Try.underlying22 info3 rfl (by decide) (by decide) rfl rfl HS188 rfl (HS188.cells_own (i := 3) rfl) h195 g196 (fun w192 HS193 => ?_) (fun w192 A197 c198 HS193 => ?_)
        · skip
          have HS193 : Hp S0 w0 w192 [.own A_a_0 c_a_0 (rowC (Eint .i64) l180) 3 (Eint .i64).sz, .own A_b_1 c_b_1 (rowC (Eint .i64) l194) 3 (Eint .i64).sz, .own A175 c176 (rowC (Eint .i64) [5]) 3 (Eint .i64).sz, .own A189 c190 (rowC (Eint .i64) [6]) 3 (Eint .i64).sz] := HS193
          have hs199 := (HS193.cells_own (i := 1) rfl).preZ h195
          refine F_val rfl rfl rfl (O_assign rfl rfl) ?_
          refine F_nil ?_
          refine L_seq ?_
          refine L_seq ?_
          have HS201 : Hp S0 w0 w192 [.own A_a_0 c_a_0 (rowC (Eint .i64) l180) 3 (Eint .i64).sz, .own A_b_1 c_b_1 (rowC (Eint .i64) l194) 3 (Eint .i64).sz] := HS193.sel [0, 1] rfl
          refine L_region ?_
          refine F_val rfl rfl rfl (O_assign rfl rfl) ?_
          refine F_nil ?_
          obtain ⟨yj202, Hyj202, H⟩ := of_bind H
          refine L_join (fun a w => yj202 = Sum.inr () ∧ Is Try.f19.ntmps a [(0, .slice A_a_0 l43.length c_a_0), (1, .slice A_b_1 l129.length c_b_1), (7, .slice A_a_0 l180.length c_a_0), (8, .slice A_b_1 l194.length c_b_1)] ∧ Hp S0 w0 w [.own A_a_0 c_a_0 (rowC (Eint .i64) l180) 3 (Eint .i64).sz, .own A_b_1 c_b_1 (rowC (Eint .i64) l194) 3 (Eint .i64).sz]) (fun Qj202 hNj202 hOj202 => ?_) (fun a w hR => ?_)
          · have HOj202 := H
            have H := Hyj202
            refine L_blk (fun Qb242 hNb242 hXb242 hOb242 => ?_)
            refine L_lp (fun k a w => ∃ (i_267 : Int), Is Try.f19.ntmps a [(0, .slice A_a_0 l43.length c_a_0), (1, .slice A_b_1 l129.length c_b_1), (7, .slice A_a_0 l180.length c_a_0), (8, .slice A_b_1 l194.length c_b_1), (9, .int .i64 i_267)] ∧ Hp S0 w0 w [.own A_a_0 c_a_0 (rowC (Eint .i64) l180) 3 (Eint .i64).sz, .own A_b_1 c_b_1 (rowC (Eint .i64) l194) 3 (Eint .i64).sz] ∧ valiselaw5_apartInts.l5 k i_267 l_a_0 l_b_1 l43 l129 = some yj202) FU (fun a ha => ⟨_, Is.cons ha (Is.cons ha (Is.cons ha (Is.cons ha (Is.cons ha (Is.nil ha) rfl) rfl) rfl) rfl) rfl, HS201.sel [0, 1] rfl, H⟩) (fun kp266 a w268 hI Qp266 hNp266 hOp266 => ?_)
            obtain ⟨i_267, ha, HS269, HAp266⟩ := hI
            cases kp266 with
            | zero => cases (show (none : Option _) = some _ from HAp266)
            | succ kp266 =>
              have H := (valiselaw5_apartInts.l5.eq_2 ..).symm.trans HAp266
              refine wpLF_app ?_ ha
              refine L_seq ?_
              refine L_seq ?_
              refine L_region ?_
              refine F_val rfl rfl rfl (O_move rfl rfl) ?_
              refine F_val rfl rfl rfl (O_move rfl rfl) ?_
              refine F_val rfl rfl rfl (O_len rfl rfl Try.underlying22) ?_
              refine F_val rfl rfl rfl (O_lt rfl rfl rfl) ?_
              refine F_nil ?_
              refine L_condP rfl (fun c270 => ?_) (fun c270 => ?_)
              · have H := of_pos H c270
                refine L_skip ?_
                refine L_seq ?_
                refine L_blk (fun Q271 hN271 hX271 hO271 => ?_)
                refine L_seq ?_
                refine L_region ?_
                refine F_val rfl rfl rfl (O_move rfl rfl) ?_
                refine F_val rfl rfl rfl (O_move rfl rfl) ?_
                obtain ⟨⟨g272, g273⟩, H⟩ := of_gd H
                refine F_val rfl rfl rfl (O_idx rfl rfl rfl Try.underlying22 size3 g272 g273 (Cells.isA (Cells.sub (HS269.cells_own (i := 0) rfl) hs185) (rowC_ne (E := (Eint .i64)) g272 g273 (by decide)))) ?_
                refine F_val rfl rfl rfl (O_loadC rfl rfl flat3 (Cells.sub (HS269.cells_own (i := 0) rfl) hs185) (int_cell g272 g273)) ?_
                refine F_val rfl rfl rfl (O_ne rfl rfl rfl) ?_
                refine F_nil ?_
                refine L_condP rfl (fun c274 => ?_) (fun c274 => ?_)
                · have H := of_pos H c274
                  refine L_seq ?_
                  refine L_region ?_
                  refine F_val rfl rfl rfl (O_assign rfl rfl) ?_
                  refine F_nil ?_
                  have HS275 := HS269.shrink (E := (Eint .i64)) (i := 0) rfl h181
                  obtain ⟨g276, H⟩ := of_gd H
                  have HS277 := HS275.shrink (E := (Eint .i64)) (i := 1) rfl h195
                  obtain ⟨g278, H⟩ := of_gd H
                  refine L_ret (fun a ha => (hO271 .ret a _ rfl (hOp266 .ret a _ rfl (hOb242 .ret a _ rfl (hOj202 .ret a _ rfl (post_ret1 ha rfl rfl ?_))))))
                  obtain rfl := Option.some.inj H
                  obtain rfl := Option.some.inj (show (some (false, l43, l129) : Option (Bool × List Int × List Int)) = some _ from HOj202)
                  exact ⟨rfl, HS277.sel [0, 1] rfl, g276, g278⟩
                · have H := of_neg H c274
                  refine L_skip ?_
                  refine L_endB hN271 ?_
                  refine L_region ?_
                  refine F_val rfl rfl rfl (O_move rfl rfl) ?_
                  refine F_val rfl rfl rfl (O_add rfl rfl rfl) ?_
                  obtain ⟨x279, h280, H⟩ := of_bnd H
                  refine F_val rfl rfl rfl (O_assign' rfl rfl (congrArg (Value.int .i64) h280)) ?_
                  refine F_nil ?_
                  refine L_nil (fun a ha => hNp266 _ a _ (Nat.lt_succ_self _) ⟨_, Is.cons ha (Is.cons ha (Is.cons ha (Is.cons ha (Is.cons ha (Is.nil ha) rfl) rfl) rfl) rfl) rfl, HS269.sel [0, 1] rfl, H⟩)
              · have H := of_neg H c270
                refine L_exitB (fun a w h => hOp266 (.exit 4) a w rfl (hXb242 a w h)) ?_
                refine L_nil (fun a ha => hNj202 a _ ⟨(Option.some.inj H).symm, Is.cons ha (Is.cons ha (Is.cons ha (Is.cons ha (Is.nil ha) rfl) rfl) rfl) rfl, HS269.sel [0, 1] rfl⟩)
          · obtain ⟨rfl, ha, HS282⟩ := hR
            refine wpLF_app ?_ ha
            have H := (onR_inr _ _ _).symm.trans H
            refine L_seq ?_
            refine L_seq ?_
            refine L_region ?_
            refine F_val rfl rfl rfl (O_assign rfl rfl) ?_
            refine F_nil ?_
            obtain ⟨yj283, Hyj283, H⟩ := of_bind H
            refine L_join (fun a w => yj283 = Sum.inr () ∧ Is Try.f19.ntmps a [(0, .slice A_a_0 l43.length c_a_0), (1, .slice A_b_1 l129.length c_b_1), (7, .slice A_a_0 l180.length c_a_0), (8, .slice A_b_1 l194.length c_b_1)] ∧ Hp S0 w0 w [.own A_a_0 c_a_0 (rowC (Eint .i64) l180) 3 (Eint .i64).sz, .own A_b_1 c_b_1 (rowC (Eint .i64) l194) 3 (Eint .i64).sz]) (fun Qj283 hNj283 hOj283 => ?_) (fun a w hR => ?_)
            · have HOj283 := H
              have H := Hyj283
              refine L_blk (fun Qb323 hNb323 hXb323 hOb323 => ?_)
              refine L_lp (fun k a w => ∃ (i_348 : Int), Is Try.f19.ntmps a [(0, .slice A_a_0 l43.length c_a_0), (1, .slice A_b_1 l129.length c_b_1), (7, .slice A_a_0 l180.length c_a_0), (8, .slice A_b_1 l194.length c_b_1), (10, .int .i64 i_348)] ∧ Hp S0 w0 w [.own A_a_0 c_a_0 (rowC (Eint .i64) l180) 3 (Eint .i64).sz, .own A_b_1 c_b_1 (rowC (Eint .i64) l194) 3 (Eint .i64).sz] ∧ valiselaw5_apartInts.l7 k i_348 l_a_0 l_b_1 l43 l129 = some yj283) FU (fun a ha => ⟨_, Is.cons ha (Is.cons ha (Is.cons ha (Is.cons ha (Is.cons ha (Is.nil ha) rfl) rfl) rfl) rfl) rfl, HS282.sel [0, 1] rfl, H⟩) (fun kp347 a w349 hI Qp347 hNp347 hOp347 => ?_)
              obtain ⟨i_348, ha, HS350, HAp347⟩ := hI
              cases kp347 with
              | zero => cases (show (none : Option _) = some _ from HAp347)
              | succ kp347 =>
                have H := (valiselaw5_apartInts.l7.eq_2 ..).symm.trans HAp347
                refine wpLF_app ?_ ha
                refine L_seq ?_
                refine L_seq ?_
                refine L_region ?_
                refine F_val rfl rfl rfl (O_move rfl rfl) ?_
                refine F_val rfl rfl rfl (O_move rfl rfl) ?_
                refine F_val rfl rfl rfl (O_len rfl rfl Try.underlying22) ?_
                refine F_val rfl rfl rfl (O_lt rfl rfl rfl) ?_
                refine F_nil ?_
                refine L_condP rfl (fun c351 => ?_) (fun c351 => ?_)
                · have H := of_pos H c351
                  refine L_skip ?_
                  refine L_seq ?_
                  refine L_blk (fun Q352 hN352 hX352 hO352 => ?_)
                  refine L_seq ?_
                  refine L_region ?_
                  refine F_val rfl rfl rfl (O_move rfl rfl) ?_
                  refine F_val rfl rfl rfl (O_move rfl rfl) ?_
                  obtain ⟨⟨g353, g354⟩, H⟩ := of_gd H
                  refine F_val rfl rfl rfl (O_idx rfl rfl rfl Try.underlying22 size3 g353 g354 (Cells.isA (Cells.sub (HS350.cells_own (i := 1) rfl) hs199) (rowC_ne (E := (Eint .i64)) g353 g354 (by decide)))) ?_
                  refine F_val rfl rfl rfl (O_loadC rfl rfl flat3 (Cells.sub (HS350.cells_own (i := 1) rfl) hs199) (int_cell g353 g354)) ?_
                  refine F_val rfl rfl rfl (O_ne rfl rfl rfl) ?_
                  refine F_nil ?_
                  refine L_condP rfl (fun c355 => ?_) (fun c355 => ?_)
                  · have H := of_pos H c355
                    refine L_seq ?_
                    refine L_region ?_
                    refine F_val rfl rfl rfl (O_assign rfl rfl) ?_
                    refine F_nil ?_
                    have HS356 := HS350.shrink (E := (Eint .i64)) (i := 0) rfl h181
                    obtain ⟨g357, H⟩ := of_gd H
                    have HS358 := HS356.shrink (E := (Eint .i64)) (i := 1) rfl h195
                    obtain ⟨g359, H⟩ := of_gd H
                    refine L_ret (fun a ha => (hO352 .ret a _ rfl (hOp347 .ret a _ rfl (hOb323 .ret a _ rfl (hOj283 .ret a _ rfl (post_ret1 ha rfl rfl ?_))))))
                    obtain rfl := Option.some.inj H
                    obtain rfl := Option.some.inj (show (some (false, l43, l129) : Option (Bool × List Int × List Int)) = some _ from HOj283)
                    exact ⟨rfl, HS358.sel [0, 1] rfl, g357, g359⟩
                  · have H := of_neg H c355
                    refine L_skip ?_
                    refine L_endB hN352 ?_
                    refine L_region ?_
                    refine F_val rfl rfl rfl (O_move rfl rfl) ?_
                    refine F_val rfl rfl rfl (O_add rfl rfl rfl) ?_
                    obtain ⟨x360, h361, H⟩ := of_bnd H
                    refine F_val rfl rfl rfl (O_assign' rfl rfl (congrArg (Value.int .i64) h361)) ?_
                    refine F_nil ?_
                    refine L_nil (fun a ha => hNp347 _ a _ (Nat.lt_succ_self _) ⟨_, Is.cons ha (Is.cons ha (Is.cons ha (Is.cons ha (Is.cons ha (Is.nil ha) rfl) rfl) rfl) rfl) rfl, HS350.sel [0, 1] rfl, H⟩)
                · have H := of_neg H c351
                  refine L_exitB (fun a w h => hOp347 (.exit 6) a w rfl (hXb323 a w h)) ?_
                  refine L_nil (fun a ha => hNj283 a _ ⟨(Option.some.inj H).symm, Is.cons ha (Is.cons ha (Is.cons ha (Is.cons ha (Is.nil ha) rfl) rfl) rfl) rfl, HS350.sel [0, 1] rfl⟩)
            · obtain ⟨rfl, ha, HS363⟩ := hR
              refine wpLF_app ?_ ha
              have H := (onR_inr _ _ _).symm.trans H
              refine L_seq ?_
              refine L_region ?_
              refine F_val rfl rfl rfl (O_move rfl rfl) ?_
              refine F_val rfl rfl rfl (O_move rfl rfl) ?_
              refine F_val rfl rfl rfl (O_len rfl rfl Try.underlying22) ?_
              obtain ⟨⟨g364, g365⟩, H⟩ := of_gd H
              refine F_val rfl rfl rfl (O_idx rfl rfl rfl Try.underlying22 size3 g364 g365 (Cells.isA (HS363.cells_own (i := 0) rfl) (rowC_ne (E := (Eint .i64)) g364 g365 (by decide)))) ?_
              refine F_val rfl rfl rfl (O_loadC rfl rfl flat3 (HS363.cells_own (i := 0) rfl) (int_cell g364 g365)) ?_
              refine F_val rfl rfl rfl (O_eq rfl rfl rfl) ?_
              refine F_val rfl rfl rfl (O_move rfl rfl) ?_
              obtain ⟨b368, Hb368, H⟩ := of_bind H
              refine F_grp 7 [(70, .bool b368)] ?_ ?_
              · rcases Decidable.em (rd l180 (l43.length : Int) = 5) with c372 | c372
                · refine F_know (i := 63) rfl (dec_t c372) ?_
                  have H := of_pos Hb368 c372
                  refine F_gval rfl rfl rfl rfl rfl rfl (O_move rfl rfl) ?_
                  refine F_gval rfl rfl rfl rfl rfl rfl (O_move rfl rfl) ?_
                  refine F_gval rfl rfl rfl rfl rfl rfl (O_len rfl rfl Try.underlying22) ?_
                  obtain ⟨⟨g373, g374⟩, H⟩ := of_gd H
                  refine F_gval rfl rfl rfl rfl rfl rfl (O_idx rfl rfl rfl Try.underlying22 size3 g373 g374 (Cells.isA (HS363.cells_own (i := 1) rfl) (rowC_ne (E := (Eint .i64)) g373 g374 (by decide)))) ?_
                  refine F_gval rfl rfl rfl rfl rfl rfl (O_loadC rfl rfl flat3 (HS363.cells_own (i := 1) rfl) (int_cell g373 g374)) ?_
                  refine F_gval rfl rfl rfl rfl rfl rfl (O_eq rfl rfl rfl) ?_
                  refine F_val rfl rfl rfl (O_pickT rfl rfl rfl) ?_
                  refine F_know (i := 70) rfl (congrArg Value.bool (Option.some.inj H)) ?_
                  exact F_grpE (fun a ha => Is.cons ha (Is.nil ha) rfl)
                · refine F_know (i := 63) rfl (dec_f c372) ?_
                  have H := of_neg Hb368 c372
                  refine F_gskip rfl rfl rfl rfl rfl rfl rfl ?_
                  refine F_gskip rfl rfl rfl rfl rfl rfl rfl ?_
                  refine F_gskip rfl rfl rfl rfl rfl rfl rfl ?_
                  refine F_gskip rfl rfl rfl rfl rfl rfl rfl ?_
                  refine F_gskip rfl rfl rfl rfl rfl rfl rfl ?_
                  refine F_gskip rfl rfl rfl rfl rfl rfl rfl ?_
                  refine F_val rfl rfl rfl (O_pickF rfl rfl rfl) ?_
                  refine F_know (i := 70) rfl (congrArg Value.bool (Option.some.inj H)) ?_
                  exact F_grpE (fun a ha => Is.cons ha (Is.nil ha) rfl)
              · skip
                refine F_val rfl rfl rfl (O_assign rfl rfl) ?_
                refine F_nil ?_
                have HS375 := HS363.shrink (E := (Eint .i64)) (i := 0) rfl h181
                obtain ⟨g376, H⟩ := of_gd H
                have HS377 := HS375.shrink (E := (Eint .i64)) (i := 1) rfl h195
                obtain ⟨g378, H⟩ := of_gd H
                refine L_ret (fun a ha => (post_ret1 ha rfl rfl ?_))
                obtain rfl := Option.some.inj H
                exact ⟨rfl, HS377.sel [0, 1] rfl, g376, g378⟩
        · skip
          have HS193 : Hp S0 w0 w192 [.own A_a_0 c_a_0 (rowC (Eint .i64) l180) 3 (Eint .i64).sz, .own A_b_1 c_b_1 (rowC (Eint .i64) l129) 3 (Eint .i64).sz, .own A175 c176 (rowC (Eint .i64) [5]) 3 (Eint .i64).sz, .own A189 c190 (rowC (Eint .i64) [6]) 3 (Eint .i64).sz, .own A197 c198 (rowC (Eint .i64) l194) 3 (Eint .i64).sz] := HS193
          refine F_val rfl rfl rfl (O_assign rfl rfl) ?_
          refine F_nil ?_
          refine L_seq ?_
          refine L_seq ?_
          have HS201 : Hp S0 w0 w192 [.own A_a_0 c_a_0 (rowC (Eint .i64) l180) 3 (Eint .i64).sz, .own A_b_1 c_b_1 (rowC (Eint .i64) l129) 3 (Eint .i64).sz, .own A197 c198 (rowC (Eint .i64) l194) 3 (Eint .i64).sz] := HS193.sel [0, 1, 4] rfl
          refine L_region ?_
          refine F_val rfl rfl rfl (O_assign rfl rfl) ?_
          refine F_nil ?_
          obtain ⟨yj202, Hyj202, H⟩ := of_bind H
          refine L_join (fun a w => yj202 = Sum.inr () ∧ Is Try.f19.ntmps a [(0, .slice A_a_0 l43.length c_a_0), (1, .slice A_b_1 l129.length c_b_1), (7, .slice A_a_0 l180.length c_a_0), (8, .slice A197 l194.length c198)] ∧ Hp S0 w0 w [.own A_a_0 c_a_0 (rowC (Eint .i64) l180) 3 (Eint .i64).sz, .own A_b_1 c_b_1 (rowC (Eint .i64) l129) 3 (Eint .i64).sz, .own A197 c198 (rowC (Eint .i64) l194) 3 (Eint .i64).sz]) (fun Qj202 hNj202 hOj202 => ?_) (fun a w hR => ?_)
          · have HOj202 := H
            have H := Hyj202
            refine L_blk (fun Qb239 hNb239 hXb239 hOb239 => ?_)
            refine L_lp (fun k a w => ∃ (i_262 : Int), Is Try.f19.ntmps a [(0, .slice A_a_0 l43.length c_a_0), (1, .slice A_b_1 l129.length c_b_1), (7, .slice A_a_0 l180.length c_a_0), (8, .slice A197 l194.length c198), (9, .int .i64 i_262)] ∧ Hp S0 w0 w [.own A_a_0 c_a_0 (rowC (Eint .i64) l180) 3 (Eint .i64).sz, .own A_b_1 c_b_1 (rowC (Eint .i64) l129) 3 (Eint .i64).sz, .own A197 c198 (rowC (Eint .i64) l194) 3 (Eint .i64).sz] ∧ valiselaw5_apartInts.l5 k i_262 l_a_0 l_b_1 l43 l129 = some yj202) FU (fun a ha => ⟨_, Is.cons ha (Is.cons ha (Is.cons ha (Is.cons ha (Is.cons ha (Is.nil ha) rfl) rfl) rfl) rfl) rfl, HS201.sel [0, 1, 2] rfl, H⟩) (fun kp261 a w263 hI Qp261 hNp261 hOp261 => ?_)
            obtain ⟨i_262, ha, HS264, HAp261⟩ := hI
            cases kp261 with
            | zero => cases (show (none : Option _) = some _ from HAp261)
            | succ kp261 =>
              have H := (valiselaw5_apartInts.l5.eq_2 ..).symm.trans HAp261
              refine wpLF_app ?_ ha
              refine L_seq ?_
              refine L_seq ?_
              refine L_region ?_
              refine F_val rfl rfl rfl (O_move rfl rfl) ?_
              refine F_val rfl rfl rfl (O_move rfl rfl) ?_
              refine F_val rfl rfl rfl (O_len rfl rfl Try.underlying22) ?_
              refine F_val rfl rfl rfl (O_lt rfl rfl rfl) ?_
              refine F_nil ?_
              refine L_condP rfl (fun c265 => ?_) (fun c265 => ?_)
              · have H := of_pos H c265
                refine L_skip ?_
                refine L_seq ?_
                refine L_blk (fun Q266 hN266 hX266 hO266 => ?_)
                refine L_seq ?_
                refine L_region ?_
                refine F_val rfl rfl rfl (O_move rfl rfl) ?_
                refine F_val rfl rfl rfl (O_move rfl rfl) ?_
                obtain ⟨⟨g267, g268⟩, H⟩ := of_gd H
                refine F_val rfl rfl rfl (O_idx rfl rfl rfl Try.underlying22 size3 g267 g268 (Cells.isA (Cells.sub (HS264.cells_own (i := 0) rfl) hs185) (rowC_ne (E := (Eint .i64)) g267 g268 (by decide)))) ?_
                refine F_val rfl rfl rfl (O_loadC rfl rfl flat3 (Cells.sub (HS264.cells_own (i := 0) rfl) hs185) (int_cell g267 g268)) ?_
                refine F_val rfl rfl rfl (O_ne rfl rfl rfl) ?_
                refine F_nil ?_
                refine L_condP rfl (fun c269 => ?_) (fun c269 => ?_)
                · have H := of_pos H c269
                  refine L_seq ?_
                  refine L_region ?_
                  refine F_val rfl rfl rfl (O_assign rfl rfl) ?_
                  refine F_nil ?_
                  have HS270 := HS264.shrink (E := (Eint .i64)) (i := 0) rfl h181
                  obtain ⟨g271, H⟩ := of_gd H
                  obtain ⟨g272, H⟩ := of_gd H
                  refine L_ret (fun a ha => (hO266 .ret a _ rfl (hOp261 .ret a _ rfl (hOb239 .ret a _ rfl (hOj202 .ret a _ rfl (post_ret1 ha rfl rfl ?_))))))
                  obtain rfl := Option.some.inj H
                  obtain rfl := Option.some.inj (show (some (false, l43, l129) : Option (Bool × List Int × List Int)) = some _ from HOj202)
                  exact ⟨rfl, HS270.sel [0, 1] rfl, g271, g272⟩
                · have H := of_neg H c269
                  refine L_skip ?_
                  refine L_endB hN266 ?_
                  refine L_region ?_
                  refine F_val rfl rfl rfl (O_move rfl rfl) ?_
                  refine F_val rfl rfl rfl (O_add rfl rfl rfl) ?_
                  obtain ⟨x273, h274, H⟩ := of_bnd H
                  refine F_val rfl rfl rfl (O_assign' rfl rfl (congrArg (Value.int .i64) h274)) ?_
                  refine F_nil ?_
                  refine L_nil (fun a ha => hNp261 _ a _ (Nat.lt_succ_self _) ⟨_, Is.cons ha (Is.cons ha (Is.cons ha (Is.cons ha (Is.cons ha (Is.nil ha) rfl) rfl) rfl) rfl) rfl, HS264.sel [0, 1, 2] rfl, H⟩)
              · have H := of_neg H c265
                refine L_exitB (fun a w h => hOp261 (.exit 4) a w rfl (hXb239 a w h)) ?_
                refine L_nil (fun a ha => hNj202 a _ ⟨(Option.some.inj H).symm, Is.cons ha (Is.cons ha (Is.cons ha (Is.cons ha (Is.nil ha) rfl) rfl) rfl) rfl, HS264.sel [0, 1, 2] rfl⟩)
          · obtain ⟨rfl, ha, HS276⟩ := hR
            refine wpLF_app ?_ ha
            have H := (onR_inr _ _ _).symm.trans H
            refine L_seq ?_
            refine L_seq ?_
            refine L_region ?_
            refine F_val rfl rfl rfl (O_assign rfl rfl) ?_
            refine F_nil ?_
            obtain ⟨yj277, Hyj277, H⟩ := of_bind H
            refine L_join (fun a w => yj277 = Sum.inr () ∧ Is Try.f19.ntmps a [(0, .slice A_a_0 l43.length c_a_0), (1, .slice A_b_1 l129.length c_b_1), (7, .slice A_a_0 l180.length c_a_0), (8, .slice A197 l194.length c198)] ∧ Hp S0 w0 w [.own A_a_0 c_a_0 (rowC (Eint .i64) l180) 3 (Eint .i64).sz, .own A_b_1 c_b_1 (rowC (Eint .i64) l129) 3 (Eint .i64).sz, .own A197 c198 (rowC (Eint .i64) l194) 3 (Eint .i64).sz]) (fun Qj277 hNj277 hOj277 => ?_) (fun a w hR => ?_)
            · have HOj277 := H
              have H := Hyj277
              refine L_blk (fun Qb314 hNb314 hXb314 hOb314 => ?_)
              refine L_lp (fun k a w => ∃ (i_337 : Int), Is Try.f19.ntmps a [(0, .slice A_a_0 l43.length c_a_0), (1, .slice A_b_1 l129.length c_b_1), (7, .slice A_a_0 l180.length c_a_0), (8, .slice A197 l194.length c198), (10, .int .i64 i_337)] ∧ Hp S0 w0 w [.own A_a_0 c_a_0 (rowC (Eint .i64) l180) 3 (Eint .i64).sz, .own A_b_1 c_b_1 (rowC (Eint .i64) l129) 3 (Eint .i64).sz, .own A197 c198 (rowC (Eint .i64) l194) 3 (Eint .i64).sz] ∧ valiselaw5_apartInts.l7 k i_337 l_a_0 l_b_1 l43 l129 = some yj277) FU (fun a ha => ⟨_, Is.cons ha (Is.cons ha (Is.cons ha (Is.cons ha (Is.cons ha (Is.nil ha) rfl) rfl) rfl) rfl) rfl, HS276.sel [0, 1, 2] rfl, H⟩) (fun kp336 a w338 hI Qp336 hNp336 hOp336 => ?_)
              obtain ⟨i_337, ha, HS339, HAp336⟩ := hI
              cases kp336 with
              | zero => cases (show (none : Option _) = some _ from HAp336)
              | succ kp336 =>
                have H := (valiselaw5_apartInts.l7.eq_2 ..).symm.trans HAp336
                refine wpLF_app ?_ ha
                refine L_seq ?_
                refine L_seq ?_
                refine L_region ?_
                refine F_val rfl rfl rfl (O_move rfl rfl) ?_
                refine F_val rfl rfl rfl (O_move rfl rfl) ?_
                refine F_val rfl rfl rfl (O_len rfl rfl Try.underlying22) ?_
                refine F_val rfl rfl rfl (O_lt rfl rfl rfl) ?_
                refine F_nil ?_
                refine L_condP rfl (fun c340 => ?_) (fun c340 => ?_)
                · have H := of_pos H c340
                  refine L_skip ?_
                  refine L_seq ?_
                  refine L_blk (fun Q341 hN341 hX341 hO341 => ?_)
                  refine L_seq ?_
                  refine L_region ?_
                  refine F_val rfl rfl rfl (O_move rfl rfl) ?_
                  refine F_val rfl rfl rfl (O_move rfl rfl) ?_
                  obtain ⟨⟨g342, g343⟩, H⟩ := of_gd H
                  refine F_val rfl rfl rfl (O_idx rfl rfl rfl Try.underlying22 size3 g342 g343 (Cells.isA (HS339.cells_own (i := 1) rfl) (rowC_ne (E := (Eint .i64)) g342 g343 (by decide)))) ?_
                  refine F_val rfl rfl rfl (O_loadC rfl rfl flat3 (HS339.cells_own (i := 1) rfl) (int_cell g342 g343)) ?_
                  refine F_val rfl rfl rfl (O_ne rfl rfl rfl) ?_
                  refine F_nil ?_
                  refine L_condP rfl (fun c344 => ?_) (fun c344 => ?_)
                  · have H := of_pos H c344
                    refine L_seq ?_
                    refine L_region ?_
                    refine F_val rfl rfl rfl (O_assign rfl rfl) ?_
                    refine F_nil ?_
                    have HS345 := HS339.shrink (E := (Eint .i64)) (i := 0) rfl h181
                    obtain ⟨g346, H⟩ := of_gd H
                    obtain ⟨g347, H⟩ := of_gd H
                    refine L_ret (fun a ha => (hO341 .ret a _ rfl (hOp336 .ret a _ rfl (hOb314 .ret a _ rfl (hOj277 .ret a _ rfl (post_ret1 ha rfl rfl ?_))))))
                    obtain rfl := Option.some.inj H
                    obtain rfl := Option.some.inj (show (some (false, l43, l129) : Option (Bool × List Int × List Int)) = some _ from HOj277)
                    exact ⟨rfl, HS345.sel [0, 1] rfl, g346, g347⟩
                  · have H := of_neg H c344
                    refine L_skip ?_
                    refine L_endB hN341 ?_
                    refine L_region ?_
                    refine F_val rfl rfl rfl (O_move rfl rfl) ?_
                    refine F_val rfl rfl rfl (O_add rfl rfl rfl) ?_
                    obtain ⟨x348, h349, H⟩ := of_bnd H
                    refine F_val rfl rfl rfl (O_assign' rfl rfl (congrArg (Value.int .i64) h349)) ?_
                    refine F_nil ?_
                    refine L_nil (fun a ha => hNp336 _ a _ (Nat.lt_succ_self _) ⟨_, Is.cons ha (Is.cons ha (Is.cons ha (Is.cons ha (Is.cons ha (Is.nil ha) rfl) rfl) rfl) rfl) rfl, HS339.sel [0, 1, 2] rfl, H⟩)
                · have H := of_neg H c340
                  refine L_exitB (fun a w h => hOp336 (.exit 6) a w rfl (hXb314 a w h)) ?_
                  refine L_nil (fun a ha => hNj277 a _ ⟨(Option.some.inj H).symm, Is.cons ha (Is.cons ha (Is.cons ha (Is.cons ha (Is.nil ha) rfl) rfl) rfl) rfl, HS339.sel [0, 1, 2] rfl⟩)
            · obtain ⟨rfl, ha, HS351⟩ := hR
              refine wpLF_app ?_ ha
              have H := (onR_inr _ _ _).symm.trans H
              refine L_seq ?_
              refine L_region ?_
              refine F_val rfl rfl rfl (O_move rfl rfl) ?_
              refine F_val rfl rfl rfl (O_move rfl rfl) ?_
              refine F_val rfl rfl rfl (O_len rfl rfl Try.underlying22) ?_
              obtain ⟨⟨g352, g353⟩, H⟩ := of_gd H
              refine F_val rfl rfl rfl (O_idx rfl rfl rfl Try.underlying22 size3 g352 g353 (Cells.isA (HS351.cells_own (i := 0) rfl) (rowC_ne (E := (Eint .i64)) g352 g353 (by decide)))) ?_
              refine F_val rfl rfl rfl (O_loadC rfl rfl flat3 (HS351.cells_own (i := 0) rfl) (int_cell g352 g353)) ?_
              refine F_val rfl rfl rfl (O_eq rfl rfl rfl) ?_
              refine F_val rfl rfl rfl (O_move rfl rfl) ?_
              obtain ⟨b356, Hb356, H⟩ := of_bind H
              refine F_grp 7 [(70, .bool b356)] ?_ ?_
              · rcases Decidable.em (rd l180 (l43.length : Int) = 5) with c360 | c360
                · refine F_know (i := 63) rfl (dec_t c360) ?_
                  have H := of_pos Hb356 c360
                  refine F_gval rfl rfl rfl rfl rfl rfl (O_move rfl rfl) ?_
                  refine F_gval rfl rfl rfl rfl rfl rfl (O_move rfl rfl) ?_
                  refine F_gval rfl rfl rfl rfl rfl rfl (O_len rfl rfl Try.underlying22) ?_
                  obtain ⟨⟨g361, g362⟩, H⟩ := of_gd H
                  refine F_gval rfl rfl rfl rfl rfl rfl (O_idx rfl rfl rfl Try.underlying22 size3 g361 g362 (Cells.isA (HS351.cells_own (i := 2) rfl) (rowC_ne (E := (Eint .i64)) g361 g362 (by decide)))) ?_
                  refine F_gval rfl rfl rfl rfl rfl rfl (O_loadC rfl rfl flat3 (HS351.cells_own (i := 2) rfl) (int_cell g361 g362)) ?_
                  refine F_gval rfl rfl rfl rfl rfl rfl (O_eq rfl rfl rfl) ?_
                  refine F_val rfl rfl rfl (O_pickT rfl rfl rfl) ?_
                  refine F_know (i := 70) rfl (congrArg Value.bool (Option.some.inj H)) ?_
                  exact F_grpE (fun a ha => Is.cons ha (Is.nil ha) rfl)
                · refine F_know (i := 63) rfl (dec_f c360) ?_
                  have H := of_neg Hb356 c360
                  refine F_gskip rfl rfl rfl rfl rfl rfl rfl ?_
                  refine F_gskip rfl rfl rfl rfl rfl rfl rfl ?_
                  refine F_gskip rfl rfl rfl rfl rfl rfl rfl ?_
                  refine F_gskip rfl rfl rfl rfl rfl rfl rfl ?_
                  refine F_gskip rfl rfl rfl rfl rfl rfl rfl ?_
                  refine F_gskip rfl rfl rfl rfl rfl rfl rfl ?_
                  refine F_val rfl rfl rfl (O_pickF rfl rfl rfl) ?_
                  refine F_know (i := 70) rfl (congrArg Value.bool (Option.some.inj H)) ?_
                  exact F_grpE (fun a ha => Is.cons ha (Is.nil ha) rfl)
              · skip
                refine F_val rfl rfl rfl (O_assign rfl rfl) ?_
                refine F_nil ?_
                have HS363 := HS351.shrink (E := (Eint .i64)) (i := 0) rfl h181
                obtain ⟨g364, H⟩ := of_gd H
                obtain ⟨g365, H⟩ := of_gd H
                refine L_ret (fun a ha => (post_ret1 ha rfl rfl ?_))
                obtain rfl := Option.some.inj H
                exact ⟨rfl, HS363.sel [0, 1] rfl, g364, g365⟩
      · skip
        have HS179 : Hp S0 w0 w178 [.own A_a_0 c_a_0 (rowC (Eint .i64) l43) 3 (Eint .i64).sz, .own A_b_1 c_b_1 (rowC (Eint .i64) l129) 3 (Eint .i64).sz, .own A175 c176 (rowC (Eint .i64) [5]) 3 (Eint .i64).sz, .own A183 c184 (rowC (Eint .i64) l180) 3 (Eint .i64).sz] := HS179
        refine F_val rfl rfl rfl (O_assign rfl rfl) ?_
        refine F_nil ?_
        refine L_seq ?_
        refine L_region ?_
        refine F_val rfl rfl rfl (O_move rfl rfl) ?_
        refine F_litE (E := (Eint .i64)) (e := 3) [(0, .int .i64 6)] [6] rfl rfl rfl rfl rfl rfl rfl (by decide) (fun w => by kernel_rfl) HS179 (fun w187 A189 c190 HS188 => ?_)
        have HS188 : Hp S0 w0 w187 [.own A_a_0 c_a_0 (rowC (Eint .i64) l43) 3 (Eint .i64).sz, .own A_b_1 c_b_1 (rowC (Eint .i64) l129) 3 (Eint .i64).sz, .own A175 c176 (rowC (Eint .i64) [5]) 3 (Eint .i64).sz, .own A183 c184 (rowC (Eint .i64) l180) 3 (Eint .i64).sz, .own A189 c190 (rowC (Eint .i64) [6]) 3 (Eint .i64).sz] := HS188
        obtain ⟨l194, h195, H⟩ := of_bnd H
        obtain ⟨g196, H⟩ := of_gd H
        refine F_appE2 (E := (Eint .i64)) (xs := l129) (ys := [6]) (i := 1) rfl rfl rfl rfl Try.underlying22 info3 rfl (by decide) (by decide) rfl rfl HS188 rfl (HS188.cells_own (i := 4) rfl) h195 g196 (fun w192 HS193 => ?_) (fun w192 A197 c198 HS193 => ?_)
        · skip
          have HS193 : Hp S0 w0 w192 [.own A_a_0 c_a_0 (rowC (Eint .i64) l43) 3 (Eint .i64).sz, .own A_b_1 c_b_1 (rowC (Eint .i64) l194) 3 (Eint .i64).sz, .own A175 c176 (rowC (Eint .i64) [5]) 3 (Eint .i64).sz, .own A183 c184 (rowC (Eint .i64) l180) 3 (Eint .i64).sz, .own A189 c190 (rowC (Eint .i64) [6]) 3 (Eint .i64).sz] := HS193
          have hs199 := (HS193.cells_own (i := 1) rfl).preZ h195
          refine F_val rfl rfl rfl (O_assign rfl rfl) ?_
          refine F_nil ?_
          refine L_seq ?_
          refine L_seq ?_
          have HS201 : Hp S0 w0 w192 [.own A_a_0 c_a_0 (rowC (Eint .i64) l43) 3 (Eint .i64).sz, .own A_b_1 c_b_1 (rowC (Eint .i64) l194) 3 (Eint .i64).sz, .own A183 c184 (rowC (Eint .i64) l180) 3 (Eint .i64).sz] := HS193.sel [0, 1, 3] rfl
          refine L_region ?_
          refine F_val rfl rfl rfl (O_assign rfl rfl) ?_
          refine F_nil ?_
          obtain ⟨yj202, Hyj202, H⟩ := of_bind H
          refine L_join (fun a w => yj202 = Sum.inr () ∧ Is Try.f19.ntmps a [(0, .slice A_a_0 l43.length c_a_0), (1, .slice A_b_1 l129.length c_b_1), (7, .slice A183 l180.length c184), (8, .slice A_b_1 l194.length c_b_1)] ∧ Hp S0 w0 w [.own A_a_0 c_a_0 (rowC (Eint .i64) l43) 3 (Eint .i64).sz, .own A_b_1 c_b_1 (rowC (Eint .i64) l194) 3 (Eint .i64).sz, .own A183 c184 (rowC (Eint .i64) l180) 3 (Eint .i64).sz]) (fun Qj202 hNj202 hOj202 => ?_) (fun a w hR => ?_)
          · have HOj202 := H
            have H := Hyj202
            refine L_blk (fun Qb239 hNb239 hXb239 hOb239 => ?_)
            refine L_lp (fun k a w => ∃ (i_262 : Int), Is Try.f19.ntmps a [(0, .slice A_a_0 l43.length c_a_0), (1, .slice A_b_1 l129.length c_b_1), (7, .slice A183 l180.length c184), (8, .slice A_b_1 l194.length c_b_1), (9, .int .i64 i_262)] ∧ Hp S0 w0 w [.own A_a_0 c_a_0 (rowC (Eint .i64) l43) 3 (Eint .i64).sz, .own A_b_1 c_b_1 (rowC (Eint .i64) l194) 3 (Eint .i64).sz, .own A183 c184 (rowC (Eint .i64) l180) 3 (Eint .i64).sz] ∧ valiselaw5_apartInts.l5 k i_262 l_a_0 l_b_1 l43 l129 = some yj202) FU (fun a ha => ⟨_, Is.cons ha (Is.cons ha (Is.cons ha (Is.cons ha (Is.cons ha (Is.nil ha) rfl) rfl) rfl) rfl) rfl, HS201.sel [0, 1, 2] rfl, H⟩) (fun kp261 a w263 hI Qp261 hNp261 hOp261 => ?_)
            obtain ⟨i_262, ha, HS264, HAp261⟩ := hI
            cases kp261 with
            | zero => cases (show (none : Option _) = some _ from HAp261)
            | succ kp261 =>
              have H := (valiselaw5_apartInts.l5.eq_2 ..).symm.trans HAp261
              refine wpLF_app ?_ ha
              refine L_seq ?_
              refine L_seq ?_
              refine L_region ?_
              refine F_val rfl rfl rfl (O_move rfl rfl) ?_
              refine F_val rfl rfl rfl (O_move rfl rfl) ?_
              refine F_val rfl rfl rfl (O_len rfl rfl Try.underlying22) ?_
              refine F_val rfl rfl rfl (O_lt rfl rfl rfl) ?_
              refine F_nil ?_
              refine L_condP rfl (fun c265 => ?_) (fun c265 => ?_)
              · have H := of_pos H c265
                refine L_skip ?_
                refine L_seq ?_
                refine L_blk (fun Q266 hN266 hX266 hO266 => ?_)
                refine L_seq ?_
                refine L_region ?_
                refine F_val rfl rfl rfl (O_move rfl rfl) ?_
                refine F_val rfl rfl rfl (O_move rfl rfl) ?_
                obtain ⟨⟨g267, g268⟩, H⟩ := of_gd H
                refine F_val rfl rfl rfl (O_idx rfl rfl rfl Try.underlying22 size3 g267 g268 (Cells.isA (HS264.cells_own (i := 0) rfl) (rowC_ne (E := (Eint .i64)) g267 g268 (by decide)))) ?_
                refine F_val rfl rfl rfl (O_loadC rfl rfl flat3 (HS264.cells_own (i := 0) rfl) (int_cell g267 g268)) ?_
                refine F_val rfl rfl rfl (O_ne rfl rfl rfl) ?_
                refine F_nil ?_
                refine L_condP rfl (fun c269 => ?_) (fun c269 => ?_)
                · have H := of_pos H c269
                  refine L_seq ?_
                  refine L_region ?_
                  refine F_val rfl rfl rfl (O_assign rfl rfl) ?_
                  refine F_nil ?_
                  obtain ⟨g270, H⟩ := of_gd H
                  have HS271 := HS264.shrink (E := (Eint .i64)) (i := 1) rfl h195
                  obtain ⟨g272, H⟩ := of_gd H
                  refine L_ret (fun a ha => (hO266 .ret a _ rfl (hOp261 .ret a _ rfl (hOb239 .ret a _ rfl (hOj202 .ret a _ rfl (post_ret1 ha rfl rfl ?_))))))
                  obtain rfl := Option.some.inj H
                  obtain rfl := Option.some.inj (show (some (false, l43, l129) : Option (Bool × List Int × List Int)) = some _ from HOj202)
                  exact ⟨rfl, HS271.sel [0, 1] rfl, g270, g272⟩
                · have H := of_neg H c269
                  refine L_skip ?_
                  refine L_endB hN266 ?_
                  refine L_region ?_
                  refine F_val rfl rfl rfl (O_move rfl rfl) ?_
                  refine F_val rfl rfl rfl (O_add rfl rfl rfl) ?_
                  obtain ⟨x273, h274, H⟩ := of_bnd H
                  refine F_val rfl rfl rfl (O_assign' rfl rfl (congrArg (Value.int .i64) h274)) ?_
                  refine F_nil ?_
                  refine L_nil (fun a ha => hNp261 _ a _ (Nat.lt_succ_self _) ⟨_, Is.cons ha (Is.cons ha (Is.cons ha (Is.cons ha (Is.cons ha (Is.nil ha) rfl) rfl) rfl) rfl) rfl, HS264.sel [0, 1, 2] rfl, H⟩)
              · have H := of_neg H c265
                refine L_exitB (fun a w h => hOp261 (.exit 4) a w rfl (hXb239 a w h)) ?_
                refine L_nil (fun a ha => hNj202 a _ ⟨(Option.some.inj H).symm, Is.cons ha (Is.cons ha (Is.cons ha (Is.cons ha (Is.nil ha) rfl) rfl) rfl) rfl, HS264.sel [0, 1, 2] rfl⟩)
          · obtain ⟨rfl, ha, HS276⟩ := hR
            refine wpLF_app ?_ ha
            have H := (onR_inr _ _ _).symm.trans H
            refine L_seq ?_
            refine L_seq ?_
            refine L_region ?_
            refine F_val rfl rfl rfl (O_assign rfl rfl) ?_
            refine F_nil ?_
            obtain ⟨yj277, Hyj277, H⟩ := of_bind H
            refine L_join (fun a w => yj277 = Sum.inr () ∧ Is Try.f19.ntmps a [(0, .slice A_a_0 l43.length c_a_0), (1, .slice A_b_1 l129.length c_b_1), (7, .slice A183 l180.length c184), (8, .slice A_b_1 l194.length c_b_1)] ∧ Hp S0 w0 w [.own A_a_0 c_a_0 (rowC (Eint .i64) l43) 3 (Eint .i64).sz, .own A_b_1 c_b_1 (rowC (Eint .i64) l194) 3 (Eint .i64).sz, .own A183 c184 (rowC (Eint .i64) l180) 3 (Eint .i64).sz]) (fun Qj277 hNj277 hOj277 => ?_) (fun a w hR => ?_)
            · have HOj277 := H
              have H := Hyj277
              refine L_blk (fun Qb314 hNb314 hXb314 hOb314 => ?_)
              refine L_lp (fun k a w => ∃ (i_337 : Int), Is Try.f19.ntmps a [(0, .slice A_a_0 l43.length c_a_0), (1, .slice A_b_1 l129.length c_b_1), (7, .slice A183 l180.length c184), (8, .slice A_b_1 l194.length c_b_1), (10, .int .i64 i_337)] ∧ Hp S0 w0 w [.own A_a_0 c_a_0 (rowC (Eint .i64) l43) 3 (Eint .i64).sz, .own A_b_1 c_b_1 (rowC (Eint .i64) l194) 3 (Eint .i64).sz, .own A183 c184 (rowC (Eint .i64) l180) 3 (Eint .i64).sz] ∧ valiselaw5_apartInts.l7 k i_337 l_a_0 l_b_1 l43 l129 = some yj277) FU (fun a ha => ⟨_, Is.cons ha (Is.cons ha (Is.cons ha (Is.cons ha (Is.cons ha (Is.nil ha) rfl) rfl) rfl) rfl) rfl, HS276.sel [0, 1, 2] rfl, H⟩) (fun kp336 a w338 hI Qp336 hNp336 hOp336 => ?_)
              obtain ⟨i_337, ha, HS339, HAp336⟩ := hI
              cases kp336 with
              | zero => cases (show (none : Option _) = some _ from HAp336)
              | succ kp336 =>
                have H := (valiselaw5_apartInts.l7.eq_2 ..).symm.trans HAp336
                refine wpLF_app ?_ ha
                refine L_seq ?_
                refine L_seq ?_
                refine L_region ?_
                refine F_val rfl rfl rfl (O_move rfl rfl) ?_
                refine F_val rfl rfl rfl (O_move rfl rfl) ?_
                refine F_val rfl rfl rfl (O_len rfl rfl Try.underlying22) ?_
                refine F_val rfl rfl rfl (O_lt rfl rfl rfl) ?_
                refine F_nil ?_
                refine L_condP rfl (fun c340 => ?_) (fun c340 => ?_)
                · have H := of_pos H c340
                  refine L_skip ?_
                  refine L_seq ?_
                  refine L_blk (fun Q341 hN341 hX341 hO341 => ?_)
                  refine L_seq ?_
                  refine L_region ?_
                  refine F_val rfl rfl rfl (O_move rfl rfl) ?_
                  refine F_val rfl rfl rfl (O_move rfl rfl) ?_
                  obtain ⟨⟨g342, g343⟩, H⟩ := of_gd H
                  refine F_val rfl rfl rfl (O_idx rfl rfl rfl Try.underlying22 size3 g342 g343 (Cells.isA (Cells.sub (HS339.cells_own (i := 1) rfl) hs199) (rowC_ne (E := (Eint .i64)) g342 g343 (by decide)))) ?_
                  refine F_val rfl rfl rfl (O_loadC rfl rfl flat3 (Cells.sub (HS339.cells_own (i := 1) rfl) hs199) (int_cell g342 g343)) ?_
                  refine F_val rfl rfl rfl (O_ne rfl rfl rfl) ?_
                  refine F_nil ?_
                  refine L_condP rfl (fun c344 => ?_) (fun c344 => ?_)
                  · have H := of_pos H c344
                    refine L_seq ?_
                    refine L_region ?_
                    refine F_val rfl rfl rfl (O_assign rfl rfl) ?_
                    refine F_nil ?_
                    obtain ⟨g345, H⟩ := of_gd H
                    have HS346 := HS339.shrink (E := (Eint .i64)) (i := 1) rfl h195
                    obtain ⟨g347, H⟩ := of_gd H
                    refine L_ret (fun a ha => (hO341 .ret a _ rfl (hOp336 .ret a _ rfl (hOb314 .ret a _ rfl (hOj277 .ret a _ rfl (post_ret1 ha rfl rfl ?_))))))
                    obtain rfl := Option.some.inj H
                    obtain rfl := Option.some.inj (show (some (false, l43, l129) : Option (Bool × List Int × List Int)) = some _ from HOj277)
                    exact ⟨rfl, HS346.sel [0, 1] rfl, g345, g347⟩
                  · have H := of_neg H c344
                    refine L_skip ?_
                    refine L_endB hN341 ?_
                    refine L_region ?_
                    refine F_val rfl rfl rfl (O_move rfl rfl) ?_
                    refine F_val rfl rfl rfl (O_add rfl rfl rfl) ?_
                    obtain ⟨x348, h349, H⟩ := of_bnd H
                    refine F_val rfl rfl rfl (O_assign' rfl rfl (congrArg (Value.int .i64) h349)) ?_
                    refine F_nil ?_
                    refine L_nil (fun a ha => hNp336 _ a _ (Nat.lt_succ_self _) ⟨_, Is.cons ha (Is.cons ha (Is.cons ha (Is.cons ha (Is.cons ha (Is.nil ha) rfl) rfl) rfl) rfl) rfl, HS339.sel [0, 1, 2] rfl, H⟩)
                · have H := of_neg H c340
                  refine L_exitB (fun a w h => hOp336 (.exit 6) a w rfl (hXb314 a w h)) ?_
                  refine L_nil (fun a ha => hNj277 a _ ⟨(Option.some.inj H).symm, Is.cons ha (Is.cons ha (Is.cons ha (Is.cons ha (Is.nil ha) rfl) rfl) rfl) rfl, HS339.sel [0, 1, 2] rfl⟩)
            · obtain ⟨rfl, ha, HS351⟩ := hR
              refine wpLF_app ?_ ha
              have H := (onR_inr _ _ _).symm.trans H
              refine L_seq ?_
              refine L_region ?_
              refine F_val rfl rfl rfl (O_move rfl rfl) ?_
              refine F_val rfl rfl rfl (O_move rfl rfl) ?_
              refine F_val rfl rfl rfl (O_len rfl rfl Try.underlying22) ?_
              obtain ⟨⟨g352, g353⟩, H⟩ := of_gd H
              refine F_val rfl rfl rfl (O_idx rfl rfl rfl Try.underlying22 size3 g352 g353 (Cells.isA (HS351.cells_own (i := 2) rfl) (rowC_ne (E := (Eint .i64)) g352 g353 (by decide)))) ?_
              refine F_val rfl rfl rfl (O_loadC rfl rfl flat3 (HS351.cells_own (i := 2) rfl) (int_cell g352 g353)) ?_
              refine F_val rfl rfl rfl (O_eq rfl rfl rfl) ?_
              refine F_val rfl rfl rfl (O_move rfl rfl) ?_
              obtain ⟨b356, Hb356, H⟩ := of_bind H
              refine F_grp 7 [(70, .bool b356)] ?_ ?_
              · rcases Decidable.em (rd l180 (l43.length : Int) = 5) with c360 | c360
                · refine F_know (i := 63) rfl (dec_t c360) ?_
                  have H := of_pos Hb356 c360
                  refine F_gval rfl rfl rfl rfl rfl rfl (O_move rfl rfl) ?_
                  refine F_gval rfl rfl rfl rfl rfl rfl (O_move rfl rfl) ?_
                  refine F_gval rfl rfl rfl rfl rfl rfl (O_len rfl rfl Try.underlying22) ?_
                  obtain ⟨⟨g361, g362⟩, H⟩ := of_gd H
                  refine F_gval rfl rfl rfl rfl rfl rfl (O_idx rfl rfl rfl Try.underlying22 size3 g361 g362 (Cells.isA (HS351.cells_own (i := 1) rfl) (rowC_ne (E := (Eint .i64)) g361 g362 (by decide)))) ?_
                  refine F_gval rfl rfl rfl rfl rfl rfl (O_loadC rfl rfl flat3 (HS351.cells_own (i := 1) rfl) (int_cell g361 g362)) ?_
                  refine F_gval rfl rfl rfl rfl rfl rfl (O_eq rfl rfl rfl) ?_
                  refine F_val rfl rfl rfl (O_pickT rfl rfl rfl) ?_
                  refine F_know (i := 70) rfl (congrArg Value.bool (Option.some.inj H)) ?_
                  exact F_grpE (fun a ha => Is.cons ha (Is.nil ha) rfl)
                · refine F_know (i := 63) rfl (dec_f c360) ?_
                  have H := of_neg Hb356 c360
                  refine F_gskip rfl rfl rfl rfl rfl rfl rfl ?_
                  refine F_gskip rfl rfl rfl rfl rfl rfl rfl ?_
                  refine F_gskip rfl rfl rfl rfl rfl rfl rfl ?_
                  refine F_gskip rfl rfl rfl rfl rfl rfl rfl ?_
                  refine F_gskip rfl rfl rfl rfl rfl rfl rfl ?_
                  refine F_gskip rfl rfl rfl rfl rfl rfl rfl ?_
                  refine F_val rfl rfl rfl (O_pickF rfl rfl rfl) ?_
                  refine F_know (i := 70) rfl (congrArg Value.bool (Option.some.inj H)) ?_
                  exact F_grpE (fun a ha => Is.cons ha (Is.nil ha) rfl)
              · skip
                refine F_val rfl rfl rfl (O_assign rfl rfl) ?_
                refine F_nil ?_
                obtain ⟨g363, H⟩ := of_gd H
                have HS364 := HS351.shrink (E := (Eint .i64)) (i := 1) rfl h195
                obtain ⟨g365, H⟩ := of_gd H
                refine L_ret (fun a ha => (post_ret1 ha rfl rfl ?_))
                obtain rfl := Option.some.inj H
                exact ⟨rfl, HS364.sel [0, 1] rfl, g363, g365⟩
        · skip
          have HS193 : Hp S0 w0 w192 [.own A_a_0 c_a_0 (rowC (Eint .i64) l43) 3 (Eint .i64).sz, .own A_b_1 c_b_1 (rowC (Eint .i64) l129) 3 (Eint .i64).sz, .own A175 c176 (rowC (Eint .i64) [5]) 3 (Eint .i64).sz, .own A183 c184 (rowC (Eint .i64) l180) 3 (Eint .i64).sz, .own A189 c190 (rowC (Eint .i64) [6]) 3 (Eint .i64).sz, .own A197 c198 (rowC (Eint .i64) l194) 3 (Eint .i64).sz] := HS193
          refine F_val rfl rfl rfl (O_assign rfl rfl) ?_
          refine F_nil ?_
          refine L_seq ?_
          refine L_seq ?_
          have HS201 : Hp S0 w0 w192 [.own A_a_0 c_a_0 (rowC (Eint .i64) l43) 3 (Eint .i64).sz, .own A_b_1 c_b_1 (rowC (Eint .i64) l129) 3 (Eint .i64).sz, .own A183 c184 (rowC (Eint .i64) l180) 3 (Eint .i64).sz, .own A197 c198 (rowC (Eint .i64) l194) 3 (Eint .i64).sz] := HS193.sel [0, 1, 3, 5] rfl
          refine L_region ?_
          refine F_val rfl rfl rfl (O_assign rfl rfl) ?_
          refine F_nil ?_
          obtain ⟨yj202, Hyj202, H⟩ := of_bind H
          refine L_join (fun a w => yj202 = Sum.inr () ∧ Is Try.f19.ntmps a [(0, .slice A_a_0 l43.length c_a_0), (1, .slice A_b_1 l129.length c_b_1), (7, .slice A183 l180.length c184), (8, .slice A197 l194.length c198)] ∧ Hp S0 w0 w [.own A_a_0 c_a_0 (rowC (Eint .i64) l43) 3 (Eint .i64).sz, .own A_b_1 c_b_1 (rowC (Eint .i64) l129) 3 (Eint .i64).sz, .own A183 c184 (rowC (Eint .i64) l180) 3 (Eint .i64).sz, .own A197 c198 (rowC (Eint .i64) l194) 3 (Eint .i64).sz]) (fun Qj202 hNj202 hOj202 => ?_) (fun a w hR => ?_)
          · have HOj202 := H
            have H := Hyj202
            refine L_blk (fun Qb238 hNb238 hXb238 hOb238 => ?_)
            refine L_lp (fun k a w => ∃ (i_259 : Int), Is Try.f19.ntmps a [(0, .slice A_a_0 l43.length c_a_0), (1, .slice A_b_1 l129.length c_b_1), (7, .slice A183 l180.length c184), (8, .slice A197 l194.length c198), (9, .int .i64 i_259)] ∧ Hp S0 w0 w [.own A_a_0 c_a_0 (rowC (Eint .i64) l43) 3 (Eint .i64).sz, .own A_b_1 c_b_1 (rowC (Eint .i64) l129) 3 (Eint .i64).sz, .own A183 c184 (rowC (Eint .i64) l180) 3 (Eint .i64).sz, .own A197 c198 (rowC (Eint .i64) l194) 3 (Eint .i64).sz] ∧ valiselaw5_apartInts.l5 k i_259 l_a_0 l_b_1 l43 l129 = some yj202) FU (fun a ha => ⟨_, Is.cons ha (Is.cons ha (Is.cons ha (Is.cons ha (Is.cons ha (Is.nil ha) rfl) rfl) rfl) rfl) rfl, HS201.sel [0, 1, 2, 3] rfl, H⟩) (fun kp258 a w260 hI Qp258 hNp258 hOp258 => ?_)
            obtain ⟨i_259, ha, HS261, HAp258⟩ := hI
            cases kp258 with
            | zero => cases (show (none : Option _) = some _ from HAp258)
            | succ kp258 =>
              have H := (valiselaw5_apartInts.l5.eq_2 ..).symm.trans HAp258
              refine wpLF_app ?_ ha
              refine L_seq ?_
              refine L_seq ?_
              refine L_region ?_
              refine F_val rfl rfl rfl (O_move rfl rfl) ?_
              refine F_val rfl rfl rfl (O_move rfl rfl) ?_
              refine F_val rfl rfl rfl (O_len rfl rfl Try.underlying22) ?_
              refine F_val rfl rfl rfl (O_lt rfl rfl rfl) ?_
              refine F_nil ?_
              refine L_condP rfl (fun c262 => ?_) (fun c262 => ?_)
              · have H := of_pos H c262
                refine L_skip ?_
                refine L_seq ?_
                refine L_blk (fun Q263 hN263 hX263 hO263 => ?_)
                refine L_seq ?_
                refine L_region ?_
                refine F_val rfl rfl rfl (O_move rfl rfl) ?_
                refine F_val rfl rfl rfl (O_move rfl rfl) ?_
                obtain ⟨⟨g264, g265⟩, H⟩ := of_gd H
                refine F_val rfl rfl rfl (O_idx rfl rfl rfl Try.underlying22 size3 g264 g265 (Cells.isA (HS261.cells_own (i := 0) rfl) (rowC_ne (E := (Eint .i64)) g264 g265 (by decide)))) ?_
                refine F_val rfl rfl rfl (O_loadC rfl rfl flat3 (HS261.cells_own (i := 0) rfl) (int_cell g264 g265)) ?_
                refine F_val rfl rfl rfl (O_ne rfl rfl rfl) ?_
                refine F_nil ?_
                refine L_condP rfl (fun c266 => ?_) (fun c266 => ?_)
                · have H := of_pos H c266
                  refine L_seq ?_
                  refine L_region ?_
                  refine F_val rfl rfl rfl (O_assign rfl rfl) ?_
                  refine F_nil ?_
                  obtain ⟨g267, H⟩ := of_gd H
                  obtain ⟨g268, H⟩ := of_gd H
                  refine L_ret (fun a ha => (hO263 .ret a _ rfl (hOp258 .ret a _ rfl (hOb238 .ret a _ rfl (hOj202 .ret a _ rfl (post_ret1 ha rfl rfl ?_))))))
                  obtain rfl := Option.some.inj H
                  obtain rfl := Option.some.inj (show (some (false, l43, l129) : Option (Bool × List Int × List Int)) = some _ from HOj202)
                  exact ⟨rfl, HS261.sel [0, 1] rfl, g267, g268⟩
                · have H := of_neg H c266
                  refine L_skip ?_
                  refine L_endB hN263 ?_
                  refine L_region ?_
                  refine F_val rfl rfl rfl (O_move rfl rfl) ?_
                  refine F_val rfl rfl rfl (O_add rfl rfl rfl) ?_
                  obtain ⟨x269, h270, H⟩ := of_bnd H
                  refine F_val rfl rfl rfl (O_assign' rfl rfl (congrArg (Value.int .i64) h270)) ?_
                  refine F_nil ?_
                  refine L_nil (fun a ha => hNp258 _ a _ (Nat.lt_succ_self _) ⟨_, Is.cons ha (Is.cons ha (Is.cons ha (Is.cons ha (Is.cons ha (Is.nil ha) rfl) rfl) rfl) rfl) rfl, HS261.sel [0, 1, 2, 3] rfl, H⟩)
              · have H := of_neg H c262
                refine L_exitB (fun a w h => hOp258 (.exit 4) a w rfl (hXb238 a w h)) ?_
                refine L_nil (fun a ha => hNj202 a _ ⟨(Option.some.inj H).symm, Is.cons ha (Is.cons ha (Is.cons ha (Is.cons ha (Is.nil ha) rfl) rfl) rfl) rfl, HS261.sel [0, 1, 2, 3] rfl⟩)
          · obtain ⟨rfl, ha, HS272⟩ := hR
            refine wpLF_app ?_ ha
            have H := (onR_inr _ _ _).symm.trans H
            refine L_seq ?_
            refine L_seq ?_
            refine L_region ?_
            refine F_val rfl rfl rfl (O_assign rfl rfl) ?_
            refine F_nil ?_
            obtain ⟨yj273, Hyj273, H⟩ := of_bind H
            refine L_join (fun a w => yj273 = Sum.inr () ∧ Is Try.f19.ntmps a [(0, .slice A_a_0 l43.length c_a_0), (1, .slice A_b_1 l129.length c_b_1), (7, .slice A183 l180.length c184), (8, .slice A197 l194.length c198)] ∧ Hp S0 w0 w [.own A_a_0 c_a_0 (rowC (Eint .i64) l43) 3 (Eint .i64).sz, .own A_b_1 c_b_1 (rowC (Eint .i64) l129) 3 (Eint .i64).sz, .own A183 c184 (rowC (Eint .i64) l180) 3 (Eint .i64).sz, .own A197 c198 (rowC (Eint .i64) l194) 3 (Eint .i64).sz]) (fun Qj273 hNj273 hOj273 => ?_) (fun a w hR => ?_)
            · have HOj273 := H
              have H := Hyj273
              refine L_blk (fun Qb309 hNb309 hXb309 hOb309 => ?_)
              refine L_lp (fun k a w => ∃ (i_330 : Int), Is Try.f19.ntmps a [(0, .slice A_a_0 l43.length c_a_0), (1, .slice A_b_1 l129.length c_b_1), (7, .slice A183 l180.length c184), (8, .slice A197 l194.length c198), (10, .int .i64 i_330)] ∧ Hp S0 w0 w [.own A_a_0 c_a_0 (rowC (Eint .i64) l43) 3 (Eint .i64).sz, .own A_b_1 c_b_1 (rowC (Eint .i64) l129) 3 (Eint .i64).sz, .own A183 c184 (rowC (Eint .i64) l180) 3 (Eint .i64).sz, .own A197 c198 (rowC (Eint .i64) l194) 3 (Eint .i64).sz] ∧ valiselaw5_apartInts.l7 k i_330 l_a_0 l_b_1 l43 l129 = some yj273) FU (fun a ha => ⟨_, Is.cons ha (Is.cons ha (Is.cons ha (Is.cons ha (Is.cons ha (Is.nil ha) rfl) rfl) rfl) rfl) rfl, HS272.sel [0, 1, 2, 3] rfl, H⟩) (fun kp329 a w331 hI Qp329 hNp329 hOp329 => ?_)
              obtain ⟨i_330, ha, HS332, HAp329⟩ := hI
              cases kp329 with
              | zero => cases (show (none : Option _) = some _ from HAp329)
              | succ kp329 =>
                have H := (valiselaw5_apartInts.l7.eq_2 ..).symm.trans HAp329
                refine wpLF_app ?_ ha
                refine L_seq ?_
                refine L_seq ?_
                refine L_region ?_
                refine F_val rfl rfl rfl (O_move rfl rfl) ?_
                refine F_val rfl rfl rfl (O_move rfl rfl) ?_
                refine F_val rfl rfl rfl (O_len rfl rfl Try.underlying22) ?_
                refine F_val rfl rfl rfl (O_lt rfl rfl rfl) ?_
                refine F_nil ?_
                refine L_condP rfl (fun c333 => ?_) (fun c333 => ?_)
                · have H := of_pos H c333
                  refine L_skip ?_
                  refine L_seq ?_
                  refine L_blk (fun Q334 hN334 hX334 hO334 => ?_)
                  refine L_seq ?_
                  refine L_region ?_
                  refine F_val rfl rfl rfl (O_move rfl rfl) ?_
                  refine F_val rfl rfl rfl (O_move rfl rfl) ?_
                  obtain ⟨⟨g335, g336⟩, H⟩ := of_gd H
                  refine F_val rfl rfl rfl (O_idx rfl rfl rfl Try.underlying22 size3 g335 g336 (Cells.isA (HS332.cells_own (i := 1) rfl) (rowC_ne (E := (Eint .i64)) g335 g336 (by decide)))) ?_
                  refine F_val rfl rfl rfl (O_loadC rfl rfl flat3 (HS332.cells_own (i := 1) rfl) (int_cell g335 g336)) ?_
                  refine F_val rfl rfl rfl (O_ne rfl rfl rfl) ?_
                  refine F_nil ?_
                  refine L_condP rfl (fun c337 => ?_) (fun c337 => ?_)
                  · have H := of_pos H c337
                    refine L_seq ?_
                    refine L_region ?_
                    refine F_val rfl rfl rfl (O_assign rfl rfl) ?_
                    refine F_nil ?_
                    obtain ⟨g338, H⟩ := of_gd H
                    obtain ⟨g339, H⟩ := of_gd H
                    refine L_ret (fun a ha => (hO334 .ret a _ rfl (hOp329 .ret a _ rfl (hOb309 .ret a _ rfl (hOj273 .ret a _ rfl (post_ret1 ha rfl rfl ?_))))))
                    obtain rfl := Option.some.inj H
                    obtain rfl := Option.some.inj (show (some (false, l43, l129) : Option (Bool × List Int × List Int)) = some _ from HOj273)
                    exact ⟨rfl, HS332.sel [0, 1] rfl, g338, g339⟩
                  · have H := of_neg H c337
                    refine L_skip ?_
                    refine L_endB hN334 ?_
                    refine L_region ?_
                    refine F_val rfl rfl rfl (O_move rfl rfl) ?_
                    refine F_val rfl rfl rfl (O_add rfl rfl rfl) ?_
                    obtain ⟨x340, h341, H⟩ := of_bnd H
                    refine F_val rfl rfl rfl (O_assign' rfl rfl (congrArg (Value.int .i64) h341)) ?_
                    refine F_nil ?_
                    refine L_nil (fun a ha => hNp329 _ a _ (Nat.lt_succ_self _) ⟨_, Is.cons ha (Is.cons ha (Is.cons ha (Is.cons ha (Is.cons ha (Is.nil ha) rfl) rfl) rfl) rfl) rfl, HS332.sel [0, 1, 2, 3] rfl, H⟩)
                · have H := of_neg H c333
                  refine L_exitB (fun a w h => hOp329 (.exit 6) a w rfl (hXb309 a w h)) ?_
                  refine L_nil (fun a ha => hNj273 a _ ⟨(Option.some.inj H).symm, Is.cons ha (Is.cons ha (Is.cons ha (Is.cons ha (Is.nil ha) rfl) rfl) rfl) rfl, HS332.sel [0, 1, 2, 3] rfl⟩)
            · obtain ⟨rfl, ha, HS343⟩ := hR
              refine wpLF_app ?_ ha
              have H := (onR_inr _ _ _).symm.trans H
              refine L_seq ?_
              refine L_region ?_
              refine F_val rfl rfl rfl (O_move rfl rfl) ?_
              refine F_val rfl rfl rfl (O_move rfl rfl) ?_
              refine F_val rfl rfl rfl (O_len rfl rfl Try.underlying22) ?_
              obtain ⟨⟨g344, g345⟩, H⟩ := of_gd H
              refine F_val rfl rfl rfl (O_idx rfl rfl rfl Try.underlying22 size3 g344 g345 (Cells.isA (HS343.cells_own (i := 2) rfl) (rowC_ne (E := (Eint .i64)) g344 g345 (by decide)))) ?_
              refine F_val rfl rfl rfl (O_loadC rfl rfl flat3 (HS343.cells_own (i := 2) rfl) (int_cell g344 g345)) ?_
              refine F_val rfl rfl rfl (O_eq rfl rfl rfl) ?_
              refine F_val rfl rfl rfl (O_move rfl rfl) ?_
              obtain ⟨b348, Hb348, H⟩ := of_bind H
              refine F_grp 7 [(70, .bool b348)] ?_ ?_
              · rcases Decidable.em (rd l180 (l43.length : Int) = 5) with c352 | c352
                · refine F_know (i := 63) rfl (dec_t c352) ?_
                  have H := of_pos Hb348 c352
                  refine F_gval rfl rfl rfl rfl rfl rfl (O_move rfl rfl) ?_
                  refine F_gval rfl rfl rfl rfl rfl rfl (O_move rfl rfl) ?_
                  refine F_gval rfl rfl rfl rfl rfl rfl (O_len rfl rfl Try.underlying22) ?_
                  obtain ⟨⟨g353, g354⟩, H⟩ := of_gd H
                  refine F_gval rfl rfl rfl rfl rfl rfl (O_idx rfl rfl rfl Try.underlying22 size3 g353 g354 (Cells.isA (HS343.cells_own (i := 3) rfl) (rowC_ne (E := (Eint .i64)) g353 g354 (by decide)))) ?_
                  refine F_gval rfl rfl rfl rfl rfl rfl (O_loadC rfl rfl flat3 (HS343.cells_own (i := 3) rfl) (int_cell g353 g354)) ?_
                  refine F_gval rfl rfl rfl rfl rfl rfl (O_eq rfl rfl rfl) ?_
                  refine F_val rfl rfl rfl (O_pickT rfl rfl rfl) ?_
                  refine F_know (i := 70) rfl (congrArg Value.bool (Option.some.inj H)) ?_
                  exact F_grpE (fun a ha => Is.cons ha (Is.nil ha) rfl)
                · refine F_know (i := 63) rfl (dec_f c352) ?_
                  have H := of_neg Hb348 c352
                  refine F_gskip rfl rfl rfl rfl rfl rfl rfl ?_
                  refine F_gskip rfl rfl rfl rfl rfl rfl rfl ?_
                  refine F_gskip rfl rfl rfl rfl rfl rfl rfl ?_
                  refine F_gskip rfl rfl rfl rfl rfl rfl rfl ?_
                  refine F_gskip rfl rfl rfl rfl rfl rfl rfl ?_
                  refine F_gskip rfl rfl rfl rfl rfl rfl rfl ?_
                  refine F_val rfl rfl rfl (O_pickF rfl rfl rfl) ?_
                  refine F_know (i := 70) rfl (congrArg Value.bool (Option.some.inj H)) ?_
                  exact F_grpE (fun a ha => Is.cons ha (Is.nil ha) rfl)
              · skip
                refine F_val rfl rfl rfl (O_assign rfl rfl) ?_
                refine F_nil ?_
                obtain ⟨g355, H⟩ := of_gd H
                obtain ⟨g356, H⟩ := of_gd H
                refine L_ret (fun a ha => (post_ret1 ha rfl rfl ?_))
                obtain rfl := Option.some.inj H
                exact ⟨rfl, HS343.sel [0, 1] rfl, g355, g356⟩

/-! function 3: valise/valiselaw5.CodeFixed -/
theorem valiselaw5_CodeFixed.calls {S0 : Nat → Prop} {w0 : World} {r : Bool} (HS0 : Hp S0 w0 w0 []) (h : valiselaw5_CodeFixed.f = some r) :
    Calls Try.prog 3 ([] : List Value).toArray w0 (fun e w => e = .returned (.bool r) ∧ Hp S0 w0 w []) := by
  have H : (((code_FixedLit.f).bind fun z5 => (code_FixedDist.f).bind fun z15 => (code_FixedLit.f).bind fun z25 => (code_FixedDist.f).bind fun z35 => (valiseref5_FixedLit.f).bind fun z45 => (valiselaw5_same.f z5 z45).bind fun z53 => if (!z53) = true then (some false) else ((valiseref5_FixedDist.f).bind fun z63 => (valiselaw5_same.f z15 z63).bind fun z71 => (if (!z71) = true then (some true) else ((valiselaw5_same.f z25 z5).bind fun z88 => some (!z88))).bind fun b81 => (if b81 = true then (some true) else ((valiselaw5_same.f z35 z15).bind fun z105 => some (!z105))).bind fun b98 => if b98 = true then (some false) else ((valiselaw5_spoil.f z5).bind fun z116 => (valiselaw5_spoil.f z15).bind fun z125 => (code_FixedLit.f).bind fun z134 => (code_FixedDist.f).bind fun z144 => (valiseref5_FixedLit.f).bind fun z154 => (valiselaw5_same.f z25 z154).bind fun z162 => if z162 = true then ((valiseref5_FixedDist.f).bind fun z171 => (valiselaw5_same.f z35 z171).bind fun z179 => (if z179 = true then ((valiselaw5_same.f z134 z25).bind fun z196 => some z196) else (some false)).bind fun b189 => (if b189 = true then ((valiselaw5_same.f z144 z35).bind fun z213 => some z213) else (some false)).bind fun b206 => if b206 = true then ((valiselaw5_apartInts.f z116 z25).bind fun (z223, z224, z225) => if z223 = true then ((valiselaw5_apartInts.f z125 z35).bind fun (z237, z238, z239) => if z237 = true then ((valiselaw5_apartInts.f z225 z239).bind fun (z251, z252, z253) => if z251 = true then ((valiselaw5_apartInts.f z252 z134).bind fun (z265, z266, z267) => if z265 = true then ((valiselaw5_apartInts.f z253 z144).bind fun (z279, z280, z281) => some z279) else (some false)) else (some false)) else (some false)) else (some false)) else (some false)) else (some false)))) : Option (Bool)) = some r := h
  refine calls_start Try.func3 rfl rfl ?_
  refine L_seq ?_
  refine L_region ?_
  refine F_val rfl rfl rfl (O_assign rfl rfl) ?_
  refine F_nil ?_
  refine L_seq ?_
  refine L_region ?_
  obtain ⟨z5, h4, H⟩ := of_bind H
  refine F_call (xs := []) rfl rfl rfl rfl Try.func13 nm13 rfl rfl ((code_FixedLit.calls (HS0.give [] rfl (Lent.nil)) h4).mono (fun e w hc => ?_))
  obtain ⟨A8, c9, rfl, HSo⟩ := hc
  refine ⟨.slice A8 z5.length c9, rfl, ?_⟩
  have HS7 : Hp S0 w0 w [.own A8 c9 (rowC (Eint .i64) z5) 3 (Eint .i64).sz] := (HS0.back [] HSo rfl).sel [0] rfl
  refine F_val rfl rfl rfl (O_assign rfl rfl) ?_
  refine F_nil ?_
  refine L_seq ?_
  refine L_region ?_
  obtain ⟨z15, h14, H⟩ := of_bind H
  refine F_call (xs := []) rfl rfl rfl rfl Try.func14 nm14 rfl rfl ((code_FixedDist.calls (HS7.give [] rfl (Lent.nil)) h14).mono (fun e w hc => ?_))
  obtain ⟨A18, c19, rfl, HSo⟩ := hc
  refine ⟨.slice A18 z15.length c19, rfl, ?_⟩
  have HS17 : Hp S0 w0 w [.own A8 c9 (rowC (Eint .i64) z5) 3 (Eint .i64).sz, .own A18 c19 (rowC (Eint .i64) z15) 3 (Eint .i64).sz] := (HS7.back [] HSo rfl).sel [0, 1] rfl
  refine F_val rfl rfl rfl (O_assign rfl rfl) ?_
  refine F_nil ?_
  refine L_seq ?_
  refine L_region ?_
  obtain ⟨z25, h24, H⟩ := of_bind H
  refine F_call (xs := []) rfl rfl rfl rfl Try.func13 nm13 rfl rfl ((code_FixedLit.calls (HS17.give [] rfl (Lent.nil)) h24).mono (fun e w hc => ?_))
  obtain ⟨A28, c29, rfl, HSo⟩ := hc
  refine ⟨.slice A28 z25.length c29, rfl, ?_⟩
  have HS27 : Hp S0 w0 w [.own A8 c9 (rowC (Eint .i64) z5) 3 (Eint .i64).sz, .own A18 c19 (rowC (Eint .i64) z15) 3 (Eint .i64).sz, .own A28 c29 (rowC (Eint .i64) z25) 3 (Eint .i64).sz] := (HS17.back [] HSo rfl).sel [0, 1, 2] rfl
  refine F_val rfl rfl rfl (O_assign rfl rfl) ?_
  refine F_nil ?_
  refine L_seq ?_
  refine L_region ?_
  obtain ⟨z35, h34, H⟩ := of_bind H
  refine F_call (xs := []) rfl rfl rfl rfl Try.func14 nm14 rfl rfl ((code_FixedDist.calls (HS27.give [] rfl (Lent.nil)) h34).mono (fun e w hc => ?_))
  obtain ⟨A38, c39, rfl, HSo⟩ := hc
  refine ⟨.slice A38 z35.length c39, rfl, ?_⟩
  have HS37 : Hp S0 w0 w [.own A8 c9 (rowC (Eint .i64) z5) 3 (Eint .i64).sz, .own A18 c19 (rowC (Eint .i64) z15) 3 (Eint .i64).sz, .own A28 c29 (rowC (Eint .i64) z25) 3 (Eint .i64).sz, .own A38 c39 (rowC (Eint .i64) z35) 3 (Eint .i64).sz] := (HS27.back [] HSo rfl).sel [0, 1, 2, 3] rfl
  refine F_val rfl rfl rfl (O_assign rfl rfl) ?_
  refine F_nil ?_
  refine L_seq ?_
  refine L_seq ?_
  refine L_region ?_
  refine F_val rfl rfl rfl (O_move rfl rfl) ?_
  obtain ⟨z45, h44, H⟩ := of_bind H
  refine F_call (xs := []) rfl rfl rfl rfl Try.func16 nm16 rfl rfl ((valiseref5_FixedLit.calls (HS37.give [] rfl (Lent.nil)) h44).mono (fun e w hc => ?_))
  obtain ⟨A48, c49, rfl, HSo⟩ := hc
  refine ⟨.slice A48 z45.length c49, rfl, ?_⟩
  have HS47 : Hp S0 w0 w [.own A8 c9 (rowC (Eint .i64) z5) 3 (Eint .i64).sz, .own A18 c19 (rowC (Eint .i64) z15) 3 (Eint .i64).sz, .own A28 c29 (rowC (Eint .i64) z25) 3 (Eint .i64).sz, .own A38 c39 (rowC (Eint .i64) z35) 3 (Eint .i64).sz, .own A48 c49 (rowC (Eint .i64) z45) 3 (Eint .i64).sz] := (HS37.back [] HSo rfl).sel [0, 1, 2, 3, 4] rfl
  obtain ⟨z53, h52, H⟩ := of_bind H
  refine F_qcall (v := .bool z53) (xs := [.tmp 12, .tmp 13]) rfl rfl rfl rfl Try.func15 nm15 rfl rfl ((valiselaw5_same.calls (HS47.give [] rfl (Lent.own HS47 (Lent.own HS47 (Lent.nil) (i := 4) rfl rfl ((HS47.cells_own (i := 4) rfl).self)) (i := 0) rfl rfl ((HS47.cells_own (i := 0) rfl).self))) (HS47.own_capE (i := 0) rfl (by decide)) (HS47.own_capE (i := 4) rfl (by decide)) h52).mono (fun e w hc => ?_)) (fun w54 hw55 => ?_)
  · obtain ⟨rfl, h⟩ := hc
    exact ⟨rfl, h.chg0⟩
  have HS56 := HS47.keep hw55
  refine F_val rfl rfl rfl (O_notb rfl rfl) ?_
  refine F_val rfl rfl rfl (O_move rfl rfl) ?_
  rcases Decidable.em ((!z53) = true) with c57 | c57
  · have H := of_pos H c57
    refine F_know (i := 16) rfl (congrArg Value.bool c57) ?_
    refine F_gskip rfl rfl rfl rfl rfl rfl rfl ?_
    refine F_gskip rfl rfl rfl rfl rfl rfl rfl ?_
    refine F_gskip rfl rfl rfl rfl rfl rfl rfl ?_
    refine F_gskip rfl rfl rfl rfl rfl rfl rfl ?_
    refine F_val rfl rfl rfl (O_pickT rfl rfl rfl) ?_
    refine F_val rfl rfl rfl (O_move rfl rfl) ?_
    refine F_gskip rfl rfl rfl rfl rfl rfl rfl ?_
    refine F_gskip rfl rfl rfl rfl rfl rfl rfl ?_
    refine F_gskip rfl rfl rfl rfl rfl rfl rfl ?_
    refine F_gskip rfl rfl rfl rfl rfl rfl rfl ?_
    refine F_val rfl rfl rfl (O_pickT rfl rfl rfl) ?_
    refine F_val rfl rfl rfl (O_move rfl rfl) ?_
    refine F_gskip rfl rfl rfl rfl rfl rfl rfl ?_
    refine F_gskip rfl rfl rfl rfl rfl rfl rfl ?_
    refine F_gskip rfl rfl rfl rfl rfl rfl rfl ?_
    refine F_gskip rfl rfl rfl rfl rfl rfl rfl ?_
    refine F_val rfl rfl rfl (O_pickT rfl rfl rfl) ?_
    refine F_nil ?_
    refine L_cond rfl (fun _ => ?_) (fun hx => by cases hx)
    refine L_seq ?_
    have HS58 : Hp S0 w0 w54 [] := HS56.sel [] rfl
    refine L_region ?_
    refine F_val rfl rfl rfl (O_assign rfl rfl) ?_
    refine F_nil ?_
    refine L_ret (fun a ha => (post_ret1 ha rfl rfl ?_))
    obtain rfl := Option.some.inj H
    exact ⟨rfl, HS58.sel [] rfl⟩
  · have H := of_neg H c57
    refine F_know (i := 16) rfl (congrArg Value.bool (Bool.eq_false_iff.mpr c57)) ?_
    refine F_gval rfl rfl rfl rfl rfl rfl (O_move rfl rfl) ?_
    obtain ⟨z63, h62, H⟩ := of_bind H
    refine F_gcall (xs := []) rfl rfl rfl rfl rfl rfl rfl Try.func17 nm17 rfl rfl ((valiseref5_FixedDist.calls (HS56.give [] rfl (Lent.nil)) h62).mono (fun e w hc => ?_))
    obtain ⟨A66, c67, rfl, HSo⟩ := hc
    refine ⟨.slice A66 z63.length c67, rfl, ?_⟩
    have HS65 : Hp S0 w0 w [.own A8 c9 (rowC (Eint .i64) z5) 3 (Eint .i64).sz, .own A18 c19 (rowC (Eint .i64) z15) 3 (Eint .i64).sz, .own A28 c29 (rowC (Eint .i64) z25) 3 (Eint .i64).sz, .own A38 c39 (rowC (Eint .i64) z35) 3 (Eint .i64).sz, .own A48 c49 (rowC (Eint .i64) z45) 3 (Eint .i64).sz, .own A66 c67 (rowC (Eint .i64) z63) 3 (Eint .i64).sz] := (HS56.back [] HSo rfl).sel [0, 1, 2, 3, 4, 5] rfl
    obtain ⟨z71, h70, H⟩ := of_bind H
    refine F_gqcall (v := .bool z71) (xs := [.tmp 17, .tmp 18]) rfl rfl rfl rfl rfl rfl rfl Try.func15 nm15 rfl rfl ((valiselaw5_same.calls (HS65.give [] rfl (Lent.own HS65 (Lent.own HS65 (Lent.nil) (i := 5) rfl rfl ((HS65.cells_own (i := 5) rfl).self)) (i := 1) rfl rfl ((HS65.cells_own (i := 1) rfl).self))) (HS65.own_capE (i := 1) rfl (by decide)) (HS65.own_capE (i := 5) rfl (by decide)) h70).mono (fun e w hc => ?_)) (fun w72 hw73 => ?_)
    · obtain ⟨rfl, h⟩ := hc
      exact ⟨rfl, h.chg0⟩
    have HS74 := HS65.keep hw73
    refine F_gval rfl rfl rfl rfl rfl rfl (O_notb rfl rfl) ?_
    refine F_val rfl rfl rfl (O_pickF rfl rfl rfl) ?_
    refine F_val rfl rfl rfl (O_move rfl rfl) ?_
    obtain ⟨b81, Hb81, H⟩ := of_bind H
    refine F_grpQ 5 [(27, .bool b81), (1, .slice A8 z5.length c9), (2, .slice A18 z15.length c19), (3, .slice A28 z25.length c29), (4, .slice A38 z35.length c39)] ?_ (fun w82 hw83 => ?_)
    · rcases Decidable.em ((!z71) = true) with c85 | c85
      · refine F_know (i := 22) rfl (congrArg Value.bool c85) ?_
        have H := of_pos Hb81 c85
        refine F_gskip rfl rfl rfl rfl rfl rfl rfl ?_
        refine F_gskip rfl rfl rfl rfl rfl rfl rfl ?_
        refine F_gskip rfl rfl rfl rfl rfl rfl rfl ?_
        refine F_gskip rfl rfl rfl rfl rfl rfl rfl ?_
        refine F_val rfl rfl rfl (O_pickT rfl rfl rfl) ?_
        refine F_know (i := 27) rfl (congrArg Value.bool (Option.some.inj H)) ?_
        exact F_grpQE (Chg.refl NoB _) (fun a ha => Is.cons ha (Is.cons ha (Is.cons ha (Is.cons ha (Is.cons ha (Is.nil ha) rfl) rfl) rfl) rfl) rfl)
      · refine F_know (i := 22) rfl (congrArg Value.bool (Bool.eq_false_iff.mpr c85)) ?_
        have H := of_neg Hb81 c85
        refine F_gval rfl rfl rfl rfl rfl rfl (O_move rfl rfl) ?_
        refine F_gval rfl rfl rfl rfl rfl rfl (O_move rfl rfl) ?_
        obtain ⟨z88, h87, H⟩ := of_bind H
        refine F_gqcall (v := .bool z88) (xs := [.tmp 23, .tmp 24]) rfl rfl rfl rfl rfl rfl rfl Try.func15 nm15 rfl rfl ((valiselaw5_same.calls (HS74.give [] rfl (Lent.own HS74 (Lent.own HS74 (Lent.nil) (i := 0) rfl rfl ((HS74.cells_own (i := 0) rfl).self)) (i := 2) rfl rfl ((HS74.cells_own (i := 2) rfl).self))) (HS74.own_capE (i := 2) rfl (by decide)) (HS74.own_capE (i := 0) rfl (by decide)) h87).mono (fun e w hc => ?_)) (fun w89 hw90 => ?_)
        · obtain ⟨rfl, h⟩ := hc
          exact ⟨rfl, h.chg0⟩
        have HS91 := HS74.keep hw90
        refine F_gval rfl rfl rfl rfl rfl rfl (O_notb rfl rfl) ?_
        refine F_val rfl rfl rfl (O_pickF rfl rfl rfl) ?_
        refine F_know (i := 27) rfl (congrArg Value.bool (Option.some.inj H)) ?_
        exact F_grpQE ((Chg.refl NoB _).trans hw90) (fun a ha => Is.cons ha (Is.cons ha (Is.cons ha (Is.cons ha (Is.cons ha (Is.nil ha) rfl) rfl) rfl) rfl) rfl)
    · have HS84 := HS74.keep hw83
      refine F_val rfl rfl rfl (O_move rfl rfl) ?_
      obtain ⟨b98, Hb98, H⟩ := of_bind H
      refine F_grpQ 5 [(33, .bool b98), (1, .slice A8 z5.length c9), (2, .slice A18 z15.length c19), (3, .slice A28 z25.length c29), (4, .slice A38 z35.length c39)] ?_ (fun w99 hw100 => ?_)
      · rcases Decidable.em (b81 = true) with c102 | c102
        · refine F_know (i := 28) rfl (congrArg Value.bool c102) ?_
          have H := of_pos Hb98 c102
          refine F_gskip rfl rfl rfl rfl rfl rfl rfl ?_
          refine F_gskip rfl rfl rfl rfl rfl rfl rfl ?_
          refine F_gskip rfl rfl rfl rfl rfl rfl rfl ?_
          refine F_gskip rfl rfl rfl rfl rfl rfl rfl ?_
          refine F_val rfl rfl rfl (O_pickT rfl rfl rfl) ?_
          refine F_know (i := 33) rfl (congrArg Value.bool (Option.some.inj H)) ?_
          exact F_grpQE (Chg.refl NoB _) (fun a ha => Is.cons ha (Is.cons ha (Is.cons ha (Is.cons ha (Is.cons ha (Is.nil ha) rfl) rfl) rfl) rfl) rfl)
        · refine F_know (i := 28) rfl (congrArg Value.bool (Bool.eq_false_iff.mpr c102)) ?_
          have H := of_neg Hb98 c102
          refine F_gval rfl rfl rfl rfl rfl rfl (O_move rfl rfl) ?_
          refine F_gval rfl rfl rfl rfl rfl rfl (O_move rfl rfl) ?_
          obtain ⟨z105, h104, H⟩ := of_bind H
          refine F_gqcall (v := .bool z105) (xs := [.tmp 29, .tmp 30]) rfl rfl rfl rfl rfl rfl rfl Try.func15 nm15 rfl rfl ((valiselaw5_same.calls (HS84.give [] rfl (Lent.own HS84 (Lent.own HS84 (Lent.nil) (i := 1) rfl rfl ((HS84.cells_own (i := 1) rfl).self)) (i := 3) rfl rfl ((HS84.cells_own (i := 3) rfl).self))) (HS84.own_capE (i := 3) rfl (by decide)) (HS84.own_capE (i := 1) rfl (by decide)) h104).mono (fun e w hc => ?_)) (fun w106 hw107 => ?_)
          · obtain ⟨rfl, h⟩ := hc
            exact ⟨rfl, h.chg0⟩
          have HS108 := HS84.keep hw107
          refine F_gval rfl rfl rfl rfl rfl rfl (O_notb rfl rfl) ?_
          refine F_val rfl rfl rfl (O_pickF rfl rfl rfl) ?_
          refine F_know (i := 33) rfl (congrArg Value.bool (Option.some.inj H)) ?_
          exact F_grpQE ((Chg.refl NoB _).trans hw107) (fun a ha => Is.cons ha (Is.cons ha (Is.cons ha (Is.cons ha (Is.cons ha (Is.nil ha) rfl) rfl) rfl) rfl) rfl)
      · have HS101 := HS84.keep hw100
        refine F_nil ?_
        refine L_cond rfl (fun c109 => ?_) (fun c109 => ?_)
        · have H := of_pos H c109
          refine L_seq ?_
          have HS110 : Hp S0 w0 w99 [] := HS101.sel [] rfl
          refine L_region ?_
          refine F_val rfl rfl rfl (O_assign rfl rfl) ?_
          refine F_nil ?_
          refine L_ret (fun a ha => (post_ret1 ha rfl rfl ?_))
          obtain rfl := Option.some.inj H
          exact ⟨rfl, HS110.sel [] rfl⟩
        · have H := of_neg H (by rw [c109]; exact Bool.false_ne_true)
          refine L_skip ?_
          refine L_seq ?_
          have HS111 : Hp S0 w0 w99 [.own A8 c9 (rowC (Eint .i64) z5) 3 (Eint .i64).sz, .own A18 c19 (rowC (Eint .i64) z15) 3 (Eint .i64).sz, .own A28 c29 (rowC (Eint .i64) z25) 3 (Eint .i64).sz, .own A38 c39 (rowC (Eint .i64) z35) 3 (Eint .i64).sz] := HS101.sel [0, 1, 2, 3] rfl
          refine L_region ?_
          refine F_val rfl rfl rfl (O_move rfl rfl) ?_
          obtain ⟨z116, h115, H⟩ := of_bind H
          refine F_call (xs := [.tmp 34]) rfl rfl rfl rfl Try.func18 nm18 rfl rfl ((valiselaw5_spoil.calls (HS111.give [0] rfl (Lent.nil)) h115).mono (fun e w hc => ?_))
          obtain ⟨rfl, HSo, hl119⟩ := hc
          refine ⟨.tuple #[], rfl, ?_⟩
          have HS118 : Hp S0 w0 w [.own A8 c9 (rowC (Eint .i64) z116) 3 (Eint .i64).sz, .own A18 c19 (rowC (Eint .i64) z15) 3 (Eint .i64).sz, .own A28 c29 (rowC (Eint .i64) z25) 3 (Eint .i64).sz, .own A38 c39 (rowC (Eint .i64) z35) 3 (Eint .i64).sz] := (HS111.back [0] HSo rfl).sel [4, 1, 2, 3] rfl
          have e120 : z5.length = z116.length := hl119.symm
          refine F_know (i := 1) rfl (congrArg (fun n => Value.slice A8 n c9) e120) ?_
          refine F_nil ?_
          refine L_seq ?_
          refine L_region ?_
          refine F_val rfl rfl rfl (O_move rfl rfl) ?_
          obtain ⟨z125, h124, H⟩ := of_bind H
          refine F_call (xs := [.tmp 36]) rfl rfl rfl rfl Try.func18 nm18 rfl rfl ((valiselaw5_spoil.calls (HS118.give [1] rfl (Lent.nil)) h124).mono (fun e w hc => ?_))
          obtain ⟨rfl, HSo, hl128⟩ := hc
          refine ⟨.tuple #[], rfl, ?_⟩
          have HS127 : Hp S0 w0 w [.own A8 c9 (rowC (Eint .i64) z116) 3 (Eint .i64).sz, .own A18 c19 (rowC (Eint .i64) z125) 3 (Eint .i64).sz, .own A28 c29 (rowC (Eint .i64) z25) 3 (Eint .i64).sz, .own A38 c39 (rowC (Eint .i64) z35) 3 (Eint .i64).sz] := (HS118.back [1] HSo rfl).sel [0, 4, 2, 3] rfl
          have e129 : z15.length = z125.length := hl128.symm
          refine F_know (i := 2) rfl (congrArg (fun n => Value.slice A18 n c19) e129) ?_
          refine F_nil ?_
          refine L_seq ?_
          refine L_region ?_
          obtain ⟨z134, h133, H⟩ := of_bind H
          refine F_call (xs := []) rfl rfl rfl rfl Try.func13 nm13 rfl rfl ((code_FixedLit.calls (HS127.give [] rfl (Lent.nil)) h133).mono (fun e w hc => ?_))
          obtain ⟨A137, c138, rfl, HSo⟩ := hc
          refine ⟨.slice A137 z134.length c138, rfl, ?_⟩
          have HS136 : Hp S0 w0 w [.own A8 c9 (rowC (Eint .i64) z116) 3 (Eint .i64).sz, .own A18 c19 (rowC (Eint .i64) z125) 3 (Eint .i64).sz, .own A28 c29 (rowC (Eint .i64) z25) 3 (Eint .i64).sz, .own A38 c39 (rowC (Eint .i64) z35) 3 (Eint .i64).sz, .own A137 c138 (rowC (Eint .i64) z134) 3 (Eint .i64).sz] := (HS127.back [] HSo rfl).sel [0, 1, 2, 3, 4] rfl
          refine F_val rfl rfl rfl (O_assign rfl rfl) ?_
          refine F_nil ?_
          refine L_seq ?_
          refine L_region ?_
          obtain ⟨z144, h143, H⟩ := of_bind H
          refine F_call (xs := []) rfl rfl rfl rfl Try.func14 nm14 rfl rfl ((code_FixedDist.calls (HS136.give [] rfl (Lent.nil)) h143).mono (fun e w hc => ?_))
          obtain ⟨A147, c148, rfl, HSo⟩ := hc
          refine ⟨.slice A147 z144.length c148, rfl, ?_⟩
          have HS146 : Hp S0 w0 w [.own A8 c9 (rowC (Eint .i64) z116) 3 (Eint .i64).sz, .own A18 c19 (rowC (Eint .i64) z125) 3 (Eint .i64).sz, .own A28 c29 (rowC (Eint .i64) z25) 3 (Eint .i64).sz, .own A38 c39 (rowC (Eint .i64) z35) 3 (Eint .i64).sz, .own A137 c138 (rowC (Eint .i64) z134) 3 (Eint .i64).sz, .own A147 c148 (rowC (Eint .i64) z144) 3 (Eint .i64).sz] := (HS136.back [] HSo rfl).sel [0, 1, 2, 3, 4, 5] rfl
          refine F_val rfl rfl rfl (O_assign rfl rfl) ?_
          refine F_nil ?_
          refine L_seq ?_
          refine L_region ?_
          refine F_val rfl rfl rfl (O_move rfl rfl) ?_
          obtain ⟨z154, h153, H⟩ := of_bind H
          refine F_call (xs := []) rfl rfl rfl rfl Try.func16 nm16 rfl rfl ((valiseref5_FixedLit.calls (HS146.give [] rfl (Lent.nil)) h153).mono (fun e w hc => ?_))
          obtain ⟨A157, c158, rfl, HSo⟩ := hc
          refine ⟨.slice A157 z154.length c158, rfl, ?_⟩
          have HS156 : Hp S0 w0 w [.own A8 c9 (rowC (Eint .i64) z116) 3 (Eint .i64).sz, .own A18 c19 (rowC (Eint .i64) z125) 3 (Eint .i64).sz, .own A28 c29 (rowC (Eint .i64) z25) 3 (Eint .i64).sz, .own A38 c39 (rowC (Eint .i64) z35) 3 (Eint .i64).sz, .own A137 c138 (rowC (Eint .i64) z134) 3 (Eint .i64).sz, .own A147 c148 (rowC (Eint .i64) z144) 3 (Eint .i64).sz, .own A157 c158 (rowC (Eint .i64) z154) 3 (Eint .i64).sz] := (HS146.back [] HSo rfl).sel [0, 1, 2, 3, 4, 5, 6] rfl
          obtain ⟨z162, h161, H⟩ := of_bind H
          refine F_qcall (v := .bool z162) (xs := [.tmp 40, .tmp 41]) rfl rfl rfl rfl Try.func15 nm15 rfl rfl ((valiselaw5_same.calls (HS156.give [] rfl (Lent.own HS156 (Lent.own HS156 (Lent.nil) (i := 6) rfl rfl ((HS156.cells_own (i := 6) rfl).self)) (i := 2) rfl rfl ((HS156.cells_own (i := 2) rfl).self))) (HS156.own_capE (i := 2) rfl (by decide)) (HS156.own_capE (i := 6) rfl (by decide)) h161).mono (fun e w hc => ?_)) (fun w163 hw164 => ?_)
          · obtain ⟨rfl, h⟩ := hc
            exact ⟨rfl, h.chg0⟩
          have HS165 := HS156.keep hw164
          refine F_val rfl rfl rfl (O_move rfl rfl) ?_
          rcases Decidable.em (z162 = true) with c166 | c166
          · have H := of_pos H c166
            refine F_know (i := 43) rfl (congrArg Value.bool c166) ?_
            refine F_gval rfl rfl rfl rfl rfl rfl (O_move rfl rfl) ?_
            obtain ⟨z171, h170, H⟩ := of_bind H
            refine F_gcall (xs := []) rfl rfl rfl rfl rfl rfl rfl Try.func17 nm17 rfl rfl ((valiseref5_FixedDist.calls (HS165.give [] rfl (Lent.nil)) h170).mono (fun e w hc => ?_))
            obtain ⟨A174, c175, rfl, HSo⟩ := hc
            refine ⟨.slice A174 z171.length c175, rfl, ?_⟩
            have HS173 : Hp S0 w0 w [.own A8 c9 (rowC (Eint .i64) z116) 3 (Eint .i64).sz, .own A18 c19 (rowC (Eint .i64) z125) 3 (Eint .i64).sz, .own A28 c29 (rowC (Eint .i64) z25) 3 (Eint .i64).sz, .own A38 c39 (rowC (Eint .i64) z35) 3 (Eint .i64).sz, .own A137 c138 (rowC (Eint .i64) z134) 3 (Eint .i64).sz, .own A147 c148 (rowC (Eint .i64) z144) 3 (Eint .i64).sz, .own A157 c158 (rowC (Eint .i64) z154) 3 (Eint .i64).sz, .own A174 c175 (rowC (Eint .i64) z171) 3 (Eint .i64).sz] := (HS165.back [] HSo rfl).sel [0, 1, 2, 3, 4, 5, 6, 7] rfl
            obtain ⟨z179, h178, H⟩ := of_bind H
            refine F_gqcall (v := .bool z179) (xs := [.tmp 44, .tmp 45]) rfl rfl rfl rfl rfl rfl rfl Try.func15 nm15 rfl rfl ((valiselaw5_same.calls (HS173.give [] rfl (Lent.own HS173 (Lent.own HS173 (Lent.nil) (i := 7) rfl rfl ((HS173.cells_own (i := 7) rfl).self)) (i := 3) rfl rfl ((HS173.cells_own (i := 3) rfl).self))) (HS173.own_capE (i := 3) rfl (by decide)) (HS173.own_capE (i := 7) rfl (by decide)) h178).mono (fun e w hc => ?_)) (fun w180 hw181 => ?_)
            · obtain ⟨rfl, h⟩ := hc
              exact ⟨rfl, h.chg0⟩
            have HS182 := HS173.keep hw181
            refine F_val rfl rfl rfl (O_pickT rfl rfl rfl) ?_
            refine F_val rfl rfl rfl (O_move rfl rfl) ?_
            obtain ⟨b189, Hb189, H⟩ := of_bind H
            refine F_grpQ 4 [(52, .bool b189), (1, .slice A8 z116.length c9), (2, .slice A18 z125.length c19), (3, .slice A28 z25.length c29), (4, .slice A38 z35.length c39), (5, .slice A137 z134.length c138), (6, .slice A147 z144.length c148)] ?_ (fun w190 hw191 => ?_)
            · rcases Decidable.em (z179 = true) with c193 | c193
              · refine F_know (i := 48) rfl (congrArg Value.bool c193) ?_
                have H := of_pos Hb189 c193
                refine F_gval rfl rfl rfl rfl rfl rfl (O_move rfl rfl) ?_
                refine F_gval rfl rfl rfl rfl rfl rfl (O_move rfl rfl) ?_
                obtain ⟨z196, h195, H⟩ := of_bind H
                refine F_gqcall (v := .bool z196) (xs := [.tmp 49, .tmp 50]) rfl rfl rfl rfl rfl rfl rfl Try.func15 nm15 rfl rfl ((valiselaw5_same.calls (HS182.give [] rfl (Lent.own HS182 (Lent.own HS182 (Lent.nil) (i := 2) rfl rfl ((HS182.cells_own (i := 2) rfl).self)) (i := 4) rfl rfl ((HS182.cells_own (i := 4) rfl).self))) (HS182.own_capE (i := 4) rfl (by decide)) (HS182.own_capE (i := 2) rfl (by decide)) h195).mono (fun e w hc => ?_)) (fun w197 hw198 => ?_)
                · obtain ⟨rfl, h⟩ := hc
                  exact ⟨rfl, h.chg0⟩
                have HS199 := HS182.keep hw198
                refine F_val rfl rfl rfl (O_pickT rfl rfl rfl) ?_
                refine F_know (i := 52) rfl (congrArg Value.bool (Option.some.inj H)) ?_
                exact F_grpQE ((Chg.refl NoB _).trans hw198) (fun a ha => Is.cons ha (Is.cons ha (Is.cons ha (Is.cons ha (Is.cons ha (Is.cons ha (Is.cons ha (Is.nil ha) rfl) rfl) rfl) rfl) rfl) rfl) rfl)
              · refine F_know (i := 48) rfl (congrArg Value.bool (Bool.eq_false_iff.mpr c193)) ?_
                have H := of_neg Hb189 c193
                refine F_gskip rfl rfl rfl rfl rfl rfl rfl ?_
                refine F_gskip rfl rfl rfl rfl rfl rfl rfl ?_
                refine F_gskip rfl rfl rfl rfl rfl rfl rfl ?_
                refine F_val rfl rfl rfl (O_pickF rfl rfl rfl) ?_
                refine F_know (i := 52) rfl (congrArg Value.bool (Option.some.inj H)) ?_
                exact F_grpQE (Chg.refl NoB _) (fun a ha => Is.cons ha (Is.cons ha (Is.cons ha (Is.cons ha (Is.cons ha (Is.cons ha (Is.cons ha (Is.nil ha) rfl) rfl) rfl) rfl) rfl) rfl) rfl)
            · have HS192 := HS182.keep hw191
              refine F_val rfl rfl rfl (O_move rfl rfl) ?_
              obtain ⟨b206, Hb206, H⟩ := of_bind H
              refine F_grpQ 4 [(57, .bool b206), (1, .slice A8 z116.length c9), (2, .slice A18 z125.length c19), (3, .slice A28 z25.length c29), (4, .slice A38 z35.length c39), (5, .slice A137 z134.length c138), (6, .slice A147 z144.length c148)] ?_ (fun w207 hw208 => ?_)
              · rcases Decidable.em (b189 = true) with c210 | c210
                · refine F_know (i := 53) rfl (congrArg Value.bool c210) ?_
                  have H := of_pos Hb206 c210
                  refine F_gval rfl rfl rfl rfl rfl rfl (O_move rfl rfl) ?_
                  refine F_gval rfl rfl rfl rfl rfl rfl (O_move rfl rfl) ?_
                  obtain ⟨z213, h212, H⟩ := of_bind H
                  refine F_gqcall (v := .bool z213) (xs := [.tmp 54, .tmp 55]) rfl rfl rfl rfl rfl rfl rfl Try.func15 nm15 rfl rfl ((valiselaw5_same.calls (HS192.give [] rfl (Lent.own HS192 (Lent.own HS192 (Lent.nil) (i := 3) rfl rfl ((HS192.cells_own (i := 3) rfl).self)) (i := 5) rfl rfl ((HS192.cells_own (i := 5) rfl).self))) (HS192.own_capE (i := 5) rfl (by decide)) (HS192.own_capE (i := 3) rfl (by decide)) h212).mono (fun e w hc => ?_)) (fun w214 hw215 => ?_)
                  · obtain ⟨rfl, h⟩ := hc
                    exact ⟨rfl, h.chg0⟩
                  have HS216 := HS192.keep hw215
                  refine F_val rfl rfl rfl (O_pickT rfl rfl rfl) ?_
                  refine F_know (i := 57) rfl (congrArg Value.bool (Option.some.inj H)) ?_
                  exact F_grpQE ((Chg.refl NoB _).trans hw215) (fun a ha => Is.cons ha (Is.cons ha (Is.cons ha (Is.cons ha (Is.cons ha (Is.cons ha (Is.cons ha (Is.nil ha) rfl) rfl) rfl) rfl) rfl) rfl) rfl)
                · refine F_know (i := 53) rfl (congrArg Value.bool (Bool.eq_false_iff.mpr c210)) ?_
                  have H := of_neg Hb206 c210
                  refine F_gskip rfl rfl rfl rfl rfl rfl rfl ?_
                  refine F_gskip rfl rfl rfl rfl rfl rfl rfl ?_
                  refine F_gskip rfl rfl rfl rfl rfl rfl rfl ?_
                  refine F_val rfl rfl rfl (O_pickF rfl rfl rfl) ?_
                  refine F_know (i := 57) rfl (congrArg Value.bool (Option.some.inj H)) ?_
                  exact F_grpQE (Chg.refl NoB _) (fun a ha => Is.cons ha (Is.cons ha (Is.cons ha (Is.cons ha (Is.cons ha (Is.cons ha (Is.cons ha (Is.nil ha) rfl) rfl) rfl) rfl) rfl) rfl) rfl)
              · have HS209 := HS192.keep hw208
                refine F_val rfl rfl rfl (O_assign rfl rfl) ?_
                refine F_nil ?_
                refine L_seq ?_
                have HS217 : Hp S0 w0 w207 [.own A8 c9 (rowC (Eint .i64) z116) 3 (Eint .i64).sz, .own A18 c19 (rowC (Eint .i64) z125) 3 (Eint .i64).sz, .own A28 c29 (rowC (Eint .i64) z25) 3 (Eint .i64).sz, .own A38 c39 (rowC (Eint .i64) z35) 3 (Eint .i64).sz, .own A137 c138 (rowC (Eint .i64) z134) 3 (Eint .i64).sz, .own A147 c148 (rowC (Eint .i64) z144) 3 (Eint .i64).sz] := HS209.sel [0, 1, 2, 3, 4, 5] rfl
                refine L_region ?_
                refine F_val rfl rfl rfl (O_move rfl rfl) ?_
                refine F_val rfl rfl rfl (O_move rfl rfl) ?_
                rcases Decidable.em (b206 = true) with c218 | c218
                · have H := of_pos H c218
                  refine F_know (i := 59) rfl (congrArg Value.bool c218) ?_
                  refine F_gval rfl rfl rfl rfl rfl rfl (O_move rfl rfl) ?_
                  refine F_gval rfl rfl rfl rfl rfl rfl (O_move rfl rfl) ?_
                  obtain ⟨⟨z223, z224, z225⟩, h222, H⟩ := of_bind H
                  refine F_gcall (xs := [.tmp 60, .tmp 61]) rfl rfl rfl rfl rfl rfl rfl Try.func19 nm19 rfl rfl ((valiselaw5_apartInts.calls (HS217.give [0, 2] rfl (Lent.nil)) h222).mono (fun e w hc => ?_))
                  obtain ⟨rfl, HSo, hl228, hl229⟩ := hc
                  refine ⟨.bool z223, rfl, ?_⟩
                  have HS227 : Hp S0 w0 w [.own A8 c9 (rowC (Eint .i64) z224) 3 (Eint .i64).sz, .own A18 c19 (rowC (Eint .i64) z125) 3 (Eint .i64).sz, .own A28 c29 (rowC (Eint .i64) z225) 3 (Eint .i64).sz, .own A38 c39 (rowC (Eint .i64) z35) 3 (Eint .i64).sz, .own A137 c138 (rowC (Eint .i64) z134) 3 (Eint .i64).sz, .own A147 c148 (rowC (Eint .i64) z144) 3 (Eint .i64).sz] := (HS217.back [0, 2] HSo rfl).sel [6, 1, 7, 3, 4, 5] rfl
                  have e230 : z116.length = z224.length := hl228.symm
                  refine F_know (i := 1) rfl (congrArg (fun n => Value.slice A8 n c9) e230) ?_
                  have e231 : z25.length = z225.length := hl229.symm
                  refine F_know (i := 3) rfl (congrArg (fun n => Value.slice A28 n c29) e231) ?_
                  refine F_val rfl rfl rfl (O_pickT rfl rfl rfl) ?_
                  refine F_val rfl rfl rfl (O_move rfl rfl) ?_
                  rcases Decidable.em (z223 = true) with c232 | c232
                  · have H := of_pos H c232
                    refine F_know (i := 64) rfl (congrArg Value.bool c232) ?_
                    refine F_gval rfl rfl rfl rfl rfl rfl (O_move rfl rfl) ?_
                    refine F_gval rfl rfl rfl rfl rfl rfl (O_move rfl rfl) ?_
                    obtain ⟨⟨z237, z238, z239⟩, h236, H⟩ := of_bind H
                    refine F_gcall (xs := [.tmp 65, .tmp 66]) rfl rfl rfl rfl rfl rfl rfl Try.func19 nm19 rfl rfl ((valiselaw5_apartInts.calls (HS227.give [1, 3] rfl (Lent.nil)) h236).mono (fun e w hc => ?_))
                    obtain ⟨rfl, HSo, hl242, hl243⟩ := hc
                    refine ⟨.bool z237, rfl, ?_⟩
                    have HS241 : Hp S0 w0 w [.own A8 c9 (rowC (Eint .i64) z224) 3 (Eint .i64).sz, .own A18 c19 (rowC (Eint .i64) z238) 3 (Eint .i64).sz, .own A28 c29 (rowC (Eint .i64) z225) 3 (Eint .i64).sz, .own A38 c39 (rowC (Eint .i64) z239) 3 (Eint .i64).sz, .own A137 c138 (rowC (Eint .i64) z134) 3 (Eint .i64).sz, .own A147 c148 (rowC (Eint .i64) z144) 3 (Eint .i64).sz] := (HS227.back [1, 3] HSo rfl).sel [0, 6, 2, 7, 4, 5] rfl
                    have e244 : z125.length = z238.length := hl242.symm
                    refine F_know (i := 2) rfl (congrArg (fun n => Value.slice A18 n c19) e244) ?_
                    have e245 : z35.length = z239.length := hl243.symm
                    refine F_know (i := 4) rfl (congrArg (fun n => Value.slice A38 n c39) e245) ?_
                    refine F_val rfl rfl rfl (O_pickT rfl rfl rfl) ?_
                    refine F_val rfl rfl rfl (O_move rfl rfl) ?_
                    rcases Decidable.em (z237 = true) with c246 | c246
                    · have H := of_pos H c246
                      refine F_know (i := 69) rfl (congrArg Value.bool c246) ?_
                      refine F_gval rfl rfl rfl rfl rfl rfl (O_move rfl rfl) ?_
                      refine F_gval rfl rfl rfl rfl rfl rfl (O_move rfl rfl) ?_
                      obtain ⟨⟨z251, z252, z253⟩, h250, H⟩ := of_bind H
                      refine F_gcall (xs := [.tmp 70, .tmp 71]) rfl rfl rfl rfl rfl rfl rfl Try.func19 nm19 rfl rfl ((valiselaw5_apartInts.calls (HS241.give [2, 3] rfl (Lent.nil)) h250).mono (fun e w hc => ?_))
                      obtain ⟨rfl, HSo, hl256, hl257⟩ := hc
                      refine ⟨.bool z251, rfl, ?_⟩
                      have HS255 : Hp S0 w0 w [.own A8 c9 (rowC (Eint .i64) z224) 3 (Eint .i64).sz, .own A18 c19 (rowC (Eint .i64) z238) 3 (Eint .i64).sz, .own A28 c29 (rowC (Eint .i64) z252) 3 (Eint .i64).sz, .own A38 c39 (rowC (Eint .i64) z253) 3 (Eint .i64).sz, .own A137 c138 (rowC (Eint .i64) z134) 3 (Eint .i64).sz, .own A147 c148 (rowC (Eint .i64) z144) 3 (Eint .i64).sz] := (HS241.back [2, 3] HSo rfl).sel [0, 1, 6, 7, 4, 5] rfl
                      have e258 : z225.length = z252.length := hl256.symm
                      refine F_know (i := 3) rfl (congrArg (fun n => Value.slice A28 n c29) e258) ?_
                      have e259 : z239.length = z253.length := hl257.symm
                      refine F_know (i := 4) rfl (congrArg (fun n => Value.slice A38 n c39) e259) ?_
                      refine F_val rfl rfl rfl (O_pickT rfl rfl rfl) ?_
                      refine F_val rfl rfl rfl (O_move rfl rfl) ?_
                      rcases Decidable.em (z251 = true) with c260 | c260
                      · have H := of_pos H c260
                        refine F_know (i := 74) rfl (congrArg Value.bool c260) ?_
                        refine F_gval rfl rfl rfl rfl rfl rfl (O_move rfl rfl) ?_
                        refine F_gval rfl rfl rfl rfl rfl rfl (O_move rfl rfl) ?_
                        obtain ⟨⟨z265, z266, z267⟩, h264, H⟩ := of_bind H
                        refine F_gcall (xs := [.tmp 75, .tmp 76]) rfl rfl rfl rfl rfl rfl rfl Try.func19 nm19 rfl rfl ((valiselaw5_apartInts.calls (HS255.give [2, 4] rfl (Lent.nil)) h264).mono (fun e w hc => ?_))
                        obtain ⟨rfl, HSo, hl270, hl271⟩ := hc
                        refine ⟨.bool z265, rfl, ?_⟩
                        have HS269 : Hp S0 w0 w [.own A8 c9 (rowC (Eint .i64) z224) 3 (Eint .i64).sz, .own A18 c19 (rowC (Eint .i64) z238) 3 (Eint .i64).sz, .own A28 c29 (rowC (Eint .i64) z266) 3 (Eint .i64).sz, .own A38 c39 (rowC (Eint .i64) z253) 3 (Eint .i64).sz, .own A137 c138 (rowC (Eint .i64) z267) 3 (Eint .i64).sz, .own A147 c148 (rowC (Eint .i64) z144) 3 (Eint .i64).sz] := (HS255.back [2, 4] HSo rfl).sel [0, 1, 6, 3, 7, 5] rfl
                        have e272 : z252.length = z266.length := hl270.symm
                        refine F_know (i := 3) rfl (congrArg (fun n => Value.slice A28 n c29) e272) ?_
                        have e273 : z134.length = z267.length := hl271.symm
                        refine F_know (i := 5) rfl (congrArg (fun n => Value.slice A137 n c138) e273) ?_
                        refine F_val rfl rfl rfl (O_pickT rfl rfl rfl) ?_
                        refine F_val rfl rfl rfl (O_move rfl rfl) ?_
                        rcases Decidable.em (z265 = true) with c274 | c274
                        · have H := of_pos H c274
                          refine F_know (i := 79) rfl (congrArg Value.bool c274) ?_
                          refine F_gval rfl rfl rfl rfl rfl rfl (O_move rfl rfl) ?_
                          refine F_gval rfl rfl rfl rfl rfl rfl (O_move rfl rfl) ?_
                          obtain ⟨⟨z279, z280, z281⟩, h278, H⟩ := of_bind H
                          refine F_gcall (xs := [.tmp 80, .tmp 81]) rfl rfl rfl rfl rfl rfl rfl Try.func19 nm19 rfl rfl ((valiselaw5_apartInts.calls (HS269.give [3, 5] rfl (Lent.nil)) h278).mono (fun e w hc => ?_))
                          obtain ⟨rfl, HSo, hl284, hl285⟩ := hc
                          refine ⟨.bool z279, rfl, ?_⟩
                          have HS283 : Hp S0 w0 w [.own A8 c9 (rowC (Eint .i64) z224) 3 (Eint .i64).sz, .own A18 c19 (rowC (Eint .i64) z238) 3 (Eint .i64).sz, .own A28 c29 (rowC (Eint .i64) z266) 3 (Eint .i64).sz, .own A38 c39 (rowC (Eint .i64) z280) 3 (Eint .i64).sz, .own A137 c138 (rowC (Eint .i64) z267) 3 (Eint .i64).sz, .own A147 c148 (rowC (Eint .i64) z281) 3 (Eint .i64).sz] := (HS269.back [3, 5] HSo rfl).sel [0, 1, 2, 6, 4, 7] rfl
                          have e286 : z253.length = z280.length := hl284.symm
                          refine F_know (i := 4) rfl (congrArg (fun n => Value.slice A38 n c39) e286) ?_
                          have e287 : z144.length = z281.length := hl285.symm
                          refine F_know (i := 6) rfl (congrArg (fun n => Value.slice A147 n c148) e287) ?_
                          refine F_val rfl rfl rfl (O_pickT rfl rfl rfl) ?_
                          refine F_val rfl rfl rfl (O_assign rfl rfl) ?_
                          refine F_nil ?_
                          refine L_ret (fun a ha => (post_ret1 ha rfl rfl ?_))
                          obtain rfl := Option.some.inj H
                          exact ⟨rfl, HS283.sel [] rfl⟩
                        · have H := of_neg H c274
                          refine F_know (i := 79) rfl (congrArg Value.bool (Bool.eq_false_iff.mpr c274)) ?_
                          refine F_gskip rfl rfl rfl rfl rfl rfl rfl ?_
                          refine F_gskip rfl rfl rfl rfl rfl rfl rfl ?_
                          refine F_gskip rfl rfl rfl rfl rfl rfl rfl ?_
                          refine F_val rfl rfl rfl (O_pickF rfl rfl rfl) ?_
                          refine F_val rfl rfl rfl (O_assign rfl rfl) ?_
                          refine F_nil ?_
                          refine L_ret (fun a ha => (post_ret1 ha rfl rfl ?_))
                          obtain rfl := Option.some.inj H
                          exact ⟨rfl, HS269.sel [] rfl⟩
                      · have H := of_neg H c260
                        refine F_know (i := 74) rfl (congrArg Value.bool (Bool.eq_false_iff.mpr c260)) ?_
                        refine F_gskip rfl rfl rfl rfl rfl rfl rfl ?_
                        refine F_gskip rfl rfl rfl rfl rfl rfl rfl ?_
                        refine F_gskip rfl rfl rfl rfl rfl rfl rfl ?_
                        refine F_val rfl rfl rfl (O_pickF rfl rfl rfl) ?_
                        refine F_val rfl rfl rfl (O_move rfl rfl) ?_
                        refine F_gskip rfl rfl rfl rfl rfl rfl rfl ?_
                        refine F_gskip rfl rfl rfl rfl rfl rfl rfl ?_
                        refine F_gskip rfl rfl rfl rfl rfl rfl rfl ?_
                        refine F_val rfl rfl rfl (O_pickF rfl rfl rfl) ?_
                        refine F_val rfl rfl rfl (O_assign rfl rfl) ?_
                        refine F_nil ?_
                        refine L_ret (fun a ha => (post_ret1 ha rfl rfl ?_))
                        obtain rfl := Option.some.inj H
                        exact ⟨rfl, HS255.sel [] rfl⟩
                    · have H := of_neg H c246
                      refine F_know (i := 69) rfl (congrArg Value.bool (Bool.eq_false_iff.mpr c246)) ?_
                      refine F_gskip rfl rfl rfl rfl rfl rfl rfl ?_
                      refine F_gskip rfl rfl rfl rfl rfl rfl rfl ?_
                      refine F_gskip rfl rfl rfl rfl rfl rfl rfl ?_
                      refine F_val rfl rfl rfl (O_pickF rfl rfl rfl) ?_
                      refine F_val rfl rfl rfl (O_move rfl rfl) ?_
                      refine F_gskip rfl rfl rfl rfl rfl rfl rfl ?_
                      refine F_gskip rfl rfl rfl rfl rfl rfl rfl ?_
                      refine F_gskip rfl rfl rfl rfl rfl rfl rfl ?_
                      refine F_val rfl rfl rfl (O_pickF rfl rfl rfl) ?_
                      refine F_val rfl rfl rfl (O_move rfl rfl) ?_
                      refine F_gskip rfl rfl rfl rfl rfl rfl rfl ?_
                      refine F_gskip rfl rfl rfl rfl rfl rfl rfl ?_
                      refine F_gskip rfl rfl rfl rfl rfl rfl rfl ?_
                      refine F_val rfl rfl rfl (O_pickF rfl rfl rfl) ?_
                      refine F_val rfl rfl rfl (O_assign rfl rfl) ?_
                      refine F_nil ?_
                      refine L_ret (fun a ha => (post_ret1 ha rfl rfl ?_))
                      obtain rfl := Option.some.inj H
                      exact ⟨rfl, HS241.sel [] rfl⟩
                  · have H := of_neg H c232
                    refine F_know (i := 64) rfl (congrArg Value.bool (Bool.eq_false_iff.mpr c232)) ?_
                    refine F_gskip rfl rfl rfl rfl rfl rfl rfl ?_
                    refine F_gskip rfl rfl rfl rfl rfl rfl rfl ?_
                    refine F_gskip rfl rfl rfl rfl rfl rfl rfl ?_
                    refine F_val rfl rfl rfl (O_pickF rfl rfl rfl) ?_
                    refine F_val rfl rfl rfl (O_move rfl rfl) ?_
                    refine F_gskip rfl rfl rfl rfl rfl rfl rfl ?_
                    refine F_gskip rfl rfl rfl rfl rfl rfl rfl ?_
                    refine F_gskip rfl rfl rfl rfl rfl rfl rfl ?_
                    refine F_val rfl rfl rfl (O_pickF rfl rfl rfl) ?_
                    refine F_val rfl rfl rfl (O_move rfl rfl) ?_
                    refine F_gskip rfl rfl rfl rfl rfl rfl rfl ?_
                    refine F_gskip rfl rfl rfl rfl rfl rfl rfl ?_
                    refine F_gskip rfl rfl rfl rfl rfl rfl rfl ?_
                    refine F_val rfl rfl rfl (O_pickF rfl rfl rfl) ?_
                    refine F_val rfl rfl rfl (O_move rfl rfl) ?_
                    refine F_gskip rfl rfl rfl rfl rfl rfl rfl ?_
                    refine F_gskip rfl rfl rfl rfl rfl rfl rfl ?_
                    refine F_gskip rfl rfl rfl rfl rfl rfl rfl ?_
                    refine F_val rfl rfl rfl (O_pickF rfl rfl rfl) ?_
                    refine F_val rfl rfl rfl (O_assign rfl rfl) ?_
                    refine F_nil ?_
                    refine L_ret (fun a ha => (post_ret1 ha rfl rfl ?_))
                    obtain rfl := Option.some.inj H
                    exact ⟨rfl, HS227.sel [] rfl⟩
                · have H := of_neg H c218
                  refine F_know (i := 59) rfl (congrArg Value.bool (Bool.eq_false_iff.mpr c218)) ?_
                  refine F_gskip rfl rfl rfl rfl rfl rfl rfl ?_
                  refine F_gskip rfl rfl rfl rfl rfl rfl rfl ?_
                  refine F_gskip rfl rfl rfl rfl rfl rfl rfl ?_
                  refine F_val rfl rfl rfl (O_pickF rfl rfl rfl) ?_
                  refine F_val rfl rfl rfl (O_move rfl rfl) ?_
                  refine F_gskip rfl rfl rfl rfl rfl rfl rfl ?_
                  refine F_gskip rfl rfl rfl rfl rfl rfl rfl ?_
                  refine F_gskip rfl rfl rfl rfl rfl rfl rfl ?_
                  refine F_val rfl rfl rfl (O_pickF rfl rfl rfl) ?_
                  refine F_val rfl rfl rfl (O_move rfl rfl) ?_
                  refine F_gskip rfl rfl rfl rfl rfl rfl rfl ?_
                  refine F_gskip rfl rfl rfl rfl rfl rfl rfl ?_
                  refine F_gskip rfl rfl rfl rfl rfl rfl rfl ?_
                  refine F_val rfl rfl rfl (O_pickF rfl rfl rfl) ?_
                  refine F_val rfl rfl rfl (O_move rfl rfl) ?_
                  refine F_gskip rfl rfl rfl rfl rfl rfl rfl ?_
                  refine F_gskip rfl rfl rfl rfl rfl rfl rfl ?_
                  refine F_gskip rfl rfl rfl rfl rfl rfl rfl ?_
                  refine F_val rfl rfl rfl (O_pickF rfl rfl rfl) ?_
                  refine F_val rfl rfl rfl (O_move rfl rfl) ?_
                  refine F_gskip rfl rfl rfl rfl rfl rfl rfl ?_
                  refine F_gskip rfl rfl rfl rfl rfl rfl rfl ?_
                  refine F_gskip rfl rfl rfl rfl rfl rfl rfl ?_
                  refine F_val rfl rfl rfl (O_pickF rfl rfl rfl) ?_
                  refine F_val rfl rfl rfl (O_assign rfl rfl) ?_
                  refine F_nil ?_
                  refine L_ret (fun a ha => (post_ret1 ha rfl rfl ?_))
                  obtain rfl := Option.some.inj H
                  exact ⟨rfl, HS217.sel [] rfl⟩
          · have H := of_neg H c166
            refine F_know (i := 43) rfl (congrArg Value.bool (Bool.eq_false_iff.mpr c166)) ?_
            refine F_gskip rfl rfl rfl rfl rfl rfl rfl ?_
            refine F_gskip rfl rfl rfl rfl rfl rfl rfl ?_
            refine F_gskip rfl rfl rfl rfl rfl rfl rfl ?_
            refine F_val rfl rfl rfl (O_pickF rfl rfl rfl) ?_
            refine F_val rfl rfl rfl (O_move rfl rfl) ?_
            refine F_gskip rfl rfl rfl rfl rfl rfl rfl ?_
            refine F_gskip rfl rfl rfl rfl rfl rfl rfl ?_
            refine F_gskip rfl rfl rfl rfl rfl rfl rfl ?_
            refine F_val rfl rfl rfl (O_pickF rfl rfl rfl) ?_
            refine F_val rfl rfl rfl (O_move rfl rfl) ?_
            refine F_gskip rfl rfl rfl rfl rfl rfl rfl ?_
            refine F_gskip rfl rfl rfl rfl rfl rfl rfl ?_
            refine F_gskip rfl rfl rfl rfl rfl rfl rfl ?_
            refine F_val rfl rfl rfl (O_pickF rfl rfl rfl) ?_
            refine F_val rfl rfl rfl (O_assign rfl rfl) ?_
            refine F_nil ?_
            refine L_seq ?_
            refine L_region ?_
            refine F_val rfl rfl rfl (O_move rfl rfl) ?_
            refine F_val rfl rfl rfl (O_move rfl rfl) ?_
            refine F_gskip rfl rfl rfl rfl rfl rfl rfl ?_
            refine F_gskip rfl rfl rfl rfl rfl rfl rfl ?_
            refine F_gskip rfl rfl rfl rfl rfl rfl rfl ?_
            refine F_val rfl rfl rfl (O_pickF rfl rfl rfl) ?_
            refine F_val rfl rfl rfl (O_move rfl rfl) ?_
            refine F_gskip rfl rfl rfl rfl rfl rfl rfl ?_
            refine F_gskip rfl rfl rfl rfl rfl rfl rfl ?_
            refine F_gskip rfl rfl rfl rfl rfl rfl rfl ?_
            refine F_val rfl rfl rfl (O_pickF rfl rfl rfl) ?_
            refine F_val rfl rfl rfl (O_move rfl rfl) ?_
            refine F_gskip rfl rfl rfl rfl rfl rfl rfl ?_
            refine F_gskip rfl rfl rfl rfl rfl rfl rfl ?_
            refine F_gskip rfl rfl rfl rfl rfl rfl rfl ?_
            refine F_val rfl rfl rfl (O_pickF rfl rfl rfl) ?_
            refine F_val rfl rfl rfl (O_move rfl rfl) ?_
            refine F_gskip rfl rfl rfl rfl rfl rfl rfl ?_
            refine F_gskip rfl rfl rfl rfl rfl rfl rfl ?_
            refine F_gskip rfl rfl rfl rfl rfl rfl rfl ?_
            refine F_val rfl rfl rfl (O_pickF rfl rfl rfl) ?_
            refine F_val rfl rfl rfl (O_move rfl rfl) ?_
            refine F_gskip rfl rfl rfl rfl rfl rfl rfl ?_
            refine F_gskip rfl rfl rfl rfl rfl rfl rfl ?_
            refine F_gskip rfl rfl rfl rfl rfl rfl rfl ?_
            refine F_val rfl rfl rfl (O_pickF rfl rfl rfl) ?_
            refine F_val rfl rfl rfl (O_assign rfl rfl) ?_
            refine F_nil ?_
            refine L_ret (fun a ha => (post_ret1 ha rfl rfl ?_))
            obtain rfl := Option.some.inj H
            exact ⟨rfl, HS165.sel [] rfl⟩

end Go.Proofs.Ytfglehdaimgaeaa
