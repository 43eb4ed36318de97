import Derived.Test.YteckboojmmeecaaDoorChecked
import Derived.Test.YteckboojmmeecaaDoorGBlockSymbolsGoBackPure
set_option linter.unusedVariables false
set_option linter.unusedSimpArgs false
set_option maxRecDepth 10000
namespace Go.Proofs.YteckboojmmeecaaDoor
open Go Go.V Go.V.Pu
theorem mix : Tryd.prog.follows .mixedOrders = true := by kernel_rfl
theorem size3 : (Tryd.prog.info? 3).map (·.size) = some 1 := by kernel_rfl
theorem flat3 : Flat Tryd.prog 3 := Flat.of Tryd.underlying3 rfl
theorem nm12 : (Tryd.f12.name == "runtime.NumGoroutine") = false := by kernel_rfl
theorem nm16 : (Tryd.f16.name == "runtime.NumGoroutine") = false := by kernel_rfl
theorem nm11 : (Tryd.f11.name == "runtime.NumGoroutine") = false := by kernel_rfl
theorem nm14 : (Tryd.f14.name == "runtime.NumGoroutine") = false := by kernel_rfl
theorem nm9 : (Tryd.f9.name == "runtime.NumGoroutine") = false := by kernel_rfl
/-! function 9: valise/block.DistOf -/
theorem block_DistOf.calls {S0 : Nat → Prop} {w0 : World} {symbol_0 : Int} {extra_1 : Int} {r : Int × Int} (HS0 : Hp S0 w0 w0 [.rd (some ⟨0, 0, none⟩) (rowC (Eint .i64) T_block_distBits), .rd (some ⟨1, 0, none⟩) (rowC (Eint .i64) T_block_distBase)]) (h : block_DistOf.f symbol_0 extra_1 = some r) :
    Calls Tryd.prog 9 ([.int .i64 symbol_0, .int .i64 extra_1] : List Value).toArray w0 (fun e w => e = .returned (.tuple #[.int .i64 r.1, .int .i64 r.2]) ∧ Hp S0 w0 w []) := by
  have H : ((if ((symbol_0 < 0) ∨ (30 ≤ symbol_0)) ∨ (extra_1 < 0) then (some true) else (gd (0 ≤ symbol_0 ∧ symbol_0 < (30 : Int)) (gd (¬ (rd T_block_distBits symbol_0) < 0) (some (decide (shl .i64 1 (rd T_block_distBits symbol_0) ≤ extra_1)))))).bind fun b6 => if b6 = true then (some (0, 1)) else (gd (0 ≤ symbol_0 ∧ symbol_0 < (30 : Int)) (some (IntKind.i64.wrap ((rd T_block_distBase symbol_0) + extra_1), 0)))) = some r := h
  refine calls_start Tryd.func9 rfl rfl ?_
  refine L_seq ?_
  refine L_region ?_
  refine F_val rfl rfl rfl (O_assign rfl rfl) ?_
  refine F_val rfl rfl rfl (O_assign rfl rfl) ?_
  refine F_nil ?_
  refine L_seq ?_
  refine L_seq ?_
  refine L_region ?_
  refine F_val rfl rfl rfl (O_move rfl rfl) ?_
  refine F_val rfl rfl rfl (O_lt rfl rfl rfl) ?_
  refine F_val rfl rfl rfl (O_move rfl rfl) ?_
  refine F_grp 3 [(11, .bool (decide ((symbol_0 < 0) ∨ (30 ≤ symbol_0)))), (0, .int .i64 symbol_0), (1, .int .i64 extra_1)] ?_ ?_
  · rcases Decidable.em (symbol_0 < 0) with c1 | c1
    · refine F_know (i := 8) rfl (dec_t c1) ?_
      refine F_gskip rfl rfl rfl rfl rfl rfl rfl ?_
      refine F_gskip rfl rfl rfl rfl rfl rfl rfl ?_
      refine F_val rfl rfl rfl (O_pickT rfl rfl rfl) ?_
      refine F_know (i := 11) rfl (dec_or_t (q := 30 ≤ symbol_0) c1) ?_
      exact F_grpE (fun a ha => Is.cons ha (Is.cons ha (Is.cons ha (Is.nil ha) rfl) rfl) rfl)
    · refine F_know (i := 8) rfl (dec_f c1) ?_
      refine F_gval rfl rfl rfl rfl rfl rfl (O_move rfl rfl) ?_
      refine F_gval rfl rfl rfl rfl rfl rfl (O_ge rfl rfl rfl) ?_
      refine F_val rfl rfl rfl (O_pickF rfl rfl rfl) ?_
      refine F_know (i := 11) rfl (dec_or_f (q := 30 ≤ symbol_0) c1) ?_
      exact F_grpE (fun a ha => Is.cons ha (Is.cons ha (Is.cons ha (Is.nil ha) rfl) rfl) rfl)
  · skip
    refine F_val rfl rfl rfl (O_move rfl rfl) ?_
    refine F_grp 3 [(15, .bool (decide (((symbol_0 < 0) ∨ (30 ≤ symbol_0)) ∨ (extra_1 < 0)))), (0, .int .i64 symbol_0), (1, .int .i64 extra_1)] ?_ ?_
    · rcases Decidable.em ((symbol_0 < 0) ∨ (30 ≤ symbol_0)) with c2 | c2
      · refine F_know (i := 12) rfl (dec_t c2) ?_
        refine F_gskip rfl rfl rfl rfl rfl rfl rfl ?_
        refine F_gskip rfl rfl rfl rfl rfl rfl rfl ?_
        refine F_val rfl rfl rfl (O_pickT rfl rfl rfl) ?_
        refine F_know (i := 15) rfl (dec_or_t (q := extra_1 < 0) c2) ?_
        exact F_grpE (fun a ha => Is.cons ha (Is.cons ha (Is.cons ha (Is.nil ha) rfl) rfl) rfl)
      · refine F_know (i := 12) rfl (dec_f c2) ?_
        refine F_gval rfl rfl rfl rfl rfl rfl (O_move rfl rfl) ?_
        refine F_gval rfl rfl rfl rfl rfl rfl (O_lt rfl rfl rfl) ?_
        refine F_val rfl rfl rfl (O_pickF rfl rfl rfl) ?_
        refine F_know (i := 15) rfl (dec_or_f (q := extra_1 < 0) c2) ?_
        exact F_grpE (fun a ha => Is.cons ha (Is.cons ha (Is.cons ha (Is.nil ha) rfl) rfl) rfl)
    · skip
      refine F_val rfl rfl rfl (O_move rfl rfl) ?_
      obtain ⟨b6, Hb6, H⟩ := of_bind H
      refine F_grp 7 [(23, .bool b6), (0, .int .i64 symbol_0), (1, .int .i64 extra_1)] ?_ ?_
      · rcases Decidable.em (((symbol_0 < 0) ∨ (30 ≤ symbol_0)) ∨ (extra_1 < 0)) with c7 | c7
        · refine F_know (i := 16) rfl (dec_t c7) ?_
          have H := of_pos Hb6 c7
          refine F_gskip rfl rfl rfl rfl rfl rfl rfl ?_
          refine F_gskip rfl rfl rfl rfl rfl rfl rfl ?_
          refine F_gskip rfl rfl rfl rfl rfl rfl rfl ?_
          refine F_gskip rfl rfl rfl rfl rfl rfl rfl ?_
          refine F_gskip rfl rfl rfl rfl rfl rfl rfl ?_
          refine F_gskip rfl rfl rfl rfl rfl rfl rfl ?_
          refine F_val rfl rfl rfl (O_pickT rfl rfl rfl) ?_
          refine F_know (i := 23) rfl (congrArg Value.bool (Option.some.inj H)) ?_
          exact F_grpE (fun a ha => Is.cons ha (Is.cons ha (Is.cons ha (Is.nil ha) rfl) rfl) rfl)
        · refine F_know (i := 16) rfl (dec_f c7) ?_
          have H := of_neg Hb6 c7
          refine F_gval rfl rfl rfl rfl rfl rfl (O_move rfl rfl) ?_
          refine F_gval rfl rfl rfl rfl rfl rfl (O_move rfl rfl) ?_
          obtain ⟨⟨g8, g9⟩, H⟩ := of_gd H
          refine F_gval rfl rfl rfl rfl rfl rfl (O_idxA rfl rfl rfl Tryd.underlying47 size3 g8 g9) ?_
          refine F_gval rfl rfl rfl rfl rfl rfl (O_loadB rfl rfl flat3 (HS0.cells_rd (i := 0) rfl) (at0 (int_cell g8 (arr_lt T_block_distBits_len g9)))) ?_
          obtain ⟨g10, H⟩ := of_gd H
          refine F_gval rfl rfl rfl rfl rfl rfl (O_shl rfl rfl rfl g10) ?_
          refine F_gval rfl rfl rfl rfl rfl rfl (O_ge rfl rfl rfl) ?_
          refine F_val rfl rfl rfl (O_pickF rfl rfl rfl) ?_
          refine F_know (i := 23) rfl (congrArg Value.bool (Option.some.inj H)) ?_
          exact F_grpE (fun a ha => Is.cons ha (Is.cons ha (Is.cons ha (Is.nil ha) rfl) rfl) rfl)
      · skip
        refine F_nil ?_
        refine L_cond rfl (fun c11 => ?_) (fun c11 => ?_)
        · have H := of_pos H c11
          refine L_seq ?_
          refine L_region ?_
          refine F_val rfl rfl rfl (O_assign rfl rfl) ?_
          refine F_val rfl rfl rfl (O_assign rfl rfl) ?_
          refine F_nil ?_
          refine L_ret (fun a ha => (post_ret2 ha rfl rfl rfl ?_))
          obtain rfl := Option.some.inj H
          exact ⟨rfl, HS0.sel [] rfl⟩
        · have H := of_neg H (by rw [c11]; exact Bool.false_ne_true)
          refine L_skip ?_
          refine L_seq ?_
          refine L_region ?_
          refine F_val rfl rfl rfl (O_move rfl rfl) ?_
          obtain ⟨⟨g12, g13⟩, H⟩ := of_gd H
          refine F_val rfl rfl rfl (O_idxA rfl rfl rfl Tryd.underlying47 size3 g12 g13) ?_
          refine F_val rfl rfl rfl (O_loadB rfl rfl flat3 (HS0.cells_rd (i := 1) rfl) (at0 (int_cell g12 (arr_lt T_block_distBase_len g13)))) ?_
          refine F_val rfl rfl rfl (O_move rfl rfl) ?_
          refine F_val rfl rfl rfl (O_add rfl rfl rfl) ?_
          refine F_val rfl rfl rfl (O_assign rfl rfl) ?_
          refine F_val rfl rfl rfl (O_assign rfl rfl) ?_
          refine F_nil ?_
          refine L_ret (fun a ha => (post_ret2 ha rfl rfl rfl ?_))
          obtain rfl := Option.some.inj H
          exact ⟨rfl, HS0.sel [] rfl⟩

/-! function 11: valise/valiselaw10.num -/
theorem valiselaw10_num.calls {S0 : Nat → Prop} {w0 : World} {e_0 : Int} {r : Int} (HS0 : Hp S0 w0 w0 []) (h : valiselaw10_num.f e_0 = some r) :
    Calls Tryd.prog 11 ([.int .i64 e_0] : List Value).toArray w0 (fun e w => e = .returned (.int .i64 r) ∧ Hp S0 w0 w []) := by
  have H : (some e_0) = some r := h
  refine calls_start Tryd.func11 rfl rfl ?_
  refine L_seq ?_
  refine L_region ?_
  refine F_val rfl rfl rfl (O_assign rfl rfl) ?_
  refine F_nil ?_
  refine L_seq ?_
  refine L_region ?_
  refine F_val rfl rfl rfl (O_move rfl rfl) ?_
  refine F_val rfl rfl rfl (O_assign rfl rfl) ?_
  refine F_nil ?_
  refine L_ret (fun a ha => (post_ret1 ha rfl rfl ?_))
  obtain rfl := Option.some.inj H
  exact ⟨rfl, HS0.sel [] rfl⟩

/-! function 12: valise/block.LengthSymbol -/
theorem block_LengthSymbol.calls {S0 : Nat → Prop} {w0 : World} {length_0 : Int} {r : Int × Int × Int × Int} (HS0 : Hp S0 w0 w0 [.rd (some ⟨2, 0, none⟩) (rowC (Eint .i64) T_block_lengthBase), .rd (some ⟨3, 0, none⟩) (rowC (Eint .i64) T_block_lengthBits)]) (h : block_LengthSymbol.f length_0 = some r) :
    Calls Tryd.prog 12 ([.int .i64 length_0] : List Value).toArray w0 (fun e w => e = .returned (.tuple #[.int .i64 r.1, .int .i64 r.2.1, .int .i64 r.2.2.1, .int .i64 r.2.2.2]) ∧ Hp S0 w0 w []) := by
  have H : (if (length_0 < 3) ∨ (258 < length_0) then (some (0, 0, 0, 1)) else ((block_LengthSymbol.l1 FU 28 length_0).bind fun i_26 => gd (0 ≤ i_26 ∧ i_26 < (29 : Int)) (bnd (IntKind.i64.wrap (257 + i_26)) fun x53 => bnd (rd T_block_lengthBits i_26) fun x55 => bnd (IntKind.i64.wrap (length_0 - (rd T_block_lengthBase i_26))) fun x57 => some (x53, x55, x57, 0)))) = some r := h
  refine calls_start Tryd.func12 rfl rfl ?_
  refine L_seq ?_
  refine L_region ?_
  refine F_val rfl rfl rfl (O_assign rfl rfl) ?_
  refine F_val rfl rfl rfl (O_assign rfl rfl) ?_
  refine F_val rfl rfl rfl (O_assign rfl rfl) ?_
  refine F_val rfl rfl rfl (O_assign rfl rfl) ?_
  refine F_nil ?_
  refine L_seq ?_
  refine L_seq ?_
  refine L_region ?_
  refine F_val rfl rfl rfl (O_move rfl rfl) ?_
  refine F_val rfl rfl rfl (O_lt rfl rfl rfl) ?_
  refine F_val rfl rfl rfl (O_move rfl rfl) ?_
  refine F_grp 3 [(12, .bool (decide ((length_0 < 3) ∨ (258 < length_0)))), (0, .int .i64 length_0)] ?_ ?_
  · rcases Decidable.em (length_0 < 3) with c1 | c1
    · refine F_know (i := 9) rfl (dec_t c1) ?_
      refine F_gskip rfl rfl rfl rfl rfl rfl rfl ?_
      refine F_gskip rfl rfl rfl rfl rfl rfl rfl ?_
      refine F_val rfl rfl rfl (O_pickT rfl rfl rfl) ?_
      refine F_know (i := 12) rfl (dec_or_t (q := 258 < length_0) c1) ?_
      exact F_grpE (fun a ha => Is.cons ha (Is.cons ha (Is.nil ha) rfl) rfl)
    · refine F_know (i := 9) rfl (dec_f c1) ?_
      refine F_gval rfl rfl rfl rfl rfl rfl (O_move rfl rfl) ?_
      refine F_gval rfl rfl rfl rfl rfl rfl (O_gt rfl rfl rfl) ?_
      refine F_val rfl rfl rfl (O_pickF rfl rfl rfl) ?_
      refine F_know (i := 12) rfl (dec_or_f (q := 258 < length_0) c1) ?_
      exact F_grpE (fun a ha => Is.cons ha (Is.cons ha (Is.nil ha) rfl) rfl)
  · skip
    refine F_nil ?_
    refine L_condP rfl (fun c2 => ?_) (fun c2 => ?_)
    · have H := of_pos H c2
      refine L_seq ?_
      refine L_region ?_
      refine F_val rfl rfl rfl (O_assign rfl rfl) ?_
      refine F_val rfl rfl rfl (O_assign rfl rfl) ?_
      refine F_val rfl rfl rfl (O_assign rfl rfl) ?_
      refine F_val rfl rfl rfl (O_assign rfl rfl) ?_
      refine F_nil ?_
      refine L_ret (fun a ha => (post_ret4 ha rfl rfl rfl rfl rfl ?_))
      obtain rfl := Option.some.inj H
      exact ⟨rfl, HS0.sel [] rfl⟩
    · have H := of_neg H c2
      refine L_skip ?_
      refine L_seq ?_
      refine L_region ?_
      refine F_val rfl rfl rfl (O_assign rfl rfl) ?_
      refine F_nil ?_
      refine L_seq ?_
      obtain ⟨yj3, Hyj3, H⟩ := of_bind H
      refine L_join (fun a w => ∃ (i_26 : Int), yj3 = i_26 ∧ Is Tryd.f12.ntmps a [(0, .int .i64 length_0), (6, .int .i64 i_26)] ∧ Hp S0 w0 w [.rd (some ⟨2, 0, none⟩) (rowC (Eint .i64) T_block_lengthBase), .rd (some ⟨3, 0, none⟩) (rowC (Eint .i64) T_block_lengthBits)]) (fun Qj3 hNj3 hOj3 => ?_) (fun a w hR => ?_)
      · skip
        have H := Hyj3
        refine L_blk (fun Qb27 hNb27 hXb27 hOb27 => ?_)
        refine L_lp (fun k a w => ∃ (i_40 : Int), Is Tryd.f12.ntmps a [(0, .int .i64 length_0), (6, .int .i64 i_40)] ∧ Hp S0 w0 w [.rd (some ⟨2, 0, none⟩) (rowC (Eint .i64) T_block_lengthBase), .rd (some ⟨3, 0, none⟩) (rowC (Eint .i64) T_block_lengthBits)] ∧ block_LengthSymbol.l1 k i_40 length_0 = some yj3) FU (fun a ha => ⟨_, Is.cons ha (Is.cons ha (Is.nil ha) rfl) rfl, HS0.sel [0, 1] rfl, H⟩) (fun kp39 a w41 hI Qp39 hNp39 hOp39 => ?_)
        obtain ⟨i_40, ha, HS42, HAp39⟩ := hI
        cases kp39 with
        | zero => cases (show (none : Option _) = some _ from HAp39)
        | succ kp39 =>
          have H := (block_LengthSymbol.l1.eq_2 ..).symm.trans HAp39
          refine wpLF_app ?_ ha
          refine L_seq ?_
          refine L_seq ?_
          refine L_region ?_
          refine F_val rfl rfl rfl (O_move rfl rfl) ?_
          obtain ⟨⟨g43, g44⟩, H⟩ := of_gd H
          refine F_val rfl rfl rfl (O_idxA rfl rfl rfl Tryd.underlying49 size3 g43 g44) ?_
          refine F_val rfl rfl rfl (O_loadB rfl rfl flat3 (HS42.cells_rd (i := 0) rfl) (at0 (int_cell g43 (arr_lt T_block_lengthBase_len g44)))) ?_
          refine F_val rfl rfl rfl (O_move rfl rfl) ?_
          refine F_val rfl rfl rfl (O_gt rfl rfl rfl) ?_
          refine F_nil ?_
          refine L_condP rfl (fun c45 => ?_) (fun c45 => ?_)
          · have H := of_pos H c45
            refine L_skip ?_
            refine L_blk (fun Q46 hN46 hX46 hO46 => ?_)
            refine L_region ?_
            refine F_val rfl rfl rfl (O_move rfl rfl) ?_
            refine F_val rfl rfl rfl (O_sub rfl rfl rfl) ?_
            obtain ⟨x47, h48, H⟩ := of_bnd H
            refine F_val rfl rfl rfl (O_assign' rfl rfl (congrArg (Value.int .i64) h48)) ?_
            refine F_nil ?_
            refine L_endB hN46 ?_
            refine L_nil (fun a ha => hNp39 _ a _ (Nat.lt_succ_self _) ⟨_, Is.cons ha (Is.cons ha (Is.nil ha) rfl) rfl, HS42.sel [0, 1] rfl, H⟩)
          · have H := of_neg H c45
            refine L_exitB (fun a w h => hOp39 (.exit 0) a w rfl (hXb27 a w h)) ?_
            refine L_nil (fun a ha => hNj3 a _ ⟨_, (Option.some.inj H).symm, Is.cons ha (Is.cons ha (Is.nil ha) rfl) rfl, HS42.sel [0, 1] rfl⟩)
      · obtain ⟨i_26, rfl, ha, HS50⟩ := hR
        refine wpLF_app ?_ ha
        refine L_seq ?_
        refine L_quiet mix (by kernel_rfl) ?_
        refine Q_val rfl rfl rfl (fun wq hq => O_move rfl rfl) ?_
        refine Q_val rfl rfl rfl (fun wq hq => O_add rfl rfl rfl) ?_
        refine Q_val rfl rfl rfl (fun wq hq => O_move rfl rfl) ?_
        obtain ⟨⟨g51, g52⟩, H⟩ := of_gd H
        refine Q_val rfl rfl rfl (fun wq hq => O_idxA rfl rfl rfl Tryd.underlying49 size3 g51 g52) ?_
        refine Q_val rfl rfl rfl (fun wq hq => O_loadB rfl rfl flat3 ((HS50.keep hq).cells_rd (i := 1) rfl) (at0 (int_cell g51 (arr_lt T_block_lengthBits_len g52)))) ?_
        refine Q_val rfl rfl rfl (fun wq hq => O_move rfl rfl) ?_
        refine Q_val rfl rfl rfl (fun wq hq => O_move rfl rfl) ?_
        refine Q_val rfl rfl rfl (fun wq hq => O_idxA rfl rfl rfl Tryd.underlying49 size3 g51 g52) ?_
        refine Q_val rfl rfl rfl (fun wq hq => O_loadB rfl rfl flat3 ((HS50.keep hq).cells_rd (i := 0) rfl) (at0 (int_cell g51 (arr_lt T_block_lengthBase_len g52)))) ?_
        refine Q_val rfl rfl rfl (fun wq hq => O_sub rfl rfl rfl) ?_
        obtain ⟨x53, h54, H⟩ := of_bnd H
        refine Q_val rfl rfl rfl (fun wq hq => O_assign' rfl rfl (congrArg (Value.int .i64) h54)) ?_
        obtain ⟨x55, h56, H⟩ := of_bnd H
        refine Q_val rfl rfl rfl (fun wq hq => O_assign' rfl rfl (congrArg (Value.int .i64) h56)) ?_
        obtain ⟨x57, h58, H⟩ := of_bnd H
        refine Q_val rfl rfl rfl (fun wq hq => O_assign' rfl rfl (congrArg (Value.int .i64) h58)) ?_
        refine Q_val rfl rfl rfl (fun wq hq => O_assign rfl rfl) ?_
        refine Q_nil (fun w59 hw60 => ?_)
        have HS61 := HS50.keep hw60
        refine L_ret (fun a ha => (post_ret4 ha rfl rfl rfl rfl rfl ?_))
        obtain rfl := Option.some.inj H
        exact ⟨rfl, HS61.sel [] rfl⟩

/-! function 14: valise/block.DistSymbol -/
theorem block_DistSymbol.calls {S0 : Nat → Prop} {w0 : World} {dist_0 : Int} {r : Int × Int × Int × Int} (HS0 : Hp S0 w0 w0 [.rd (some ⟨0, 0, none⟩) (rowC (Eint .i64) T_block_distBits), .rd (some ⟨1, 0, none⟩) (rowC (Eint .i64) T_block_distBase)]) (h : block_DistSymbol.f dist_0 = some r) :
    Calls Tryd.prog 14 ([.int .i64 dist_0] : List Value).toArray w0 (fun e w => e = .returned (.tuple #[.int .i64 r.1, .int .i64 r.2.1, .int .i64 r.2.2.1, .int .i64 r.2.2.2]) ∧ Hp S0 w0 w []) := by
  have H : (if (dist_0 < 1) ∨ (32768 < dist_0) then (some (0, 0, 0, 1)) else ((block_DistSymbol.l1 FU 29 dist_0).bind fun i_26 => gd (0 ≤ i_26 ∧ i_26 < (30 : Int)) (bnd (rd T_block_distBits i_26) fun x53 => bnd (IntKind.i64.wrap (dist_0 - (rd T_block_distBase i_26))) fun x55 => some (i_26, x53, x55, 0)))) = some r := h
  refine calls_start Tryd.func14 rfl rfl ?_
  refine L_seq ?_
  refine L_region ?_
  refine F_val rfl rfl rfl (O_assign rfl rfl) ?_
  refine F_val rfl rfl rfl (O_assign rfl rfl) ?_
  refine F_val rfl rfl rfl (O_assign rfl rfl) ?_
  refine F_val rfl rfl rfl (O_assign rfl rfl) ?_
  refine F_nil ?_
  refine L_seq ?_
  refine L_seq ?_
  refine L_region ?_
  refine F_val rfl rfl rfl (O_move rfl rfl) ?_
  refine F_val rfl rfl rfl (O_lt rfl rfl rfl) ?_
  refine F_val rfl rfl rfl (O_move rfl rfl) ?_
  refine F_grp 3 [(12, .bool (decide ((dist_0 < 1) ∨ (32768 < dist_0)))), (0, .int .i64 dist_0)] ?_ ?_
  · rcases Decidable.em (dist_0 < 1) with c1 | c1
    · refine F_know (i := 9) rfl (dec_t c1) ?_
      refine F_gskip rfl rfl rfl rfl rfl rfl rfl ?_
      refine F_gskip rfl rfl rfl rfl rfl rfl rfl ?_
      refine F_val rfl rfl rfl (O_pickT rfl rfl rfl) ?_
      refine F_know (i := 12) rfl (dec_or_t (q := 32768 < dist_0) c1) ?_
      exact F_grpE (fun a ha => Is.cons ha (Is.cons ha (Is.nil ha) rfl) rfl)
    · refine F_know (i := 9) rfl (dec_f c1) ?_
      refine F_gval rfl rfl rfl rfl rfl rfl (O_move rfl rfl) ?_
      refine F_gval rfl rfl rfl rfl rfl rfl (O_gt rfl rfl rfl) ?_
      refine F_val rfl rfl rfl (O_pickF rfl rfl rfl) ?_
      refine F_know (i := 12) rfl (dec_or_f (q := 32768 < dist_0) c1) ?_
      exact F_grpE (fun a ha => Is.cons ha (Is.cons ha (Is.nil ha) rfl) rfl)
  · skip
    refine F_nil ?_
    refine L_condP rfl (fun c2 => ?_) (fun c2 => ?_)
    · have H := of_pos H c2
      refine L_seq ?_
      refine L_region ?_
      refine F_val rfl rfl rfl (O_assign rfl rfl) ?_
      refine F_val rfl rfl rfl (O_assign rfl rfl) ?_
      refine F_val rfl rfl rfl (O_assign rfl rfl) ?_
      refine F_val rfl rfl rfl (O_assign rfl rfl) ?_
      refine F_nil ?_
      refine L_ret (fun a ha => (post_ret4 ha rfl rfl rfl rfl rfl ?_))
      obtain rfl := Option.some.inj H
      exact ⟨rfl, HS0.sel [] rfl⟩
    · have H := of_neg H c2
      refine L_skip ?_
      refine L_seq ?_
      refine L_region ?_
      refine F_val rfl rfl rfl (O_assign rfl rfl) ?_
      refine F_nil ?_
      refine L_seq ?_
      obtain ⟨yj3, Hyj3, H⟩ := of_bind H
      refine L_join (fun a w => ∃ (i_26 : Int), yj3 = i_26 ∧ Is Tryd.f14.ntmps a [(0, .int .i64 dist_0), (6, .int .i64 i_26)] ∧ Hp S0 w0 w [.rd (some ⟨0, 0, none⟩) (rowC (Eint .i64) T_block_distBits), .rd (some ⟨1, 0, none⟩) (rowC (Eint .i64) T_block_distBase)]) (fun Qj3 hNj3 hOj3 => ?_) (fun a w hR => ?_)
      · skip
        have H := Hyj3
        refine L_blk (fun Qb27 hNb27 hXb27 hOb27 => ?_)
        refine L_lp (fun k a w => ∃ (i_40 : Int), Is Tryd.f14.ntmps a [(0, .int .i64 dist_0), (6, .int .i64 i_40)] ∧ Hp S0 w0 w [.rd (some ⟨0, 0, none⟩) (rowC (Eint .i64) T_block_distBits), .rd (some ⟨1, 0, none⟩) (rowC (Eint .i64) T_block_distBase)] ∧ block_DistSymbol.l1 k i_40 dist_0 = some yj3) FU (fun a ha => ⟨_, Is.cons ha (Is.cons ha (Is.nil ha) rfl) rfl, HS0.sel [0, 1] rfl, H⟩) (fun kp39 a w41 hI Qp39 hNp39 hOp39 => ?_)
        obtain ⟨i_40, ha, HS42, HAp39⟩ := hI
        cases kp39 with
        | zero => cases (show (none : Option _) = some _ from HAp39)
        | succ kp39 =>
          have H := (block_DistSymbol.l1.eq_2 ..).symm.trans HAp39
          refine wpLF_app ?_ ha
          refine L_seq ?_
          refine L_seq ?_
          refine L_region ?_
          refine F_val rfl rfl rfl (O_move rfl rfl) ?_
          obtain ⟨⟨g43, g44⟩, H⟩ := of_gd H
          refine F_val rfl rfl rfl (O_idxA rfl rfl rfl Tryd.underlying47 size3 g43 g44) ?_
          refine F_val rfl rfl rfl (O_loadB rfl rfl flat3 (HS42.cells_rd (i := 1) rfl) (at0 (int_cell g43 (arr_lt T_block_distBase_len g44)))) ?_
          refine F_val rfl rfl rfl (O_move rfl rfl) ?_
          refine F_val rfl rfl rfl (O_gt rfl rfl rfl) ?_
          refine F_nil ?_
          refine L_condP rfl (fun c45 => ?_) (fun c45 => ?_)
          · have H := of_pos H c45
            refine L_skip ?_
            refine L_blk (fun Q46 hN46 hX46 hO46 => ?_)
            refine L_region ?_
            refine F_val rfl rfl rfl (O_move rfl rfl) ?_
            refine F_val rfl rfl rfl (O_sub rfl rfl rfl) ?_
            obtain ⟨x47, h48, H⟩ := of_bnd H
            refine F_val rfl rfl rfl (O_assign' rfl rfl (congrArg (Value.int .i64) h48)) ?_
            refine F_nil ?_
            refine L_endB hN46 ?_
            refine L_nil (fun a ha => hNp39 _ a _ (Nat.lt_succ_self _) ⟨_, Is.cons ha (Is.cons ha (Is.nil ha) rfl) rfl, HS42.sel [0, 1] rfl, H⟩)
          · have H := of_neg H c45
            refine L_exitB (fun a w h => hOp39 (.exit 0) a w rfl (hXb27 a w h)) ?_
            refine L_nil (fun a ha => hNj3 a _ ⟨_, (Option.some.inj H).symm, Is.cons ha (Is.cons ha (Is.nil ha) rfl) rfl, HS42.sel [0, 1] rfl⟩)
      · obtain ⟨i_26, rfl, ha, HS50⟩ := hR
        refine wpLF_app ?_ ha
        refine L_seq ?_
        refine L_quiet mix (by kernel_rfl) ?_
        refine Q_val rfl rfl rfl (fun wq hq => O_move rfl rfl) ?_
        refine Q_val rfl rfl rfl (fun wq hq => O_move rfl rfl) ?_
        obtain ⟨⟨g51, g52⟩, H⟩ := of_gd H
        refine Q_val rfl rfl rfl (fun wq hq => O_idxA rfl rfl rfl Tryd.underlying47 size3 g51 g52) ?_
        refine Q_val rfl rfl rfl (fun wq hq => O_loadB rfl rfl flat3 ((HS50.keep hq).cells_rd (i := 0) rfl) (at0 (int_cell g51 (arr_lt T_block_distBits_len g52)))) ?_
        refine Q_val rfl rfl rfl (fun wq hq => O_move rfl rfl) ?_
        refine Q_val rfl rfl rfl (fun wq hq => O_move rfl rfl) ?_
        refine Q_val rfl rfl rfl (fun wq hq => O_idxA rfl rfl rfl Tryd.underlying47 size3 g51 g52) ?_
        refine Q_val rfl rfl rfl (fun wq hq => O_loadB rfl rfl flat3 ((HS50.keep hq).cells_rd (i := 1) rfl) (at0 (int_cell g51 (arr_lt T_block_distBase_len g52)))) ?_
        refine Q_val rfl rfl rfl (fun wq hq => O_sub rfl rfl rfl) ?_
        refine Q_val rfl rfl rfl (fun wq hq => O_assign rfl rfl) ?_
        obtain ⟨x53, h54, H⟩ := of_bnd H
        refine Q_val rfl rfl rfl (fun wq hq => O_assign' rfl rfl (congrArg (Value.int .i64) h54)) ?_
        obtain ⟨x55, h56, H⟩ := of_bnd H
        refine Q_val rfl rfl rfl (fun wq hq => O_assign' rfl rfl (congrArg (Value.int .i64) h56)) ?_
        refine Q_val rfl rfl rfl (fun wq hq => O_assign rfl rfl) ?_
        refine Q_nil (fun w57 hw58 => ?_)
        have HS59 := HS50.keep hw58
        refine L_ret (fun a ha => (post_ret4 ha rfl rfl rfl rfl rfl ?_))
        obtain rfl := Option.some.inj H
        exact ⟨rfl, HS59.sel [] rfl⟩

/-! function 16: valise/block.LengthOf -/
theorem block_LengthOf.calls {S0 : Nat → Prop} {w0 : World} {symbol_0 : Int} {extra_1 : Int} {r : Int × Int} (HS0 : Hp S0 w0 w0 [.rd (some ⟨2, 0, none⟩) (rowC (Eint .i64) T_block_lengthBase), .rd (some ⟨3, 0, none⟩) (rowC (Eint .i64) T_block_lengthBits)]) (h : block_LengthOf.f symbol_0 extra_1 = some r) :
    Calls Tryd.prog 16 ([.int .i64 symbol_0, .int .i64 extra_1] : List Value).toArray w0 (fun e w => e = .returned (.tuple #[.int .i64 r.1, .int .i64 r.2]) ∧ Hp S0 w0 w []) := by
  have H : (if (symbol_0 ≤ 256) ∨ (286 ≤ symbol_0) then (some (0, 1)) else (bnd (IntKind.i64.wrap ((IntKind.i64.wrap (symbol_0 - 256)) - 1)) fun x3 => (if extra_1 < 0 then (some true) else (gd (0 ≤ x3 ∧ x3 < (29 : Int)) (gd (¬ (rd T_block_lengthBits x3) < 0) (some (decide (shl .i64 1 (rd T_block_lengthBits x3) ≤ extra_1)))))).bind fun b8 => if b8 = true then (some (0, 1)) else (gd (0 ≤ x3 ∧ x3 < (29 : Int)) (some (IntKind.i64.wrap ((rd T_block_lengthBase x3) + extra_1), 0))))) = some r := h
  refine calls_start Tryd.func16 rfl rfl ?_
  refine L_seq ?_
  refine L_region ?_
  refine F_val rfl rfl rfl (O_assign rfl rfl) ?_
  refine F_val rfl rfl rfl (O_assign rfl rfl) ?_
  refine F_nil ?_
  refine L_seq ?_
  refine L_seq ?_
  refine L_region ?_
  refine F_val rfl rfl rfl (O_move rfl rfl) ?_
  refine F_val rfl rfl rfl (O_le rfl rfl rfl) ?_
  refine F_val rfl rfl rfl (O_move rfl rfl) ?_
  refine F_grp 3 [(12, .bool (decide ((symbol_0 ≤ 256) ∨ (286 ≤ symbol_0)))), (0, .int .i64 symbol_0), (1, .int .i64 extra_1)] ?_ ?_
  · rcases Decidable.em (symbol_0 ≤ 256) with c1 | c1
    · refine F_know (i := 9) rfl (dec_t c1) ?_
      refine F_gskip rfl rfl rfl rfl rfl rfl rfl ?_
      refine F_gskip rfl rfl rfl rfl rfl rfl rfl ?_
      refine F_val rfl rfl rfl (O_pickT rfl rfl rfl) ?_
      refine F_know (i := 12) rfl (dec_or_t (q := 286 ≤ symbol_0) c1) ?_
      exact F_grpE (fun a ha => Is.cons ha (Is.cons ha (Is.cons ha (Is.nil ha) rfl) rfl) rfl)
    · refine F_know (i := 9) rfl (dec_f c1) ?_
      refine F_gval rfl rfl rfl rfl rfl rfl (O_move rfl rfl) ?_
      refine F_gval rfl rfl rfl rfl rfl rfl (O_ge rfl rfl rfl) ?_
      refine F_val rfl rfl rfl (O_pickF rfl rfl rfl) ?_
      refine F_know (i := 12) rfl (dec_or_f (q := 286 ≤ symbol_0) c1) ?_
      exact F_grpE (fun a ha => Is.cons ha (Is.cons ha (Is.cons ha (Is.nil ha) rfl) rfl) rfl)
  · skip
    refine F_nil ?_
    refine L_condP rfl (fun c2 => ?_) (fun c2 => ?_)
    · have H := of_pos H c2
      refine L_seq ?_
      refine L_region ?_
      refine F_val rfl rfl rfl (O_assign rfl rfl) ?_
      refine F_val rfl rfl rfl (O_assign rfl rfl) ?_
      refine F_nil ?_
      refine L_ret (fun a ha => (post_ret2 ha rfl rfl rfl ?_))
      obtain rfl := Option.some.inj H
      exact ⟨rfl, HS0.sel [] rfl⟩
    · have H := of_neg H c2
      refine L_skip ?_
      refine L_seq ?_
      refine L_region ?_
      refine F_val rfl rfl rfl (O_move rfl rfl) ?_
      refine F_val rfl rfl rfl (O_sub rfl rfl rfl) ?_
      refine F_val rfl rfl rfl (O_sub rfl rfl rfl) ?_
      obtain ⟨x3, h4, H⟩ := of_bnd H
      refine F_val rfl rfl rfl (O_assign' rfl rfl (congrArg (Value.int .i64) h4)) ?_
      refine F_nil ?_
      refine L_seq ?_
      refine L_seq ?_
      refine L_region ?_
      refine F_val rfl rfl rfl (O_move rfl rfl) ?_
      refine F_val rfl rfl rfl (O_lt rfl rfl rfl) ?_
      refine F_val rfl rfl rfl (O_move rfl rfl) ?_
      obtain ⟨b8, Hb8, H⟩ := of_bind H
      refine F_grp 7 [(25, .bool b8), (1, .int .i64 extra_1), (6, .int .i64 x3)] ?_ ?_
      · rcases Decidable.em (extra_1 < 0) with c9 | c9
        · refine F_know (i := 18) rfl (dec_t c9) ?_
          have H := of_pos Hb8 c9
          refine F_gskip rfl rfl rfl rfl rfl rfl rfl ?_
          refine F_gskip rfl rfl rfl rfl rfl rfl rfl ?_
          refine F_gskip rfl rfl rfl rfl rfl rfl rfl ?_
          refine F_gskip rfl rfl rfl rfl rfl rfl rfl ?_
          refine F_gskip rfl rfl rfl rfl rfl rfl rfl ?_
          refine F_gskip rfl rfl rfl rfl rfl rfl rfl ?_
          refine F_val rfl rfl rfl (O_pickT rfl rfl rfl) ?_
          refine F_know (i := 25) rfl (congrArg Value.bool (Option.some.inj H)) ?_
          exact F_grpE (fun a ha => Is.cons ha (Is.cons ha (Is.cons ha (Is.nil ha) rfl) rfl) rfl)
        · refine F_know (i := 18) rfl (dec_f c9) ?_
          have H := of_neg Hb8 c9
          refine F_gval rfl rfl rfl rfl rfl rfl (O_move rfl rfl) ?_
          refine F_gval rfl rfl rfl rfl rfl rfl (O_move rfl rfl) ?_
          obtain ⟨⟨g10, g11⟩, H⟩ := of_gd H
          refine F_gval rfl rfl rfl rfl rfl rfl (O_idxA rfl rfl rfl Tryd.underlying49 size3 g10 g11) ?_
          refine F_gval rfl rfl rfl rfl rfl rfl (O_loadB rfl rfl flat3 (HS0.cells_rd (i := 1) rfl) (at0 (int_cell g10 (arr_lt T_block_lengthBits_len g11)))) ?_
          obtain ⟨g12, H⟩ := of_gd H
          refine F_gval rfl rfl rfl rfl rfl rfl (O_shl rfl rfl rfl g12) ?_
          refine F_gval rfl rfl rfl rfl rfl rfl (O_ge rfl rfl rfl) ?_
          refine F_val rfl rfl rfl (O_pickF rfl rfl rfl) ?_
          refine F_know (i := 25) rfl (congrArg Value.bool (Option.some.inj H)) ?_
          exact F_grpE (fun a ha => Is.cons ha (Is.cons ha (Is.cons ha (Is.nil ha) rfl) rfl) rfl)
      · skip
        refine F_nil ?_
        refine L_cond rfl (fun c13 => ?_) (fun c13 => ?_)
        · have H := of_pos H c13
          refine L_seq ?_
          refine L_region ?_
          refine F_val rfl rfl rfl (O_assign rfl rfl) ?_
          refine F_val rfl rfl rfl (O_assign rfl rfl) ?_
          refine F_nil ?_
          refine L_ret (fun a ha => (post_ret2 ha rfl rfl rfl ?_))
          obtain rfl := Option.some.inj H
          exact ⟨rfl, HS0.sel [] rfl⟩
        · have H := of_neg H (by rw [c13]; exact Bool.false_ne_true)
          refine L_skip ?_
          refine L_seq ?_
          refine L_region ?_
          refine F_val rfl rfl rfl (O_move rfl rfl) ?_
          obtain ⟨⟨g14, g15⟩, H⟩ := of_gd H
          refine F_val rfl rfl rfl (O_idxA rfl rfl rfl Tryd.underlying49 size3 g14 g15) ?_
          refine F_val rfl rfl rfl (O_loadB rfl rfl flat3 (HS0.cells_rd (i := 0) rfl) (at0 (int_cell g14 (arr_lt T_block_lengthBase_len g15)))) ?_
          refine F_val rfl rfl rfl (O_move rfl rfl) ?_
          refine F_val rfl rfl rfl (O_add rfl rfl rfl) ?_
          refine F_val rfl rfl rfl (O_assign rfl rfl) ?_
          refine F_val rfl rfl rfl (O_assign rfl rfl) ?_
          refine F_nil ?_
          refine L_ret (fun a ha => (post_ret2 ha rfl rfl rfl ?_))
          obtain rfl := Option.some.inj H
          exact ⟨rfl, HS0.sel [] rfl⟩

/-! function 8: valise/valiselaw10.BlockSymbolsGoBack -/
theorem valiselaw10_BlockSymbolsGoBack.calls {S0 : Nat → Prop} {w0 : World} {length_0 : Int} {dist_1 : Int} {r : Bool} (HS0 : Hp S0 w0 w0 [.rd (some ⟨0, 0, none⟩) (rowC (Eint .i64) T_block_distBits), .rd (some ⟨1, 0, none⟩) (rowC (Eint .i64) T_block_distBase), .rd (some ⟨2, 0, none⟩) (rowC (Eint .i64) T_block_lengthBase), .rd (some ⟨3, 0, none⟩) (rowC (Eint .i64) T_block_lengthBits)]) (h : valiselaw10_BlockSymbolsGoBack.f length_0 dist_1 = some r) :
    Calls Tryd.prog 8 ([.int .i64 length_0, .int .i64 dist_1] : List Value).toArray w0 (fun e w => e = .returned (.bool r) ∧ Hp S0 w0 w []) := by
  have H : ((block_LengthSymbol.f length_0).bind fun (z5, z6, z7, z8) => (if (3 ≤ length_0) ∧ (length_0 ≤ 258) then ((if (((((z8 ≠ 0) ∨ (z5 < 257)) ∨ (285 < z5)) ∨ (z6 < 0)) ∨ (5 < z6)) ∨ (z7 < 0) then (some true) else (gd (¬ (IntKind.u64.wrap z6) < 0) (some (decide (shl .i64 1 (IntKind.u64.wrap z6) ≤ z7))))).bind fun b66 => if b66 = true then (some (.inl false)) else ((block_LengthOf.f z5 z7).bind fun (z74, z75) => gd (¬ (IntKind.u64.wrap z6) < 0) ((block_LengthOf.f z5 (shl .i64 1 (IntKind.u64.wrap z6))).bind fun (z83, z84) => if (z75 ≠ 0) ∨ (z74 ≠ length_0) then (some (.inl false)) else ((valiselaw10_num.f z84).bind fun z93 => if z93 ≠ 1 then (some (.inl false)) else (some (.inr ())))))) else ((valiselaw10_num.f z8).bind fun z101 => if z101 ≠ 1 then (some (.inl false)) else (some (.inr ())))).bind fun (yj12 : Sum (Bool) (Unit)) => onR yj12 (fun r => some r) fun () => (block_DistSymbol.f dist_1).bind fun (z111, z112, z113, z114) => if (dist_1 < 1) ∨ (32768 < dist_1) then ((valiselaw10_num.f z114).bind fun z123 => some (decide (z123 = 1))) else ((if (((((z114 ≠ 0) ∨ (z111 < 0)) ∨ (29 < z111)) ∨ (z112 < 0)) ∨ (13 < z112)) ∨ (z113 < 0) then (some true) else (gd (¬ (IntKind.u64.wrap z112) < 0) (some (decide (shl .i64 1 (IntKind.u64.wrap z112) ≤ z113))))).bind fun b132 => if b132 = true then (some false) else ((block_DistOf.f z111 z113).bind fun (z140, z141) => gd (¬ (IntKind.u64.wrap z112) < 0) ((block_DistOf.f z111 (shl .i64 1 (IntKind.u64.wrap z112))).bind fun (z149, z150) => if (z141 = 0) ∧ (z140 = dist_1) then ((valiselaw10_num.f z150).bind fun z159 => some (decide (z159 = 1))) else (some false))))) = some r := h
  refine calls_start Tryd.func8 rfl rfl ?_
  refine L_seq ?_
  refine L_region ?_
  refine F_val rfl rfl rfl (O_assign rfl rfl) ?_
  refine F_nil ?_
  refine L_seq ?_
  refine L_region ?_
  refine F_val rfl rfl rfl (O_move rfl rfl) ?_
  obtain ⟨⟨z5, z6, z7, z8⟩, h4, H⟩ := of_bind H
  refine F_call (xs := [.tmp 22]) rfl rfl rfl rfl Tryd.func12 nm12 rfl rfl ((block_LengthSymbol.calls (HS0.give [] rfl (Lent.rd HS0 (Lent.rd HS0 (Lent.nil) (i := 3) rfl (HS0.cells_rd (i := 3) rfl).self) (i := 2) rfl (HS0.cells_rd (i := 2) rfl).self)) h4).mono (fun e w hc => ?_))
  obtain ⟨rfl, HSo⟩ := hc
  refine ⟨.tuple #[.int .i64 z5, .int .i64 z6, .int .i64 z7, .int .i64 z8], rfl, ?_⟩
  have HS10 : Hp S0 w0 w [.rd (some ⟨0, 0, none⟩) (rowC (Eint .i64) T_block_distBits), .rd (some ⟨1, 0, none⟩) (rowC (Eint .i64) T_block_distBase), .rd (some ⟨2, 0, none⟩) (rowC (Eint .i64) T_block_lengthBase), .rd (some ⟨3, 0, none⟩) (rowC (Eint .i64) T_block_lengthBits)] := (HS0.back [] HSo rfl).sel [0, 1, 2, 3] rfl
  refine F_val rfl rfl rfl (O_move rfl rfl) ?_
  refine F_val rfl rfl rfl (O_extract (v := .int .i64 z5) rfl rfl rfl) ?_
  refine F_val rfl rfl rfl (O_extract (v := .int .i64 z6) rfl rfl rfl) ?_
  refine F_val rfl rfl rfl (O_extract (v := .int .i64 z7) rfl rfl rfl) ?_
  refine F_val rfl rfl rfl (O_extract (v := .int .i64 z8) rfl rfl rfl) ?_
  refine F_val rfl rfl rfl (O_assign rfl rfl) ?_
  refine F_val rfl rfl rfl (O_assign rfl rfl) ?_
  refine F_val rfl rfl rfl (O_assign rfl rfl) ?_
  refine F_val rfl rfl rfl (O_assign rfl rfl) ?_
  refine F_nil ?_
  refine L_seq ?_
  refine L_seq ?_
  refine L_region ?_
  refine F_val rfl rfl rfl (O_move rfl rfl) ?_
  refine F_val rfl rfl rfl (O_ge rfl rfl rfl) ?_
  refine F_val rfl rfl rfl (O_move rfl rfl) ?_
  refine F_grp 3 [(33, .bool (decide ((3 ≤ length_0) ∧ (length_0 ≤ 258)))), (0, .int .i64 length_0), (1, .int .i64 dist_1), (5, .int .i64 z5), (6, .int .i64 z6), (7, .int .i64 z7), (8, .int .i64 z8)] ?_ ?_
  · rcases Decidable.em (3 ≤ length_0) with c11 | c11
    · refine F_know (i := 30) rfl (dec_t c11) ?_
      refine F_gval rfl rfl rfl rfl rfl rfl (O_move rfl rfl) ?_
      refine F_gval rfl rfl rfl rfl rfl rfl (O_le rfl rfl rfl) ?_
      refine F_val rfl rfl rfl (O_pickT rfl rfl rfl) ?_
      refine F_know (i := 33) rfl (dec_and_t (q := length_0 ≤ 258) c11) ?_
      exact F_grpE (fun a ha => Is.cons ha (Is.cons ha (Is.cons ha (Is.cons ha (Is.cons ha (Is.cons ha (Is.cons ha (Is.nil ha) rfl) rfl) rfl) rfl) rfl) rfl) rfl)
    · refine F_know (i := 30) rfl (dec_f c11) ?_
      refine F_gskip rfl rfl rfl rfl rfl rfl rfl ?_
      refine F_gskip rfl rfl rfl rfl rfl rfl rfl ?_
      refine F_val rfl rfl rfl (O_pickF rfl rfl rfl) ?_
      refine F_know (i := 33) rfl (dec_and_f (q := length_0 ≤ 258) c11) ?_
      exact F_grpE (fun a ha => Is.cons ha (Is.cons ha (Is.cons ha (Is.cons ha (Is.cons ha (Is.cons ha (Is.cons ha (Is.nil ha) rfl) rfl) rfl) rfl) rfl) rfl) rfl)
  · skip
    refine F_nil ?_
    obtain ⟨yj12, Hyj12, H⟩ := of_bind H
    refine L_join (fun a w => yj12 = Sum.inr () ∧ Is Tryd.f8.ntmps a [(1, .int .i64 dist_1)] ∧ Hp S0 w0 w [.rd (some ⟨0, 0, none⟩) (rowC (Eint .i64) T_block_distBits), .rd (some ⟨1, 0, none⟩) (rowC (Eint .i64) T_block_distBase), .rd (some ⟨2, 0, none⟩) (rowC (Eint .i64) T_block_lengthBase), .rd (some ⟨3, 0, none⟩) (rowC (Eint .i64) T_block_lengthBits)]) (fun Qj12 hNj12 hOj12 => ?_) (fun a w hR => ?_)
    · have HOj12 := H
      have H := Hyj12
      refine L_condP rfl (fun c59 => ?_) (fun c59 => ?_)
      · have H := of_pos H c59
        refine L_seq ?_
        refine L_seq ?_
        refine L_region ?_
        refine F_val rfl rfl rfl (O_move rfl rfl) ?_
        refine F_val rfl rfl rfl (O_ne rfl rfl rfl) ?_
        refine F_val rfl rfl rfl (O_move rfl rfl) ?_
        refine F_grp 3 [(39, .bool (decide ((z8 ≠ 0) ∨ (z5 < 257)))), (0, .int .i64 length_0), (1, .int .i64 dist_1), (5, .int .i64 z5), (6, .int .i64 z6), (7, .int .i64 z7)] ?_ ?_
        · rcases Decidable.em (z8 ≠ 0) with c60 | c60
          · refine F_know (i := 36) rfl (dec_t c60) ?_
            refine F_gskip rfl rfl rfl rfl rfl rfl rfl ?_
            refine F_gskip rfl rfl rfl rfl rfl rfl rfl ?_
            refine F_val rfl rfl rfl (O_pickT rfl rfl rfl) ?_
            refine F_know (i := 39) rfl (dec_or_t (q := z5 < 257) c60) ?_
            exact F_grpE (fun a ha => Is.cons ha (Is.cons ha (Is.cons ha (Is.cons ha (Is.cons ha (Is.cons ha (Is.nil ha) rfl) rfl) rfl) rfl) rfl) rfl)
          · refine F_know (i := 36) rfl (dec_f c60) ?_
            refine F_gval rfl rfl rfl rfl rfl rfl (O_move rfl rfl) ?_
            refine F_gval rfl rfl rfl rfl rfl rfl (O_lt rfl rfl rfl) ?_
            refine F_val rfl rfl rfl (O_pickF rfl rfl rfl) ?_
            refine F_know (i := 39) rfl (dec_or_f (q := z5 < 257) c60) ?_
            exact F_grpE (fun a ha => Is.cons ha (Is.cons ha (Is.cons ha (Is.cons ha (Is.cons ha (Is.cons ha (Is.nil ha) rfl) rfl) rfl) rfl) rfl) rfl)
        · skip
          refine F_val rfl rfl rfl (O_move rfl rfl) ?_
          refine F_grp 3 [(43, .bool (decide (((z8 ≠ 0) ∨ (z5 < 257)) ∨ (285 < z5)))), (0, .int .i64 length_0), (1, .int .i64 dist_1), (5, .int .i64 z5), (6, .int .i64 z6), (7, .int .i64 z7)] ?_ ?_
          · rcases Decidable.em ((z8 ≠ 0) ∨ (z5 < 257)) with c61 | c61
            · refine F_know (i := 40) rfl (dec_t c61) ?_
              refine F_gskip rfl rfl rfl rfl rfl rfl rfl ?_
              refine F_gskip rfl rfl rfl rfl rfl rfl rfl ?_
              refine F_val rfl rfl rfl (O_pickT rfl rfl rfl) ?_
              refine F_know (i := 43) rfl (dec_or_t (q := 285 < z5) c61) ?_
              exact F_grpE (fun a ha => Is.cons ha (Is.cons ha (Is.cons ha (Is.cons ha (Is.cons ha (Is.cons ha (Is.nil ha) rfl) rfl) rfl) rfl) rfl) rfl)
            · refine F_know (i := 40) rfl (dec_f c61) ?_
              refine F_gval rfl rfl rfl rfl rfl rfl (O_move rfl rfl) ?_
              refine F_gval rfl rfl rfl rfl rfl rfl (O_gt rfl rfl rfl) ?_
              refine F_val rfl rfl rfl (O_pickF rfl rfl rfl) ?_
              refine F_know (i := 43) rfl (dec_or_f (q := 285 < z5) c61) ?_
              exact F_grpE (fun a ha => Is.cons ha (Is.cons ha (Is.cons ha (Is.cons ha (Is.cons ha (Is.cons ha (Is.nil ha) rfl) rfl) rfl) rfl) rfl) rfl)
          · skip
            refine F_val rfl rfl rfl (O_move rfl rfl) ?_
            refine F_grp 3 [(47, .bool (decide ((((z8 ≠ 0) ∨ (z5 < 257)) ∨ (285 < z5)) ∨ (z6 < 0)))), (0, .int .i64 length_0), (1, .int .i64 dist_1), (5, .int .i64 z5), (6, .int .i64 z6), (7, .int .i64 z7)] ?_ ?_
            · rcases Decidable.em (((z8 ≠ 0) ∨ (z5 < 257)) ∨ (285 < z5)) with c62 | c62
              · refine F_know (i := 44) rfl (dec_t c62) ?_
                refine F_gskip rfl rfl rfl rfl rfl rfl rfl ?_
                refine F_gskip rfl rfl rfl rfl rfl rfl rfl ?_
                refine F_val rfl rfl rfl (O_pickT rfl rfl rfl) ?_
                refine F_know (i := 47) rfl (dec_or_t (q := z6 < 0) c62) ?_
                exact F_grpE (fun a ha => Is.cons ha (Is.cons ha (Is.cons ha (Is.cons ha (Is.cons ha (Is.cons ha (Is.nil ha) rfl) rfl) rfl) rfl) rfl) rfl)
              · refine F_know (i := 44) rfl (dec_f c62) ?_
                refine F_gval rfl rfl rfl rfl rfl rfl (O_move rfl rfl) ?_
                refine F_gval rfl rfl rfl rfl rfl rfl (O_lt rfl rfl rfl) ?_
                refine F_val rfl rfl rfl (O_pickF rfl rfl rfl) ?_
                refine F_know (i := 47) rfl (dec_or_f (q := z6 < 0) c62) ?_
                exact F_grpE (fun a ha => Is.cons ha (Is.cons ha (Is.cons ha (Is.cons ha (Is.cons ha (Is.cons ha (Is.nil ha) rfl) rfl) rfl) rfl) rfl) rfl)
            · skip
              refine F_val rfl rfl rfl (O_move rfl rfl) ?_
              refine F_grp 3 [(51, .bool (decide (((((z8 ≠ 0) ∨ (z5 < 257)) ∨ (285 < z5)) ∨ (z6 < 0)) ∨ (5 < z6)))), (0, .int .i64 length_0), (1, .int .i64 dist_1), (5, .int .i64 z5), (6, .int .i64 z6), (7, .int .i64 z7)] ?_ ?_
              · rcases Decidable.em ((((z8 ≠ 0) ∨ (z5 < 257)) ∨ (285 < z5)) ∨ (z6 < 0)) with c63 | c63
                · refine F_know (i := 48) rfl (dec_t c63) ?_
                  refine F_gskip rfl rfl rfl rfl rfl rfl rfl ?_
                  refine F_gskip rfl rfl rfl rfl rfl rfl rfl ?_
                  refine F_val rfl rfl rfl (O_pickT rfl rfl rfl) ?_
                  refine F_know (i := 51) rfl (dec_or_t (q := 5 < z6) c63) ?_
                  exact F_grpE (fun a ha => Is.cons ha (Is.cons ha (Is.cons ha (Is.cons ha (Is.cons ha (Is.cons ha (Is.nil ha) rfl) rfl) rfl) rfl) rfl) rfl)
                · refine F_know (i := 48) rfl (dec_f c63) ?_
                  refine F_gval rfl rfl rfl rfl rfl rfl (O_move rfl rfl) ?_
                  refine F_gval rfl rfl rfl rfl rfl rfl (O_gt rfl rfl rfl) ?_
                  refine F_val rfl rfl rfl (O_pickF rfl rfl rfl) ?_
                  refine F_know (i := 51) rfl (dec_or_f (q := 5 < z6) c63) ?_
                  exact F_grpE (fun a ha => Is.cons ha (Is.cons ha (Is.cons ha (Is.cons ha (Is.cons ha (Is.cons ha (Is.nil ha) rfl) rfl) rfl) rfl) rfl) rfl)
              · skip
                refine F_val rfl rfl rfl (O_move rfl rfl) ?_
                refine F_grp 3 [(55, .bool (decide ((((((z8 ≠ 0) ∨ (z5 < 257)) ∨ (285 < z5)) ∨ (z6 < 0)) ∨ (5 < z6)) ∨ (z7 < 0)))), (0, .int .i64 length_0), (1, .int .i64 dist_1), (5, .int .i64 z5), (6, .int .i64 z6), (7, .int .i64 z7)] ?_ ?_
                · rcases Decidable.em (((((z8 ≠ 0) ∨ (z5 < 257)) ∨ (285 < z5)) ∨ (z6 < 0)) ∨ (5 < z6)) with c64 | c64
                  · refine F_know (i := 52) rfl (dec_t c64) ?_
                    refine F_gskip rfl rfl rfl rfl rfl rfl rfl ?_
                    refine F_gskip rfl rfl rfl rfl rfl rfl rfl ?_
                    refine F_val rfl rfl rfl (O_pickT rfl rfl rfl) ?_
                    refine F_know (i := 55) rfl (dec_or_t (q := z7 < 0) c64) ?_
                    exact F_grpE (fun a ha => Is.cons ha (Is.cons ha (Is.cons ha (Is.cons ha (Is.cons ha (Is.cons ha (Is.nil ha) rfl) rfl) rfl) rfl) rfl) rfl)
                  · refine F_know (i := 52) rfl (dec_f c64) ?_
                    refine F_gval rfl rfl rfl rfl rfl rfl (O_move rfl rfl) ?_
                    refine F_gval rfl rfl rfl rfl rfl rfl (O_lt rfl rfl rfl) ?_
                    refine F_val rfl rfl rfl (O_pickF rfl rfl rfl) ?_
                    refine F_know (i := 55) rfl (dec_or_f (q := z7 < 0) c64) ?_
                    exact F_grpE (fun a ha => Is.cons ha (Is.cons ha (Is.cons ha (Is.cons ha (Is.cons ha (Is.cons ha (Is.nil ha) rfl) rfl) rfl) rfl) rfl) rfl)
                · skip
                  refine F_val rfl rfl rfl (O_move rfl rfl) ?_
                  obtain ⟨b66, Hb66, H⟩ := of_bind H
                  refine F_grp 6 [(62, .bool b66), (0, .int .i64 length_0), (1, .int .i64 dist_1), (5, .int .i64 z5), (6, .int .i64 z6), (7, .int .i64 z7)] ?_ ?_
                  · rcases Decidable.em ((((((z8 ≠ 0) ∨ (z5 < 257)) ∨ (285 < z5)) ∨ (z6 < 0)) ∨ (5 < z6)) ∨ (z7 < 0)) with c67 | c67
                    · refine F_know (i := 56) rfl (dec_t c67) ?_
                      have H := of_pos Hb66 c67
                      refine F_gskip rfl rfl rfl rfl rfl rfl rfl ?_
                      refine F_gskip rfl rfl rfl rfl rfl rfl rfl ?_
                      refine F_gskip rfl rfl rfl rfl rfl rfl rfl ?_
                      refine F_gskip rfl rfl rfl rfl rfl rfl rfl ?_
                      refine F_gskip rfl rfl rfl rfl rfl rfl rfl ?_
                      refine F_val rfl rfl rfl (O_pickT rfl rfl rfl) ?_
                      refine F_know (i := 62) rfl (congrArg Value.bool (Option.some.inj H)) ?_
                      exact F_grpE (fun a ha => Is.cons ha (Is.cons ha (Is.cons ha (Is.cons ha (Is.cons ha (Is.cons ha (Is.nil ha) rfl) rfl) rfl) rfl) rfl) rfl)
                    · refine F_know (i := 56) rfl (dec_f c67) ?_
                      have H := of_neg Hb66 c67
                      refine F_gval rfl rfl rfl rfl rfl rfl (O_move rfl rfl) ?_
                      refine F_gval rfl rfl rfl rfl rfl rfl (O_move rfl rfl) ?_
                      refine F_gval rfl rfl rfl rfl rfl rfl (O_conv rfl rfl ⟨_, Tryd.underlying3⟩ Tryd.underlying46) ?_
                      obtain ⟨g68, H⟩ := of_gd H
                      refine F_gval rfl rfl rfl rfl rfl rfl (O_shl rfl rfl rfl g68) ?_
                      refine F_gval rfl rfl rfl rfl rfl rfl (O_ge rfl rfl rfl) ?_
                      refine F_val rfl rfl rfl (O_pickF rfl rfl rfl) ?_
                      refine F_know (i := 62) rfl (congrArg Value.bool (Option.some.inj H)) ?_
                      exact F_grpE (fun a ha => Is.cons ha (Is.cons ha (Is.cons ha (Is.cons ha (Is.cons ha (Is.cons ha (Is.nil ha) rfl) rfl) rfl) rfl) rfl) rfl)
                  · skip
                    refine F_nil ?_
                    refine L_cond rfl (fun c69 => ?_) (fun c69 => ?_)
                    · have H := of_pos H c69
                      refine L_seq ?_
                      refine L_region ?_
                      refine F_val rfl rfl rfl (O_assign rfl rfl) ?_
                      refine F_nil ?_
                      refine L_ret (fun a ha => (hOj12 .ret a _ rfl (post_ret1 ha rfl rfl ?_)))
                      obtain rfl := Option.some.inj H
                      obtain rfl := Option.some.inj (show some false = some _ from HOj12)
                      exact ⟨rfl, HS10.sel [] rfl⟩
                    · have H := of_neg H (by rw [c69]; exact Bool.false_ne_true)
                      refine L_skip ?_
                      refine L_seq ?_
                      refine L_region ?_
                      refine F_val rfl rfl rfl (O_move rfl rfl) ?_
                      refine F_val rfl rfl rfl (O_move rfl rfl) ?_
                      obtain ⟨⟨z74, z75⟩, h73, H⟩ := of_bind H
                      refine F_call (xs := [.tmp 64, .tmp 65]) rfl rfl rfl rfl Tryd.func16 nm16 rfl rfl ((block_LengthOf.calls (HS10.give [] rfl (Lent.rd HS10 (Lent.rd HS10 (Lent.nil) (i := 3) rfl (HS10.cells_rd (i := 3) rfl).self) (i := 2) rfl (HS10.cells_rd (i := 2) rfl).self)) h73).mono (fun e w hc => ?_))
                      obtain ⟨rfl, HSo⟩ := hc
                      refine ⟨.tuple #[.int .i64 z74, .int .i64 z75], rfl, ?_⟩
                      have HS77 : Hp S0 w0 w [.rd (some ⟨0, 0, none⟩) (rowC (Eint .i64) T_block_distBits), .rd (some ⟨1, 0, none⟩) (rowC (Eint .i64) T_block_distBase), .rd (some ⟨2, 0, none⟩) (rowC (Eint .i64) T_block_lengthBase), .rd (some ⟨3, 0, none⟩) (rowC (Eint .i64) T_block_lengthBits)] := (HS10.back [] HSo rfl).sel [0, 1, 2, 3] rfl
                      refine F_val rfl rfl rfl (O_move rfl rfl) ?_
                      refine F_val rfl rfl rfl (O_extract (v := .int .i64 z74) rfl rfl rfl) ?_
                      refine F_val rfl rfl rfl (O_extract (v := .int .i64 z75) rfl rfl rfl) ?_
                      refine F_val rfl rfl rfl (O_assign rfl rfl) ?_
                      refine F_val rfl rfl rfl (O_assign rfl rfl) ?_
                      refine F_nil ?_
                      refine L_seq ?_
                      refine L_region ?_
                      refine F_val rfl rfl rfl (O_move rfl rfl) ?_
                      refine F_val rfl rfl rfl (O_move rfl rfl) ?_
                      refine F_val rfl rfl rfl (O_conv rfl rfl ⟨_, Tryd.underlying3⟩ Tryd.underlying46) ?_
                      obtain ⟨g78, H⟩ := of_gd H
                      refine F_val rfl rfl rfl (O_shl rfl rfl rfl g78) ?_
                      obtain ⟨⟨z83, z84⟩, h82, H⟩ := of_bind H
                      refine F_call (xs := [.tmp 70, .tmp 73]) rfl rfl rfl rfl Tryd.func16 nm16 rfl rfl ((block_LengthOf.calls (HS77.give [] rfl (Lent.rd HS77 (Lent.rd HS77 (Lent.nil) (i := 3) rfl (HS77.cells_rd (i := 3) rfl).self) (i := 2) rfl (HS77.cells_rd (i := 2) rfl).self)) h82).mono (fun e w hc => ?_))
                      obtain ⟨rfl, HSo⟩ := hc
                      refine ⟨.tuple #[.int .i64 z83, .int .i64 z84], rfl, ?_⟩
                      have HS86 : Hp S0 w0 w [.rd (some ⟨0, 0, none⟩) (rowC (Eint .i64) T_block_distBits), .rd (some ⟨1, 0, none⟩) (rowC (Eint .i64) T_block_distBase), .rd (some ⟨2, 0, none⟩) (rowC (Eint .i64) T_block_lengthBase), .rd (some ⟨3, 0, none⟩) (rowC (Eint .i64) T_block_lengthBits)] := (HS77.back [] HSo rfl).sel [0, 1, 2, 3] rfl
                      refine F_val rfl rfl rfl (O_move rfl rfl) ?_
                      refine F_val rfl rfl rfl (O_extract (v := .int .i64 z83) rfl rfl rfl) ?_
                      refine F_val rfl rfl rfl (O_extract (v := .int .i64 z84) rfl rfl rfl) ?_
                      refine F_val rfl rfl rfl (O_assign rfl rfl) ?_
                      refine F_val rfl rfl rfl (O_assign rfl rfl) ?_
                      refine F_nil ?_
                      refine L_seq ?_
                      refine L_region ?_
                      refine F_val rfl rfl rfl (O_move rfl rfl) ?_
                      refine F_val rfl rfl rfl (O_ne rfl rfl rfl) ?_
                      refine F_val rfl rfl rfl (O_move rfl rfl) ?_
                      refine F_grp 4 [(83, .bool (decide ((z75 ≠ 0) ∨ (z74 ≠ length_0)))), (1, .int .i64 dist_1), (12, .int .i64 z84)] ?_ ?_
                      · rcases Decidable.em (z75 ≠ 0) with c87 | c87
                        · refine F_know (i := 79) rfl (dec_t c87) ?_
                          refine F_gskip rfl rfl rfl rfl rfl rfl rfl ?_
                          refine F_gskip rfl rfl rfl rfl rfl rfl rfl ?_
                          refine F_gskip rfl rfl rfl rfl rfl rfl rfl ?_
                          refine F_val rfl rfl rfl (O_pickT rfl rfl rfl) ?_
                          refine F_know (i := 83) rfl (dec_or_t (q := z74 ≠ length_0) c87) ?_
                          exact F_grpE (fun a ha => Is.cons ha (Is.cons ha (Is.cons ha (Is.nil ha) rfl) rfl) rfl)
                        · refine F_know (i := 79) rfl (dec_f c87) ?_
                          refine F_gval rfl rfl rfl rfl rfl rfl (O_move rfl rfl) ?_
                          refine F_gval rfl rfl rfl rfl rfl rfl (O_move rfl rfl) ?_
                          refine F_gval rfl rfl rfl rfl rfl rfl (O_ne rfl rfl rfl) ?_
                          refine F_val rfl rfl rfl (O_pickF rfl rfl rfl) ?_
                          refine F_know (i := 83) rfl (dec_or_f (q := z74 ≠ length_0) c87) ?_
                          exact F_grpE (fun a ha => Is.cons ha (Is.cons ha (Is.cons ha (Is.nil ha) rfl) rfl) rfl)
                      · skip
                        refine F_val rfl rfl rfl (O_move rfl rfl) ?_
                        rcases Decidable.em ((z75 ≠ 0) ∨ (z74 ≠ length_0)) with c88 | c88
                        · have H := of_pos H c88
                          refine F_know (i := 84) rfl (dec_t c88) ?_
                          refine F_gskip rfl rfl rfl rfl rfl rfl rfl ?_
                          refine F_gskip rfl rfl rfl rfl rfl rfl rfl ?_
                          refine F_gskip rfl rfl rfl rfl rfl rfl rfl ?_
                          refine F_val rfl rfl rfl (O_pickT rfl rfl rfl) ?_
                          refine F_nil ?_
                          refine L_cond rfl (fun _ => ?_) (fun hx => by cases hx)
                          refine L_seq ?_
                          refine L_region ?_
                          refine F_val rfl rfl rfl (O_assign rfl rfl) ?_
                          refine F_nil ?_
                          refine L_ret (fun a ha => (hOj12 .ret a _ rfl (post_ret1 ha rfl rfl ?_)))
                          obtain rfl := Option.some.inj H
                          obtain rfl := Option.some.inj (show some false = some _ from HOj12)
                          exact ⟨rfl, HS86.sel [] rfl⟩
                        · have H := of_neg H c88
                          refine F_know (i := 84) rfl (dec_f c88) ?_
                          refine F_gval rfl rfl rfl rfl rfl rfl (O_move rfl rfl) ?_
                          obtain ⟨z93, h92, H⟩ := of_bind H
                          refine F_gcall (xs := [.tmp 85]) rfl rfl rfl rfl rfl rfl rfl Tryd.func11 nm11 rfl rfl ((valiselaw10_num.calls (HS86.give [] rfl (Lent.nil)) h92).mono (fun e w hc => ?_))
                          obtain ⟨rfl, HSo⟩ := hc
                          refine ⟨.int .i64 z93, rfl, ?_⟩
                          have HS95 : Hp S0 w0 w [.rd (some ⟨0, 0, none⟩) (rowC (Eint .i64) T_block_distBits), .rd (some ⟨1, 0, none⟩) (rowC (Eint .i64) T_block_distBase), .rd (some ⟨2, 0, none⟩) (rowC (Eint .i64) T_block_lengthBase), .rd (some ⟨3, 0, none⟩) (rowC (Eint .i64) T_block_lengthBits)] := (HS86.back [] HSo rfl).sel [0, 1, 2, 3] rfl
                          refine F_gval rfl rfl rfl rfl rfl rfl (O_ne rfl rfl rfl) ?_
                          refine F_val rfl rfl rfl (O_pickF rfl rfl rfl) ?_
                          refine F_nil ?_
                          refine L_condP rfl (fun c96 => ?_) (fun c96 => ?_)
                          · have H := of_pos H c96
                            refine L_seq ?_
                            refine L_region ?_
                            refine F_val rfl rfl rfl (O_assign rfl rfl) ?_
                            refine F_nil ?_
                            refine L_ret (fun a ha => (hOj12 .ret a _ rfl (post_ret1 ha rfl rfl ?_)))
                            obtain rfl := Option.some.inj H
                            obtain rfl := Option.some.inj (show some false = some _ from HOj12)
                            exact ⟨rfl, HS95.sel [] rfl⟩
                          · have H := of_neg H c96
                            refine L_skip ?_
                            refine L_nil (fun a ha => hNj12 a _ ⟨(Option.some.inj H).symm, Is.cons ha (Is.nil ha) rfl, HS95.sel [0, 1, 2, 3] rfl⟩)
      · have H := of_neg H c59
        refine L_seq ?_
        refine L_region ?_
        refine F_val rfl rfl rfl (O_move rfl rfl) ?_
        obtain ⟨z101, h100, H⟩ := of_bind H
        refine F_call (xs := [.tmp 89]) rfl rfl rfl rfl Tryd.func11 nm11 rfl rfl ((valiselaw10_num.calls (HS10.give [] rfl (Lent.nil)) h100).mono (fun e w hc => ?_))
        obtain ⟨rfl, HSo⟩ := hc
        refine ⟨.int .i64 z101, rfl, ?_⟩
        have HS103 : Hp S0 w0 w [.rd (some ⟨0, 0, none⟩) (rowC (Eint .i64) T_block_distBits), .rd (some ⟨1, 0, none⟩) (rowC (Eint .i64) T_block_distBase), .rd (some ⟨2, 0, none⟩) (rowC (Eint .i64) T_block_lengthBase), .rd (some ⟨3, 0, none⟩) (rowC (Eint .i64) T_block_lengthBits)] := (HS10.back [] HSo rfl).sel [0, 1, 2, 3] rfl
        refine F_val rfl rfl rfl (O_ne rfl rfl rfl) ?_
        refine F_nil ?_
        refine L_condP rfl (fun c104 => ?_) (fun c104 => ?_)
        · have H := of_pos H c104
          refine L_seq ?_
          refine L_region ?_
          refine F_val rfl rfl rfl (O_assign rfl rfl) ?_
          refine F_nil ?_
          refine L_ret (fun a ha => (hOj12 .ret a _ rfl (post_ret1 ha rfl rfl ?_)))
          obtain rfl := Option.some.inj H
          obtain rfl := Option.some.inj (show some false = some _ from HOj12)
          exact ⟨rfl, HS103.sel [] rfl⟩
        · have H := of_neg H c104
          refine L_skip ?_
          refine L_nil (fun a ha => hNj12 a _ ⟨(Option.some.inj H).symm, Is.cons ha (Is.nil ha) rfl, HS103.sel [0, 1, 2, 3] rfl⟩)
    · obtain ⟨rfl, ha, HS106⟩ := hR
      refine wpLF_app ?_ ha
      have H := (onR_inr _ _ _).symm.trans H
      refine L_seq ?_
      refine L_region ?_
      refine F_val rfl rfl rfl (O_move rfl rfl) ?_
      obtain ⟨⟨z111, z112, z113, z114⟩, h110, H⟩ := of_bind H
      refine F_call (xs := [.tmp 93]) rfl rfl rfl rfl Tryd.func14 nm14 rfl rfl ((block_DistSymbol.calls (HS106.give [] rfl (Lent.rd HS106 (Lent.rd HS106 (Lent.nil) (i := 1) rfl (HS106.cells_rd (i := 1) rfl).self) (i := 0) rfl (HS106.cells_rd (i := 0) rfl).self)) h110).mono (fun e w hc => ?_))
      obtain ⟨rfl, HSo⟩ := hc
      refine ⟨.tuple #[.int .i64 z111, .int .i64 z112, .int .i64 z113, .int .i64 z114], rfl, ?_⟩
      have HS116 : Hp S0 w0 w [.rd (some ⟨0, 0, none⟩) (rowC (Eint .i64) T_block_distBits), .rd (some ⟨1, 0, none⟩) (rowC (Eint .i64) T_block_distBase), .rd (some ⟨2, 0, none⟩) (rowC (Eint .i64) T_block_lengthBase), .rd (some ⟨3, 0, none⟩) (rowC (Eint .i64) T_block_lengthBits)] := (HS106.back [] HSo rfl).sel [0, 1, 2, 3] rfl
      refine F_val rfl rfl rfl (O_move rfl rfl) ?_
      refine F_val rfl rfl rfl (O_extract (v := .int .i64 z111) rfl rfl rfl) ?_
      refine F_val rfl rfl rfl (O_extract (v := .int .i64 z112) rfl rfl rfl) ?_
      refine F_val rfl rfl rfl (O_extract (v := .int .i64 z113) rfl rfl rfl) ?_
      refine F_val rfl rfl rfl (O_extract (v := .int .i64 z114) rfl rfl rfl) ?_
      refine F_val rfl rfl rfl (O_assign rfl rfl) ?_
      refine F_val rfl rfl rfl (O_assign rfl rfl) ?_
      refine F_val rfl rfl rfl (O_assign rfl rfl) ?_
      refine F_val rfl rfl rfl (O_assign rfl rfl) ?_
      refine F_nil ?_
      refine L_seq ?_
      refine L_seq ?_
      refine L_region ?_
      refine F_val rfl rfl rfl (O_move rfl rfl) ?_
      refine F_val rfl rfl rfl (O_lt rfl rfl rfl) ?_
      refine F_val rfl rfl rfl (O_move rfl rfl) ?_
      refine F_grp 3 [(104, .bool (decide ((dist_1 < 1) ∨ (32768 < dist_1)))), (1, .int .i64 dist_1), (13, .int .i64 z111), (14, .int .i64 z112), (15, .int .i64 z113), (16, .int .i64 z114)] ?_ ?_
      · rcases Decidable.em (dist_1 < 1) with c117 | c117
        · refine F_know (i := 101) rfl (dec_t c117) ?_
          refine F_gskip rfl rfl rfl rfl rfl rfl rfl ?_
          refine F_gskip rfl rfl rfl rfl rfl rfl rfl ?_
          refine F_val rfl rfl rfl (O_pickT rfl rfl rfl) ?_
          refine F_know (i := 104) rfl (dec_or_t (q := 32768 < dist_1) c117) ?_
          exact F_grpE (fun a ha => Is.cons ha (Is.cons ha (Is.cons ha (Is.cons ha (Is.cons ha (Is.cons ha (Is.nil ha) rfl) rfl) rfl) rfl) rfl) rfl)
        · refine F_know (i := 101) rfl (dec_f c117) ?_
          refine F_gval rfl rfl rfl rfl rfl rfl (O_move rfl rfl) ?_
          refine F_gval rfl rfl rfl rfl rfl rfl (O_gt rfl rfl rfl) ?_
          refine F_val rfl rfl rfl (O_pickF rfl rfl rfl) ?_
          refine F_know (i := 104) rfl (dec_or_f (q := 32768 < dist_1) c117) ?_
          exact F_grpE (fun a ha => Is.cons ha (Is.cons ha (Is.cons ha (Is.cons ha (Is.cons ha (Is.cons ha (Is.nil ha) rfl) rfl) rfl) rfl) rfl) rfl)
      · skip
        refine F_nil ?_
        refine L_condP rfl (fun c118 => ?_) (fun c118 => ?_)
        · have H := of_pos H c118
          refine L_seq ?_
          refine L_region ?_
          refine F_val rfl rfl rfl (O_move rfl rfl) ?_
          obtain ⟨z123, h122, H⟩ := of_bind H
          refine F_call (xs := [.tmp 105]) rfl rfl rfl rfl Tryd.func11 nm11 rfl rfl ((valiselaw10_num.calls (HS116.give [] rfl (Lent.nil)) h122).mono (fun e w hc => ?_))
          obtain ⟨rfl, HSo⟩ := hc
          refine ⟨.int .i64 z123, rfl, ?_⟩
          have HS125 : Hp S0 w0 w [.rd (some ⟨0, 0, none⟩) (rowC (Eint .i64) T_block_distBits), .rd (some ⟨1, 0, none⟩) (rowC (Eint .i64) T_block_distBase), .rd (some ⟨2, 0, none⟩) (rowC (Eint .i64) T_block_lengthBase), .rd (some ⟨3, 0, none⟩) (rowC (Eint .i64) T_block_lengthBits)] := (HS116.back [] HSo rfl).sel [0, 1, 2, 3] rfl
          refine F_val rfl rfl rfl (O_eq rfl rfl rfl) ?_
          refine F_val rfl rfl rfl (O_assign rfl rfl) ?_
          refine F_nil ?_
          refine L_ret (fun a ha => (post_ret1 ha rfl rfl ?_))
          obtain rfl := Option.some.inj H
          exact ⟨rfl, HS125.sel [] rfl⟩
        · have H := of_neg H c118
          refine L_skip ?_
          refine L_seq ?_
          refine L_seq ?_
          refine L_region ?_
          refine F_val rfl rfl rfl (O_move rfl rfl) ?_
          refine F_val rfl rfl rfl (O_ne rfl rfl rfl) ?_
          refine F_val rfl rfl rfl (O_move rfl rfl) ?_
          refine F_grp 3 [(113, .bool (decide ((z114 ≠ 0) ∨ (z111 < 0)))), (1, .int .i64 dist_1), (13, .int .i64 z111), (14, .int .i64 z112), (15, .int .i64 z113)] ?_ ?_
          · rcases Decidable.em (z114 ≠ 0) with c126 | c126
            · refine F_know (i := 110) rfl (dec_t c126) ?_
              refine F_gskip rfl rfl rfl rfl rfl rfl rfl ?_
              refine F_gskip rfl rfl rfl rfl rfl rfl rfl ?_
              refine F_val rfl rfl rfl (O_pickT rfl rfl rfl) ?_
              refine F_know (i := 113) rfl (dec_or_t (q := z111 < 0) c126) ?_
              exact F_grpE (fun a ha => Is.cons ha (Is.cons ha (Is.cons ha (Is.cons ha (Is.cons ha (Is.nil ha) rfl) rfl) rfl) rfl) rfl)
            · refine F_know (i := 110) rfl (dec_f c126) ?_
              refine F_gval rfl rfl rfl rfl rfl rfl (O_move rfl rfl) ?_
              refine F_gval rfl rfl rfl rfl rfl rfl (O_lt rfl rfl rfl) ?_
              refine F_val rfl rfl rfl (O_pickF rfl rfl rfl) ?_
              refine F_know (i := 113) rfl (dec_or_f (q := z111 < 0) c126) ?_
              exact F_grpE (fun a ha => Is.cons ha (Is.cons ha (Is.cons ha (Is.cons ha (Is.cons ha (Is.nil ha) rfl) rfl) rfl) rfl) rfl)
          · skip
            refine F_val rfl rfl rfl (O_move rfl rfl) ?_
            refine F_grp 3 [(117, .bool (decide (((z114 ≠ 0) ∨ (z111 < 0)) ∨ (29 < z111)))), (1, .int .i64 dist_1), (13, .int .i64 z111), (14, .int .i64 z112), (15, .int .i64 z113)] ?_ ?_
            · rcases Decidable.em ((z114 ≠ 0) ∨ (z111 < 0)) with c127 | c127
              · refine F_know (i := 114) rfl (dec_t c127) ?_
                refine F_gskip rfl rfl rfl rfl rfl rfl rfl ?_
                refine F_gskip rfl rfl rfl rfl rfl rfl rfl ?_
                refine F_val rfl rfl rfl (O_pickT rfl rfl rfl) ?_
                refine F_know (i := 117) rfl (dec_or_t (q := 29 < z111) c127) ?_
                exact F_grpE (fun a ha => Is.cons ha (Is.cons ha (Is.cons ha (Is.cons ha (Is.cons ha (Is.nil ha) rfl) rfl) rfl) rfl) rfl)
              · refine F_know (i := 114) rfl (dec_f c127) ?_
                refine F_gval rfl rfl rfl rfl rfl rfl (O_move rfl rfl) ?_
                refine F_gval rfl rfl rfl rfl rfl rfl (O_gt rfl rfl rfl) ?_
                refine F_val rfl rfl rfl (O_pickF rfl rfl rfl) ?_
                refine F_know (i := 117) rfl (dec_or_f (q := 29 < z111) c127) ?_
                exact F_grpE (fun a ha => Is.cons ha (Is.cons ha (Is.cons ha (Is.cons ha (Is.cons ha (Is.nil ha) rfl) rfl) rfl) rfl) rfl)
            · skip
              refine F_val rfl rfl rfl (O_move rfl rfl) ?_
              refine F_grp 3 [(121, .bool (decide ((((z114 ≠ 0) ∨ (z111 < 0)) ∨ (29 < z111)) ∨ (z112 < 0)))), (1, .int .i64 dist_1), (13, .int .i64 z111), (14, .int .i64 z112), (15, .int .i64 z113)] ?_ ?_
              · rcases Decidable.em (((z114 ≠ 0) ∨ (z111 < 0)) ∨ (29 < z111)) with c128 | c128
                · refine F_know (i := 118) rfl (dec_t c128) ?_
                  refine F_gskip rfl rfl rfl rfl rfl rfl rfl ?_
                  refine F_gskip rfl rfl rfl rfl rfl rfl rfl ?_
                  refine F_val rfl rfl rfl (O_pickT rfl rfl rfl) ?_
                  refine F_know (i := 121) rfl (dec_or_t (q := z112 < 0) c128) ?_
                  exact F_grpE (fun a ha => Is.cons ha (Is.cons ha (Is.cons ha (Is.cons ha (Is.cons ha (Is.nil ha) rfl) rfl) rfl) rfl) rfl)
                · refine F_know (i := 118) rfl (dec_f c128) ?_
                  refine F_gval rfl rfl rfl rfl rfl rfl (O_move rfl rfl) ?_
                  refine F_gval rfl rfl rfl rfl rfl rfl (O_lt rfl rfl rfl) ?_
                  refine F_val rfl rfl rfl (O_pickF rfl rfl rfl) ?_
                  refine F_know (i := 121) rfl (dec_or_f (q := z112 < 0) c128) ?_
                  exact F_grpE (fun a ha => Is.cons ha (Is.cons ha (Is.cons ha (Is.cons ha (Is.cons ha (Is.nil ha) rfl) rfl) rfl) rfl) rfl)
              · skip
                refine F_val rfl rfl rfl (O_move rfl rfl) ?_
                refine F_grp 3 [(125, .bool (decide (((((z114 ≠ 0) ∨ (z111 < 0)) ∨ (29 < z111)) ∨ (z112 < 0)) ∨ (13 < z112)))), (1, .int .i64 dist_1), (13, .int .i64 z111), (14, .int .i64 z112), (15, .int .i64 z113)] ?_ ?_
                · rcases Decidable.em ((((z114 ≠ 0) ∨ (z111 < 0)) ∨ (29 < z111)) ∨ (z112 < 0)) with c129 | c129
                  · refine F_know (i := 122) rfl (dec_t c129) ?_
                    refine F_gskip rfl rfl rfl rfl rfl rfl rfl ?_
                    refine F_gskip rfl rfl rfl rfl rfl rfl rfl ?_
                    refine F_val rfl rfl rfl (O_pickT rfl rfl rfl) ?_
                    refine F_know (i := 125) rfl (dec_or_t (q := 13 < z112) c129) ?_
                    exact F_grpE (fun a ha => Is.cons ha (Is.cons ha (Is.cons ha (Is.cons ha (Is.cons ha (Is.nil ha) rfl) rfl) rfl) rfl) rfl)
                  · refine F_know (i := 122) rfl (dec_f c129) ?_
                    refine F_gval rfl rfl rfl rfl rfl rfl (O_move rfl rfl) ?_
                    refine F_gval rfl rfl rfl rfl rfl rfl (O_gt rfl rfl rfl) ?_
                    refine F_val rfl rfl rfl (O_pickF rfl rfl rfl) ?_
                    refine F_know (i := 125) rfl (dec_or_f (q := 13 < z112) c129) ?_
                    exact F_grpE (fun a ha => Is.cons ha (Is.cons ha (Is.cons ha (Is.cons ha (Is.cons ha (Is.nil ha) rfl) rfl) rfl) rfl) rfl)
                · skip
                  refine F_val rfl rfl rfl (O_move rfl rfl) ?_
                  refine F_grp 3 [(129, .bool (decide ((((((z114 ≠ 0) ∨ (z111 < 0)) ∨ (29 < z111)) ∨ (z112 < 0)) ∨ (13 < z112)) ∨ (z113 < 0)))), (1, .int .i64 dist_1), (13, .int .i64 z111), (14, .int .i64 z112), (15, .int .i64 z113)] ?_ ?_
                  · rcases Decidable.em (((((z114 ≠ 0) ∨ (z111 < 0)) ∨ (29 < z111)) ∨ (z112 < 0)) ∨ (13 < z112)) with c130 | c130
                    · refine F_know (i := 126) rfl (dec_t c130) ?_
                      refine F_gskip rfl rfl rfl rfl rfl rfl rfl ?_
                      refine F_gskip rfl rfl rfl rfl rfl rfl rfl ?_
                      refine F_val rfl rfl rfl (O_pickT rfl rfl rfl) ?_
                      refine F_know (i := 129) rfl (dec_or_t (q := z113 < 0) c130) ?_
                      exact F_grpE (fun a ha => Is.cons ha (Is.cons ha (Is.cons ha (Is.cons ha (Is.cons ha (Is.nil ha) rfl) rfl) rfl) rfl) rfl)
                    · refine F_know (i := 126) rfl (dec_f c130) ?_
                      refine F_gval rfl rfl rfl rfl rfl rfl (O_move rfl rfl) ?_
                      refine F_gval rfl rfl rfl rfl rfl rfl (O_lt rfl rfl rfl) ?_
                      refine F_val rfl rfl rfl (O_pickF rfl rfl rfl) ?_
                      refine F_know (i := 129) rfl (dec_or_f (q := z113 < 0) c130) ?_
                      exact F_grpE (fun a ha => Is.cons ha (Is.cons ha (Is.cons ha (Is.cons ha (Is.cons ha (Is.nil ha) rfl) rfl) rfl) rfl) rfl)
                  · skip
                    refine F_val rfl rfl rfl (O_move rfl rfl) ?_
                    obtain ⟨b132, Hb132, H⟩ := of_bind H
                    refine F_grp 6 [(136, .bool b132), (1, .int .i64 dist_1), (13, .int .i64 z111), (14, .int .i64 z112), (15, .int .i64 z113)] ?_ ?_
                    · rcases Decidable.em ((((((z114 ≠ 0) ∨ (z111 < 0)) ∨ (29 < z111)) ∨ (z112 < 0)) ∨ (13 < z112)) ∨ (z113 < 0)) with c133 | c133
                      · refine F_know (i := 130) rfl (dec_t c133) ?_
                        have H := of_pos Hb132 c133
                        refine F_gskip rfl rfl rfl rfl rfl rfl rfl ?_
                        refine F_gskip rfl rfl rfl rfl rfl rfl rfl ?_
                        refine F_gskip rfl rfl rfl rfl rfl rfl rfl ?_
                        refine F_gskip rfl rfl rfl rfl rfl rfl rfl ?_
                        refine F_gskip rfl rfl rfl rfl rfl rfl rfl ?_
                        refine F_val rfl rfl rfl (O_pickT rfl rfl rfl) ?_
                        refine F_know (i := 136) rfl (congrArg Value.bool (Option.some.inj H)) ?_
                        exact F_grpE (fun a ha => Is.cons ha (Is.cons ha (Is.cons ha (Is.cons ha (Is.cons ha (Is.nil ha) rfl) rfl) rfl) rfl) rfl)
                      · refine F_know (i := 130) rfl (dec_f c133) ?_
                        have H := of_neg Hb132 c133
                        refine F_gval rfl rfl rfl rfl rfl rfl (O_move rfl rfl) ?_
                        refine F_gval rfl rfl rfl rfl rfl rfl (O_move rfl rfl) ?_
                        refine F_gval rfl rfl rfl rfl rfl rfl (O_conv rfl rfl ⟨_, Tryd.underlying3⟩ Tryd.underlying46) ?_
                        obtain ⟨g134, H⟩ := of_gd H
                        refine F_gval rfl rfl rfl rfl rfl rfl (O_shl rfl rfl rfl g134) ?_
                        refine F_gval rfl rfl rfl rfl rfl rfl (O_ge rfl rfl rfl) ?_
                        refine F_val rfl rfl rfl (O_pickF rfl rfl rfl) ?_
                        refine F_know (i := 136) rfl (congrArg Value.bool (Option.some.inj H)) ?_
                        exact F_grpE (fun a ha => Is.cons ha (Is.cons ha (Is.cons ha (Is.cons ha (Is.cons ha (Is.nil ha) rfl) rfl) rfl) rfl) rfl)
                    · skip
                      refine F_nil ?_
                      refine L_cond rfl (fun c135 => ?_) (fun c135 => ?_)
                      · have H := of_pos H c135
                        refine L_seq ?_
                        refine L_region ?_
                        refine F_val rfl rfl rfl (O_assign rfl rfl) ?_
                        refine F_nil ?_
                        refine L_ret (fun a ha => (post_ret1 ha rfl rfl ?_))
                        obtain rfl := Option.some.inj H
                        exact ⟨rfl, HS116.sel [] rfl⟩
                      · have H := of_neg H (by rw [c135]; exact Bool.false_ne_true)
                        refine L_skip ?_
                        refine L_seq ?_
                        refine L_region ?_
                        refine F_val rfl rfl rfl (O_move rfl rfl) ?_
                        refine F_val rfl rfl rfl (O_move rfl rfl) ?_
                        obtain ⟨⟨z140, z141⟩, h139, H⟩ := of_bind H
                        refine F_call (xs := [.tmp 138, .tmp 139]) rfl rfl rfl rfl Tryd.func9 nm9 rfl rfl ((block_DistOf.calls (HS116.give [] rfl (Lent.rd HS116 (Lent.rd HS116 (Lent.nil) (i := 1) rfl (HS116.cells_rd (i := 1) rfl).self) (i := 0) rfl (HS116.cells_rd (i := 0) rfl).self)) h139).mono (fun e w hc => ?_))
                        obtain ⟨rfl, HSo⟩ := hc
                        refine ⟨.tuple #[.int .i64 z140, .int .i64 z141], rfl, ?_⟩
                        have HS143 : Hp S0 w0 w [.rd (some ⟨0, 0, none⟩) (rowC (Eint .i64) T_block_distBits), .rd (some ⟨1, 0, none⟩) (rowC (Eint .i64) T_block_distBase), .rd (some ⟨2, 0, none⟩) (rowC (Eint .i64) T_block_lengthBase), .rd (some ⟨3, 0, none⟩) (rowC (Eint .i64) T_block_lengthBits)] := (HS116.back [] HSo rfl).sel [0, 1, 2, 3] rfl
                        refine F_val rfl rfl rfl (O_move rfl rfl) ?_
                        refine F_val rfl rfl rfl (O_extract (v := .int .i64 z140) rfl rfl rfl) ?_
                        refine F_val rfl rfl rfl (O_extract (v := .int .i64 z141) rfl rfl rfl) ?_
                        refine F_val rfl rfl rfl (O_assign rfl rfl) ?_
                        refine F_val rfl rfl rfl (O_assign rfl rfl) ?_
                        refine F_nil ?_
                        refine L_seq ?_
                        refine L_region ?_
                        refine F_val rfl rfl rfl (O_move rfl rfl) ?_
                        refine F_val rfl rfl rfl (O_move rfl rfl) ?_
                        refine F_val rfl rfl rfl (O_conv rfl rfl ⟨_, Tryd.underlying3⟩ Tryd.underlying46) ?_
                        obtain ⟨g144, H⟩ := of_gd H
                        refine F_val rfl rfl rfl (O_shl rfl rfl rfl g144) ?_
                        obtain ⟨⟨z149, z150⟩, h148, H⟩ := of_bind H
                        refine F_call (xs := [.tmp 144, .tmp 147]) rfl rfl rfl rfl Tryd.func9 nm9 rfl rfl ((block_DistOf.calls (HS143.give [] rfl (Lent.rd HS143 (Lent.rd HS143 (Lent.nil) (i := 1) rfl (HS143.cells_rd (i := 1) rfl).self) (i := 0) rfl (HS143.cells_rd (i := 0) rfl).self)) h148).mono (fun e w hc => ?_))
                        obtain ⟨rfl, HSo⟩ := hc
                        refine ⟨.tuple #[.int .i64 z149, .int .i64 z150], rfl, ?_⟩
                        have HS152 : Hp S0 w0 w [.rd (some ⟨0, 0, none⟩) (rowC (Eint .i64) T_block_distBits), .rd (some ⟨1, 0, none⟩) (rowC (Eint .i64) T_block_distBase), .rd (some ⟨2, 0, none⟩) (rowC (Eint .i64) T_block_lengthBase), .rd (some ⟨3, 0, none⟩) (rowC (Eint .i64) T_block_lengthBits)] := (HS143.back [] HSo rfl).sel [0, 1, 2, 3] rfl
                        refine F_val rfl rfl rfl (O_move rfl rfl) ?_
                        refine F_val rfl rfl rfl (O_extract (v := .int .i64 z149) rfl rfl rfl) ?_
                        refine F_val rfl rfl rfl (O_extract (v := .int .i64 z150) rfl rfl rfl) ?_
                        refine F_val rfl rfl rfl (O_assign rfl rfl) ?_
                        refine F_val rfl rfl rfl (O_assign rfl rfl) ?_
                        refine F_nil ?_
                        refine L_seq ?_
                        refine L_region ?_
                        refine F_val rfl rfl rfl (O_move rfl rfl) ?_
                        refine F_val rfl rfl rfl (O_eq rfl rfl rfl) ?_
                        refine F_val rfl rfl rfl (O_move rfl rfl) ?_
                        refine F_grp 4 [(157, .bool (decide ((z141 = 0) ∧ (z140 = dist_1)))), (20, .int .i64 z150)] ?_ ?_
                        · rcases Decidable.em (z141 = 0) with c153 | c153
                          · refine F_know (i := 153) rfl (dec_t c153) ?_
                            refine F_gval rfl rfl rfl rfl rfl rfl (O_move rfl rfl) ?_
                            refine F_gval rfl rfl rfl rfl rfl rfl (O_move rfl rfl) ?_
                            refine F_gval rfl rfl rfl rfl rfl rfl (O_eq rfl rfl rfl) ?_
                            refine F_val rfl rfl rfl (O_pickT rfl rfl rfl) ?_
                            refine F_know (i := 157) rfl (dec_and_t (q := z140 = dist_1) c153) ?_
                            exact F_grpE (fun a ha => Is.cons ha (Is.cons ha (Is.nil ha) rfl) rfl)
                          · refine F_know (i := 153) rfl (dec_f c153) ?_
                            refine F_gskip rfl rfl rfl rfl rfl rfl rfl ?_
                            refine F_gskip rfl rfl rfl rfl rfl rfl rfl ?_
                            refine F_gskip rfl rfl rfl rfl rfl rfl rfl ?_
                            refine F_val rfl rfl rfl (O_pickF rfl rfl rfl) ?_
                            refine F_know (i := 157) rfl (dec_and_f (q := z140 = dist_1) c153) ?_
                            exact F_grpE (fun a ha => Is.cons ha (Is.cons ha (Is.nil ha) rfl) rfl)
                        · skip
                          refine F_val rfl rfl rfl (O_move rfl rfl) ?_
                          rcases Decidable.em ((z141 = 0) ∧ (z140 = dist_1)) with c154 | c154
                          · have H := of_pos H c154
                            refine F_know (i := 158) rfl (dec_t c154) ?_
                            refine F_gval rfl rfl rfl rfl rfl rfl (O_move rfl rfl) ?_
                            obtain ⟨z159, h158, H⟩ := of_bind H
                            refine F_gcall (xs := [.tmp 159]) rfl rfl rfl rfl rfl rfl rfl Tryd.func11 nm11 rfl rfl ((valiselaw10_num.calls (HS152.give [] rfl (Lent.nil)) h158).mono (fun e w hc => ?_))
                            obtain ⟨rfl, HSo⟩ := hc
                            refine ⟨.int .i64 z159, rfl, ?_⟩
                            have HS161 : Hp S0 w0 w [.rd (some ⟨0, 0, none⟩) (rowC (Eint .i64) T_block_distBits), .rd (some ⟨1, 0, none⟩) (rowC (Eint .i64) T_block_distBase), .rd (some ⟨2, 0, none⟩) (rowC (Eint .i64) T_block_lengthBase), .rd (some ⟨3, 0, none⟩) (rowC (Eint .i64) T_block_lengthBits)] := (HS152.back [] HSo rfl).sel [0, 1, 2, 3] rfl
                            refine F_gval rfl rfl rfl rfl rfl rfl (O_eq rfl rfl rfl) ?_
                            refine F_val rfl rfl rfl (O_pickT rfl rfl rfl) ?_
                            refine F_val rfl rfl rfl (O_assign rfl rfl) ?_
                            refine F_nil ?_
                            refine L_ret (fun a ha => (post_ret1 ha rfl rfl ?_))
                            obtain rfl := Option.some.inj H
                            exact ⟨rfl, HS161.sel [] rfl⟩
                          · have H := of_neg H c154
                            refine F_know (i := 158) rfl (dec_f c154) ?_
                            refine F_gskip rfl rfl rfl rfl rfl rfl rfl ?_
                            refine F_gskip rfl rfl rfl rfl rfl rfl rfl ?_
                            refine F_gskip rfl rfl rfl rfl rfl rfl rfl ?_
                            refine F_val rfl rfl rfl (O_pickF rfl rfl rfl) ?_
                            refine F_val rfl rfl rfl (O_assign rfl rfl) ?_
                            refine F_nil ?_
                            refine L_ret (fun a ha => (post_ret1 ha rfl rfl ?_))
                            obtain rfl := Option.some.inj H
                            exact ⟨rfl, HS152.sel [] rfl⟩

end Go.Proofs.YteckboojmmeecaaDoor
