import Derived.Test.YteckboojmmeecaaDoorChecked
import Derived.Test.YteckboojmmeecaaDoorGBlockLengthSymbolsPure
set_option linter.unusedVariables false
set_option linter.unusedSimpArgs false
set_option maxRecDepth 10000
namespace Go.Proofs.YteckboojmmeecaaDoor
open Go Go.V Go.V.Pu
theorem mix : Tryd.prog.follows .mixedOrders = true := by kernel_rfl
theorem size3 : (Tryd.prog.info? 3).map (·.size) = some 1 := by kernel_rfl
theorem flat3 : Flat Tryd.prog 3 := Flat.of Tryd.underlying3 rfl
theorem nm27 : (Tryd.f27.name == "runtime.NumGoroutine") = false := by kernel_rfl
theorem nm26 : (Tryd.f26.name == "runtime.NumGoroutine") = false := by kernel_rfl
theorem nm12 : (Tryd.f12.name == "runtime.NumGoroutine") = false := by kernel_rfl
theorem nm13 : (Tryd.f13.name == "runtime.NumGoroutine") = false := by kernel_rfl
theorem nm11 : (Tryd.f11.name == "runtime.NumGoroutine") = false := by kernel_rfl
/-! function 11: valise/valiselaw10.num -/
theorem valiselaw10_num.calls {S0 : Nat → Prop} {w0 : World} {e_0 : Int} {r : Int} (HS0 : Hp S0 w0 w0 []) (h : valiselaw10_num.f e_0 = some r) :
    Calls Tryd.prog 11 ([.int .i64 e_0] : List Value).toArray w0 (fun e w => e = .returned (.int .i64 r) ∧ Hp S0 w0 w []) := by
  have H : (some e_0) = some r := h
  refine calls_start Tryd.func11 rfl rfl ?_
  refine L_seq ?_
  refine L_region ?_
  refine F_val rfl rfl rfl (O_assign rfl rfl) ?_
  refine F_nil ?_
  refine L_seq ?_
  refine L_region ?_
  refine F_val rfl rfl rfl (O_move rfl rfl) ?_
  refine F_val rfl rfl rfl (O_assign rfl rfl) ?_
  refine F_nil ?_
  refine L_ret (fun a ha => (post_ret1 ha rfl rfl ?_))
  obtain rfl := Option.some.inj H
  exact ⟨rfl, HS0.sel [] rfl⟩

/-! function 12: valise/block.LengthSymbol -/
theorem block_LengthSymbol.calls {S0 : Nat → Prop} {w0 : World} {length_0 : Int} {r : Int × Int × Int × Int} (HS0 : Hp S0 w0 w0 [.rd (some ⟨2, 0, none⟩) (rowC (Eint .i64) T_block_lengthBase), .rd (some ⟨3, 0, none⟩) (rowC (Eint .i64) T_block_lengthBits)]) (h : block_LengthSymbol.f length_0 = some r) :
    Calls Tryd.prog 12 ([.int .i64 length_0] : List Value).toArray w0 (fun e w => e = .returned (.tuple #[.int .i64 r.1, .int .i64 r.2.1, .int .i64 r.2.2.1, .int .i64 r.2.2.2]) ∧ Hp S0 w0 w []) := by
  have H : (if (length_0 < 3) ∨ (258 < length_0) then (some (0, 0, 0, 1)) else ((block_LengthSymbol.l1 FU 28 length_0).bind fun i_26 => gd (0 ≤ i_26 ∧ i_26 < (29 : Int)) (bnd (IntKind.i64.wrap (257 + i_26)) fun x53 => bnd (rd T_block_lengthBits i_26) fun x55 => bnd (IntKind.i64.wrap (length_0 - (rd T_block_lengthBase i_26))) fun x57 => some (x53, x55, x57, 0)))) = some r := h
  refine calls_start Tryd.func12 rfl rfl ?_
  refine L_seq ?_
  refine L_region ?_
  refine F_val rfl rfl rfl (O_assign rfl rfl) ?_
  refine F_val rfl rfl rfl (O_assign rfl rfl) ?_
  refine F_val rfl rfl rfl (O_assign rfl rfl) ?_
  refine F_val rfl rfl rfl (O_assign rfl rfl) ?_
  refine F_nil ?_
  refine L_seq ?_
  refine L_seq ?_
  refine L_region ?_
  refine F_val rfl rfl rfl (O_move rfl rfl) ?_
  refine F_val rfl rfl rfl (O_lt rfl rfl rfl) ?_
  refine F_val rfl rfl rfl (O_move rfl rfl) ?_
  refine F_grp 3 [(12, .bool (decide ((length_0 < 3) ∨ (258 < length_0)))), (0, .int .i64 length_0)] ?_ ?_
  · rcases Decidable.em (length_0 < 3) with c1 | c1
    · refine F_know (i := 9) rfl (dec_t c1) ?_
      refine F_gskip rfl rfl rfl rfl rfl rfl rfl ?_
      refine F_gskip rfl rfl rfl rfl rfl rfl rfl ?_
      refine F_val rfl rfl rfl (O_pickT rfl rfl rfl) ?_
      refine F_know (i := 12) rfl (dec_or_t (q := 258 < length_0) c1) ?_
      exact F_grpE (fun a ha => Is.cons ha (Is.cons ha (Is.nil ha) rfl) rfl)
    · refine F_know (i := 9) rfl (dec_f c1) ?_
      refine F_gval rfl rfl rfl rfl rfl rfl (O_move rfl rfl) ?_
      refine F_gval rfl rfl rfl rfl rfl rfl (O_gt rfl rfl rfl) ?_
      refine F_val rfl rfl rfl (O_pickF rfl rfl rfl) ?_
      refine F_know (i := 12) rfl (dec_or_f (q := 258 < length_0) c1) ?_
      exact F_grpE (fun a ha => Is.cons ha (Is.cons ha (Is.nil ha) rfl) rfl)
  · skip
    refine F_nil ?_
    refine L_condP rfl (fun c2 => ?_) (fun c2 => ?_)
    · have H := of_pos H c2
      refine L_seq ?_
      refine L_region ?_
      refine F_val rfl rfl rfl (O_assign rfl rfl) ?_
      refine F_val rfl rfl rfl (O_assign rfl rfl) ?_
      refine F_val rfl rfl rfl (O_assign rfl rfl) ?_
      refine F_val rfl rfl rfl (O_assign rfl rfl) ?_
      refine F_nil ?_
      refine L_ret (fun a ha => (post_ret4 ha rfl rfl rfl rfl rfl ?_))
      obtain rfl := Option.some.inj H
      exact ⟨rfl, HS0.sel [] rfl⟩
    · have H := of_neg H c2
      refine L_skip ?_
      refine L_seq ?_
      refine L_region ?_
      refine F_val rfl rfl rfl (O_assign rfl rfl) ?_
      refine F_nil ?_
      refine L_seq ?_
      obtain ⟨yj3, Hyj3, H⟩ := of_bind H
      refine L_join (fun a w => ∃ (i_26 : Int), yj3 = i_26 ∧ Is Tryd.f12.ntmps a [(0, .int .i64 length_0), (6, .int .i64 i_26)] ∧ Hp S0 w0 w [.rd (some ⟨2, 0, none⟩) (rowC (Eint .i64) T_block_lengthBase), .rd (some ⟨3, 0, none⟩) (rowC (Eint .i64) T_block_lengthBits)]) (fun Qj3 hNj3 hOj3 => ?_) (fun a w hR => ?_)
      · skip
        have H := Hyj3
        refine L_blk (fun Qb27 hNb27 hXb27 hOb27 => ?_)
        refine L_lp (fun k a w => ∃ (i_40 : Int), Is Tryd.f12.ntmps a [(0, .int .i64 length_0), (6, .int .i64 i_40)] ∧ Hp S0 w0 w [.rd (some ⟨2, 0, none⟩) (rowC (Eint .i64) T_block_lengthBase), .rd (some ⟨3, 0, none⟩) (rowC (Eint .i64) T_block_lengthBits)] ∧ block_LengthSymbol.l1 k i_40 length_0 = some yj3) FU (fun a ha => ⟨_, Is.cons ha (Is.cons ha (Is.nil ha) rfl) rfl, HS0.sel [0, 1] rfl, H⟩) (fun kp39 a w41 hI Qp39 hNp39 hOp39 => ?_)
        obtain ⟨i_40, ha, HS42, HAp39⟩ := hI
        cases kp39 with
        | zero => cases (show (none : Option _) = some _ from HAp39)
        | succ kp39 =>
          have H := (block_LengthSymbol.l1.eq_2 ..).symm.trans HAp39
          refine wpLF_app ?_ ha
          refine L_seq ?_
          refine L_seq ?_
          refine L_region ?_
          refine F_val rfl rfl rfl (O_move rfl rfl) ?_
          obtain ⟨⟨g43, g44⟩, H⟩ := of_gd H
          refine F_val rfl rfl rfl (O_idxA rfl rfl rfl Tryd.underlying49 size3 g43 g44) ?_
          refine F_val rfl rfl rfl (O_loadB rfl rfl flat3 (HS42.cells_rd (i := 0) rfl) (at0 (int_cell g43 (arr_lt T_block_lengthBase_len g44)))) ?_
          refine F_val rfl rfl rfl (O_move rfl rfl) ?_
          refine F_val rfl rfl rfl (O_gt rfl rfl rfl) ?_
          refine F_nil ?_
          refine L_condP rfl (fun c45 => ?_) (fun c45 => ?_)
          · have H := of_pos H c45
            refine L_skip ?_
            refine L_blk (fun Q46 hN46 hX46 hO46 => ?_)
            refine L_region ?_
            refine F_val rfl rfl rfl (O_move rfl rfl) ?_
            refine F_val rfl rfl rfl (O_sub rfl rfl rfl) ?_
            obtain ⟨x47, h48, H⟩ := of_bnd H
            refine F_val rfl rfl rfl (O_assign' rfl rfl (congrArg (Value.int .i64) h48)) ?_
            refine F_nil ?_
            refine L_endB hN46 ?_
            refine L_nil (fun a ha => hNp39 _ a _ (Nat.lt_succ_self _) ⟨_, Is.cons ha (Is.cons ha (Is.nil ha) rfl) rfl, HS42.sel [0, 1] rfl, H⟩)
          · have H := of_neg H c45
            refine L_exitB (fun a w h => hOp39 (.exit 0) a w rfl (hXb27 a w h)) ?_
            refine L_nil (fun a ha => hNj3 a _ ⟨_, (Option.some.inj H).symm, Is.cons ha (Is.cons ha (Is.nil ha) rfl) rfl, HS42.sel [0, 1] rfl⟩)
      · obtain ⟨i_26, rfl, ha, HS50⟩ := hR
        refine wpLF_app ?_ ha
        refine L_seq ?_
        refine L_quiet mix (by kernel_rfl) ?_
        refine Q_val rfl rfl rfl (fun wq hq => O_move rfl rfl) ?_
        refine Q_val rfl rfl rfl (fun wq hq => O_add rfl rfl rfl) ?_
        refine Q_val rfl rfl rfl (fun wq hq => O_move rfl rfl) ?_
        obtain ⟨⟨g51, g52⟩, H⟩ := of_gd H
        refine Q_val rfl rfl rfl (fun wq hq => O_idxA rfl rfl rfl Tryd.underlying49 size3 g51 g52) ?_
        refine Q_val rfl rfl rfl (fun wq hq => O_loadB rfl rfl flat3 ((HS50.keep hq).cells_rd (i := 1) rfl) (at0 (int_cell g51 (arr_lt T_block_lengthBits_len g52)))) ?_
        refine Q_val rfl rfl rfl (fun wq hq => O_move rfl rfl) ?_
        refine Q_val rfl rfl rfl (fun wq hq => O_move rfl rfl) ?_
        refine Q_val rfl rfl rfl (fun wq hq => O_idxA rfl rfl rfl Tryd.underlying49 size3 g51 g52) ?_
        refine Q_val rfl rfl rfl (fun wq hq => O_loadB rfl rfl flat3 ((HS50.keep hq).cells_rd (i := 0) rfl) (at0 (int_cell g51 (arr_lt T_block_lengthBase_len g52)))) ?_
        refine Q_val rfl rfl rfl (fun wq hq => O_sub rfl rfl rfl) ?_
        obtain ⟨x53, h54, H⟩ := of_bnd H
        refine Q_val rfl rfl rfl (fun wq hq => O_assign' rfl rfl (congrArg (Value.int .i64) h54)) ?_
        obtain ⟨x55, h56, H⟩ := of_bnd H
        refine Q_val rfl rfl rfl (fun wq hq => O_assign' rfl rfl (congrArg (Value.int .i64) h56)) ?_
        obtain ⟨x57, h58, H⟩ := of_bnd H
        refine Q_val rfl rfl rfl (fun wq hq => O_assign' rfl rfl (congrArg (Value.int .i64) h58)) ?_
        refine Q_val rfl rfl rfl (fun wq hq => O_assign rfl rfl) ?_
        refine Q_nil (fun w59 hw60 => ?_)
        have HS61 := HS50.keep hw60
        refine L_ret (fun a ha => (post_ret4 ha rfl rfl rfl rfl rfl ?_))
        obtain rfl := Option.some.inj H
        exact ⟨rfl, HS61.sel [] rfl⟩

/-! function 27: valise/valiseref10.lengthBits -/
theorem valiseref10_lengthBits.calls {S0 : Nat → Prop} {w0 : World} {symbol_0 : Int} {r : Int} (HS0 : Hp S0 w0 w0 []) (h : valiseref10_lengthBits.f symbol_0 = some r) :
    Calls Tryd.prog 27 ([.int .i64 symbol_0] : List Value).toArray w0 (fun e w => e = .returned (.int .i64 r) ∧ Hp S0 w0 w []) := by
  have H : (if (symbol_0 < 265) ∨ (symbol_0 = 285) then (some 0) else (some (IntKind.i64.wrap (Int.tdiv (IntKind.i64.wrap (symbol_0 - 261)) 4)))) = some r := h
  refine calls_start Tryd.func27 rfl rfl ?_
  refine L_seq ?_
  refine L_region ?_
  refine F_val rfl rfl rfl (O_assign rfl rfl) ?_
  refine F_nil ?_
  refine L_seq ?_
  refine L_seq ?_
  refine L_region ?_
  refine F_val rfl rfl rfl (O_move rfl rfl) ?_
  refine F_val rfl rfl rfl (O_lt rfl rfl rfl) ?_
  refine F_val rfl rfl rfl (O_move rfl rfl) ?_
  refine F_grp 3 [(8, .bool (decide ((symbol_0 < 265) ∨ (symbol_0 = 285)))), (0, .int .i64 symbol_0)] ?_ ?_
  · rcases Decidable.em (symbol_0 < 265) with c1 | c1
    · refine F_know (i := 5) rfl (dec_t c1) ?_
      refine F_gskip rfl rfl rfl rfl rfl rfl rfl ?_
      refine F_gskip rfl rfl rfl rfl rfl rfl rfl ?_
      refine F_val rfl rfl rfl (O_pickT rfl rfl rfl) ?_
      refine F_know (i := 8) rfl (dec_or_t (q := symbol_0 = 285) c1) ?_
      exact F_grpE (fun a ha => Is.cons ha (Is.cons ha (Is.nil ha) rfl) rfl)
    · refine F_know (i := 5) rfl (dec_f c1) ?_
      refine F_gval rfl rfl rfl rfl rfl rfl (O_move rfl rfl) ?_
      refine F_gval rfl rfl rfl rfl rfl rfl (O_eq rfl rfl rfl) ?_
      refine F_val rfl rfl rfl (O_pickF rfl rfl rfl) ?_
      refine F_know (i := 8) rfl (dec_or_f (q := symbol_0 = 285) c1) ?_
      exact F_grpE (fun a ha => Is.cons ha (Is.cons ha (Is.nil ha) rfl) rfl)
  · skip
    refine F_nil ?_
    refine L_condP rfl (fun c2 => ?_) (fun c2 => ?_)
    · have H := of_pos H c2
      refine L_seq ?_
      refine L_region ?_
      refine F_val rfl rfl rfl (O_assign rfl rfl) ?_
      refine F_nil ?_
      refine L_ret (fun a ha => (post_ret1 ha rfl rfl ?_))
      obtain rfl := Option.some.inj H
      exact ⟨rfl, HS0.sel [] rfl⟩
    · have H := of_neg H c2
      refine L_skip ?_
      refine L_seq ?_
      refine L_region ?_
      refine F_val rfl rfl rfl (O_move rfl rfl) ?_
      refine F_val rfl rfl rfl (O_sub rfl rfl rfl) ?_
      refine F_val rfl rfl rfl (O_quo rfl rfl rfl (by decide)) ?_
      refine F_val rfl rfl rfl (O_assign rfl rfl) ?_
      refine F_nil ?_
      refine L_ret (fun a ha => (post_ret1 ha rfl rfl ?_))
      obtain rfl := Option.some.inj H
      exact ⟨rfl, HS0.sel [] rfl⟩

/-! function 26: valise/valiseref10.lengthBase -/
theorem valiseref10_lengthBase.calls {S0 : Nat → Prop} {w0 : World} {symbol_0 : Int} {r : Int} (HS0 : Hp S0 w0 w0 []) (h : valiseref10_lengthBase.f symbol_0 = some r) :
    Calls Tryd.prog 26 ([.int .i64 symbol_0] : List Value).toArray w0 (fun e w => e = .returned (.int .i64 r) ∧ Hp S0 w0 w []) := by
  have H : (if symbol_0 = 285 then (some 258) else ((valiseref10_lengthBase.l1 FU 3 257 symbol_0).bind fun base_53 => some base_53)) = some r := h
  refine calls_start Tryd.func26 rfl rfl ?_
  refine L_seq ?_
  refine L_region ?_
  refine F_val rfl rfl rfl (O_assign rfl rfl) ?_
  refine F_nil ?_
  refine L_seq ?_
  refine L_seq ?_
  refine L_region ?_
  refine F_val rfl rfl rfl (O_move rfl rfl) ?_
  refine F_val rfl rfl rfl (O_eq rfl rfl rfl) ?_
  refine F_nil ?_
  refine L_condP rfl (fun c1 => ?_) (fun c1 => ?_)
  · have H := of_pos H c1
    refine L_seq ?_
    refine L_region ?_
    refine F_val rfl rfl rfl (O_assign rfl rfl) ?_
    refine F_nil ?_
    refine L_ret (fun a ha => (post_ret1 ha rfl rfl ?_))
    obtain rfl := Option.some.inj H
    exact ⟨rfl, HS0.sel [] rfl⟩
  · have H := of_neg H c1
    refine L_skip ?_
    refine L_seq ?_
    refine L_region ?_
    refine F_val rfl rfl rfl (O_assign rfl rfl) ?_
    refine F_nil ?_
    refine L_seq ?_
    refine L_seq ?_
    refine L_region ?_
    refine F_val rfl rfl rfl (O_assign rfl rfl) ?_
    refine F_nil ?_
    obtain ⟨yj2, Hyj2, H⟩ := of_bind H
    refine L_join (fun a w => ∃ (base_53 : Int), yj2 = base_53 ∧ Is Tryd.f26.ntmps a [(3, .int .i64 base_53)] ∧ Hp S0 w0 w []) (fun Qj2 hNj2 hOj2 => ?_) (fun a w hR => ?_)
    · skip
      have H := Hyj2
      refine L_blk (fun Qb54 hNb54 hXb54 hOb54 => ?_)
      refine L_lp (fun k a w => ∃ (base_86 : Int), ∃ (s_87 : Int), Is Tryd.f26.ntmps a [(0, .int .i64 symbol_0), (3, .int .i64 base_86), (4, .int .i64 s_87)] ∧ Hp S0 w0 w [] ∧ valiseref10_lengthBase.l1 k base_86 s_87 symbol_0 = some yj2) FU (fun a ha => ⟨_, _, Is.cons ha (Is.cons ha (Is.cons ha (Is.nil ha) rfl) rfl) rfl, HS0.sel [] rfl, H⟩) (fun kp85 a w88 hI Qp85 hNp85 hOp85 => ?_)
      obtain ⟨base_86, s_87, ha, HS89, HAp85⟩ := hI
      cases kp85 with
      | zero => cases (show (none : Option _) = some _ from HAp85)
      | succ kp85 =>
        have H := (valiseref10_lengthBase.l1.eq_2 ..).symm.trans HAp85
        refine wpLF_app ?_ ha
        refine L_seq ?_
        refine L_seq ?_
        refine L_region ?_
        refine F_val rfl rfl rfl (O_move rfl rfl) ?_
        refine F_val rfl rfl rfl (O_move rfl rfl) ?_
        refine F_val rfl rfl rfl (O_lt rfl rfl rfl) ?_
        refine F_nil ?_
        refine L_condP rfl (fun c90 => ?_) (fun c90 => ?_)
        · have H := of_pos H c90
          refine L_skip ?_
          refine L_seq ?_
          refine L_blk (fun Q91 hN91 hX91 hO91 => ?_)
          refine L_region ?_
          refine F_val rfl rfl rfl (O_move rfl rfl) ?_
          refine F_val rfl rfl rfl (O_move rfl rfl) ?_
          obtain ⟨z96, h95, H⟩ := of_bind H
          refine F_call (xs := [.tmp 13]) rfl rfl rfl rfl Tryd.func27 nm27 rfl rfl ((valiseref10_lengthBits.calls (HS89.give [] rfl (Lent.nil)) h95).mono (fun e w hc => ?_))
          obtain ⟨rfl, HSo⟩ := hc
          refine ⟨.int .i64 z96, rfl, ?_⟩
          have HS98 : Hp S0 w0 w [] := (HS89.back [] HSo rfl).sel [] rfl
          refine F_val rfl rfl rfl (O_conv rfl rfl ⟨_, Tryd.underlying3⟩ Tryd.underlying46) ?_
          obtain ⟨g99, H⟩ := of_gd H
          refine F_val rfl rfl rfl (O_shl rfl rfl rfl g99) ?_
          refine F_val rfl rfl rfl (O_add rfl rfl rfl) ?_
          obtain ⟨x100, h101, H⟩ := of_bnd H
          refine F_val rfl rfl rfl (O_assign' rfl rfl (congrArg (Value.int .i64) h101)) ?_
          refine F_nil ?_
          refine L_endB hN91 ?_
          refine L_region ?_
          refine F_val rfl rfl rfl (O_move rfl rfl) ?_
          refine F_val rfl rfl rfl (O_add rfl rfl rfl) ?_
          obtain ⟨x102, h103, H⟩ := of_bnd H
          refine F_val rfl rfl rfl (O_assign' rfl rfl (congrArg (Value.int .i64) h103)) ?_
          refine F_nil ?_
          refine L_nil (fun a ha => hNp85 _ a _ (Nat.lt_succ_self _) ⟨_, _, Is.cons ha (Is.cons ha (Is.cons ha (Is.nil ha) rfl) rfl) rfl, HS98.sel [] rfl, H⟩)
        · have H := of_neg H c90
          refine L_exitB (fun a w h => hOp85 (.exit 0) a w rfl (hXb54 a w h)) ?_
          refine L_nil (fun a ha => hNj2 a _ ⟨_, (Option.some.inj H).symm, Is.cons ha (Is.nil ha) rfl, HS89.sel [] rfl⟩)
    · obtain ⟨base_53, rfl, ha, HS105⟩ := hR
      refine wpLF_app ?_ ha
      refine L_seq ?_
      refine L_region ?_
      refine F_val rfl rfl rfl (O_move rfl rfl) ?_
      refine F_val rfl rfl rfl (O_assign rfl rfl) ?_
      refine F_nil ?_
      refine L_ret (fun a ha => (post_ret1 ha rfl rfl ?_))
      obtain rfl := Option.some.inj H
      exact ⟨rfl, HS105.sel [] rfl⟩

/-! function 13: valise/valiseref10.LengthSymbol -/
theorem valiseref10_LengthSymbol.calls {S0 : Nat → Prop} {w0 : World} {length_0 : Int} {r : Int × Int × Int × Int} (HS0 : Hp S0 w0 w0 []) (h : valiseref10_LengthSymbol.f length_0 = some r) :
    Calls Tryd.prog 13 ([.int .i64 length_0] : List Value).toArray w0 (fun e w => e = .returned (.tuple #[.int .i64 r.1, .int .i64 r.2.1, .int .i64 r.2.2.1, .int .i64 r.2.2.2]) ∧ Hp S0 w0 w []) := by
  have H : (if (length_0 < 3) ∨ (258 < length_0) then (some (0, 0, 0, 1)) else ((valiseref10_LengthSymbol.l1 FU 285 257 length_0).bind fun symbol_99 => (valiseref10_lengthBits.f symbol_99).bind fun z201 => (valiseref10_lengthBase.f symbol_99).bind fun z208 => some (symbol_99, z201, IntKind.i64.wrap (length_0 - z208), 0))) = some r := h
  refine calls_start Tryd.func13 rfl rfl ?_
  refine L_seq ?_
  refine L_region ?_
  refine F_val rfl rfl rfl (O_assign rfl rfl) ?_
  refine F_val rfl rfl rfl (O_assign rfl rfl) ?_
  refine F_val rfl rfl rfl (O_assign rfl rfl) ?_
  refine F_val rfl rfl rfl (O_assign rfl rfl) ?_
  refine F_nil ?_
  refine L_seq ?_
  refine L_seq ?_
  refine L_region ?_
  refine F_val rfl rfl rfl (O_move rfl rfl) ?_
  refine F_val rfl rfl rfl (O_lt rfl rfl rfl) ?_
  refine F_val rfl rfl rfl (O_move rfl rfl) ?_
  refine F_grp 3 [(14, .bool (decide ((length_0 < 3) ∨ (258 < length_0)))), (0, .int .i64 length_0)] ?_ ?_
  · rcases Decidable.em (length_0 < 3) with c1 | c1
    · refine F_know (i := 11) rfl (dec_t c1) ?_
      refine F_gskip rfl rfl rfl rfl rfl rfl rfl ?_
      refine F_gskip rfl rfl rfl rfl rfl rfl rfl ?_
      refine F_val rfl rfl rfl (O_pickT rfl rfl rfl) ?_
      refine F_know (i := 14) rfl (dec_or_t (q := 258 < length_0) c1) ?_
      exact F_grpE (fun a ha => Is.cons ha (Is.cons ha (Is.nil ha) rfl) rfl)
    · refine F_know (i := 11) rfl (dec_f c1) ?_
      refine F_gval rfl rfl rfl rfl rfl rfl (O_move rfl rfl) ?_
      refine F_gval rfl rfl rfl rfl rfl rfl (O_gt rfl rfl rfl) ?_
      refine F_val rfl rfl rfl (O_pickF rfl rfl rfl) ?_
      refine F_know (i := 14) rfl (dec_or_f (q := 258 < length_0) c1) ?_
      exact F_grpE (fun a ha => Is.cons ha (Is.cons ha (Is.nil ha) rfl) rfl)
  · skip
    refine F_nil ?_
    refine L_condP rfl (fun c2 => ?_) (fun c2 => ?_)
    · have H := of_pos H c2
      refine L_seq ?_
      refine L_region ?_
      refine F_val rfl rfl rfl (O_assign rfl rfl) ?_
      refine F_val rfl rfl rfl (O_assign rfl rfl) ?_
      refine F_val rfl rfl rfl (O_assign rfl rfl) ?_
      refine F_val rfl rfl rfl (O_assign rfl rfl) ?_
      refine F_nil ?_
      refine L_ret (fun a ha => (post_ret4 ha rfl rfl rfl rfl rfl ?_))
      obtain rfl := Option.some.inj H
      exact ⟨rfl, HS0.sel [] rfl⟩
    · have H := of_neg H c2
      refine L_skip ?_
      refine L_seq ?_
      refine L_region ?_
      refine F_val rfl rfl rfl (O_assign rfl rfl) ?_
      refine F_nil ?_
      refine L_seq ?_
      refine L_seq ?_
      refine L_region ?_
      refine F_val rfl rfl rfl (O_assign rfl rfl) ?_
      refine F_nil ?_
      obtain ⟨yj3, Hyj3, H⟩ := of_bind H
      refine L_join (fun a w => ∃ (symbol_99 : Int), yj3 = symbol_99 ∧ Is Tryd.f13.ntmps a [(0, .int .i64 length_0), (6, .int .i64 symbol_99)] ∧ Hp S0 w0 w []) (fun Qj3 hNj3 hOj3 => ?_) (fun a w hR => ?_)
      · skip
        have H := Hyj3
        refine L_blk (fun Qb100 hNb100 hXb100 hOb100 => ?_)
        refine L_lp (fun k a w => ∃ (symbol_162 : Int), ∃ (s_163 : Int), Is Tryd.f13.ntmps a [(0, .int .i64 length_0), (6, .int .i64 symbol_162), (7, .int .i64 s_163)] ∧ Hp S0 w0 w [] ∧ valiseref10_LengthSymbol.l1 k symbol_162 s_163 length_0 = some yj3) FU (fun a ha => ⟨_, _, Is.cons ha (Is.cons ha (Is.cons ha (Is.nil ha) rfl) rfl) rfl, HS0.sel [] rfl, H⟩) (fun kp161 a w164 hI Qp161 hNp161 hOp161 => ?_)
        obtain ⟨symbol_162, s_163, ha, HS165, HAp161⟩ := hI
        cases kp161 with
        | zero => cases (show (none : Option _) = some _ from HAp161)
        | succ kp161 =>
          have H := (valiseref10_LengthSymbol.l1.eq_2 ..).symm.trans HAp161
          refine wpLF_app ?_ ha
          refine L_seq ?_
          refine L_seq ?_
          refine L_region ?_
          refine F_val rfl rfl rfl (O_move rfl rfl) ?_
          refine F_val rfl rfl rfl (O_lt rfl rfl rfl) ?_
          refine F_val rfl rfl rfl (O_move rfl rfl) ?_
          refine F_grp 3 [(20, .bool (decide ((s_163 < 285) ∧ (symbol_162 = 285)))), (0, .int .i64 length_0), (6, .int .i64 symbol_162), (7, .int .i64 s_163)] ?_ ?_
          · rcases Decidable.em (s_163 < 285) with c166 | c166
            · refine F_know (i := 17) rfl (dec_t c166) ?_
              refine F_gval rfl rfl rfl rfl rfl rfl (O_move rfl rfl) ?_
              refine F_gval rfl rfl rfl rfl rfl rfl (O_eq rfl rfl rfl) ?_
              refine F_val rfl rfl rfl (O_pickT rfl rfl rfl) ?_
              refine F_know (i := 20) rfl (dec_and_t (q := symbol_162 = 285) c166) ?_
              exact F_grpE (fun a ha => Is.cons ha (Is.cons ha (Is.cons ha (Is.cons ha (Is.nil ha) rfl) rfl) rfl) rfl)
            · refine F_know (i := 17) rfl (dec_f c166) ?_
              refine F_gskip rfl rfl rfl rfl rfl rfl rfl ?_
              refine F_gskip rfl rfl rfl rfl rfl rfl rfl ?_
              refine F_val rfl rfl rfl (O_pickF rfl rfl rfl) ?_
              refine F_know (i := 20) rfl (dec_and_f (q := symbol_162 = 285) c166) ?_
              exact F_grpE (fun a ha => Is.cons ha (Is.cons ha (Is.cons ha (Is.cons ha (Is.nil ha) rfl) rfl) rfl) rfl)
          · skip
            refine F_nil ?_
            refine L_condP rfl (fun c167 => ?_) (fun c167 => ?_)
            · have H := of_pos H c167
              refine L_skip ?_
              refine L_seq ?_
              refine L_blk (fun Q168 hN168 hX168 hO168 => ?_)
              refine L_seq ?_
              refine L_region ?_
              refine F_val rfl rfl rfl (O_move rfl rfl) ?_
              obtain ⟨z173, h172, H⟩ := of_bind H
              refine F_call (xs := [.tmp 23]) rfl rfl rfl rfl Tryd.func26 nm26 rfl rfl ((valiseref10_lengthBase.calls (HS165.give [] rfl (Lent.nil)) h172).mono (fun e w hc => ?_))
              obtain ⟨rfl, HSo⟩ := hc
              refine ⟨.int .i64 z173, rfl, ?_⟩
              have HS175 : Hp S0 w0 w [] := (HS165.back [] HSo rfl).sel [] rfl
              refine F_val rfl rfl rfl (O_assign rfl rfl) ?_
              refine F_nil ?_
              refine L_seq ?_
              refine L_region ?_
              refine F_val rfl rfl rfl (O_move rfl rfl) ?_
              refine F_val rfl rfl rfl (O_lt rfl rfl rfl) ?_
              refine F_val rfl rfl rfl (O_move rfl rfl) ?_
              rcases Decidable.em (length_0 < 258) with c176 | c176
              · have H := of_pos H c176
                refine F_know (i := 27) rfl (dec_t c176) ?_
                refine F_gval rfl rfl rfl rfl rfl rfl (O_move rfl rfl) ?_
                refine F_gval rfl rfl rfl rfl rfl rfl (O_move rfl rfl) ?_
                refine F_gval rfl rfl rfl rfl rfl rfl (O_move rfl rfl) ?_
                obtain ⟨z181, h180, H⟩ := of_bind H
                refine F_gcall (xs := [.tmp 30]) rfl rfl rfl rfl rfl rfl rfl Tryd.func27 nm27 rfl rfl ((valiseref10_lengthBits.calls (HS175.give [] rfl (Lent.nil)) h180).mono (fun e w hc => ?_))
                obtain ⟨rfl, HSo⟩ := hc
                refine ⟨.int .i64 z181, rfl, ?_⟩
                have HS183 : Hp S0 w0 w [] := (HS175.back [] HSo rfl).sel [] rfl
                refine F_gval rfl rfl rfl rfl rfl rfl (O_conv rfl rfl ⟨_, Tryd.underlying3⟩ Tryd.underlying46) ?_
                obtain ⟨g184, H⟩ := of_gd H
                refine F_gval rfl rfl rfl rfl rfl rfl (O_shl rfl rfl rfl g184) ?_
                refine F_gval rfl rfl rfl rfl rfl rfl (O_add rfl rfl rfl) ?_
                refine F_gval rfl rfl rfl rfl rfl rfl (O_lt rfl rfl rfl) ?_
                refine F_val rfl rfl rfl (O_pickT rfl rfl rfl) ?_
                refine F_nil ?_
                obtain ⟨yj185, Hyj185, H⟩ := of_bind H
                refine L_join (fun a w => ∃ (symbol_187 : Int), yj185 = symbol_187 ∧ Is Tryd.f13.ntmps a [(0, .int .i64 length_0), (6, .int .i64 symbol_187), (7, .int .i64 s_163), (28, .int .i64 length_0), (29, .int .i64 z173), (30, .int .i64 s_163), (31, .int .i64 z181), (32, .int .u64 (IntKind.u64.wrap z181)), (33, .int .i64 (shl .i64 1 (IntKind.u64.wrap z181))), (34, .int .i64 (IntKind.i64.wrap (z173 + (shl .i64 1 (IntKind.u64.wrap z181))))), (35, .bool (decide (length_0 < IntKind.i64.wrap (z173 + (shl .i64 1 (IntKind.u64.wrap z181))))))] ∧ Hp S0 w0 w []) (fun Qj185 hNj185 hOj185 => ?_) (fun a w hR => ?_)
                · skip
                  have H := Hyj185
                  refine L_condP rfl (fun c188 => ?_) (fun c188 => ?_)
                  · have H := of_pos H c188
                    refine L_region ?_
                    refine F_val rfl rfl rfl (O_move rfl rfl) ?_
                    refine F_val rfl rfl rfl (O_assign rfl rfl) ?_
                    refine F_nil ?_
                    refine L_nil (fun a ha => hNj185 a _ ⟨_, (Option.some.inj H).symm, Is.cons ha (Is.cons ha (Is.cons ha (Is.cons ha (Is.cons ha (Is.cons ha (Is.cons ha (Is.cons ha (Is.cons ha (Is.cons ha (Is.cons ha (Is.nil ha) rfl) rfl) rfl) rfl) rfl) rfl) rfl) rfl) rfl) rfl) rfl, HS183.sel [] rfl⟩)
                  · have H := of_neg H c188
                    refine L_skip ?_
                    refine L_nil (fun a ha => hNj185 a _ ⟨_, (Option.some.inj H).symm, Is.cons ha (Is.cons ha (Is.cons ha (Is.cons ha (Is.cons ha (Is.cons ha (Is.cons ha (Is.cons ha (Is.cons ha (Is.cons ha (Is.cons ha (Is.nil ha) rfl) rfl) rfl) rfl) rfl) rfl) rfl) rfl) rfl) rfl) rfl, HS183.sel [] rfl⟩)
                · obtain ⟨symbol_187, rfl, ha, HS190⟩ := hR
                  refine wpLF_app ?_ ha
                  refine L_endB hN168 ?_
                  refine L_region ?_
                  refine F_val rfl rfl rfl (O_move rfl rfl) ?_
                  refine F_val rfl rfl rfl (O_add rfl rfl rfl) ?_
                  obtain ⟨x191, h192, H⟩ := of_bnd H
                  refine F_val rfl rfl rfl (O_assign' rfl rfl (congrArg (Value.int .i64) h192)) ?_
                  refine F_nil ?_
                  refine L_nil (fun a ha => hNp161 _ a _ (Nat.lt_succ_self _) ⟨_, _, Is.cons ha (Is.cons ha (Is.cons ha (Is.nil ha) rfl) rfl) rfl, HS190.sel [] rfl, H⟩)
              · have H := of_neg H c176
                refine F_know (i := 27) rfl (dec_f c176) ?_
                refine F_gskip rfl rfl rfl rfl rfl rfl rfl ?_
                refine F_gskip rfl rfl rfl rfl rfl rfl rfl ?_
                refine F_gskip rfl rfl rfl rfl rfl rfl rfl ?_
                refine F_gskip rfl rfl rfl rfl rfl rfl rfl ?_
                refine F_gskip rfl rfl rfl rfl rfl rfl rfl ?_
                refine F_gskip rfl rfl rfl rfl rfl rfl rfl ?_
                refine F_gskip rfl rfl rfl rfl rfl rfl rfl ?_
                refine F_gskip rfl rfl rfl rfl rfl rfl rfl ?_
                refine F_val rfl rfl rfl (O_pickF rfl rfl rfl) ?_
                refine F_nil ?_
                refine L_cond rfl (fun hx => by cases hx) (fun _ => ?_)
                refine L_skip ?_
                refine L_endB hN168 ?_
                refine L_region ?_
                refine F_val rfl rfl rfl (O_move rfl rfl) ?_
                refine F_val rfl rfl rfl (O_add rfl rfl rfl) ?_
                obtain ⟨x193, h194, H⟩ := of_bnd H
                refine F_val rfl rfl rfl (O_assign' rfl rfl (congrArg (Value.int .i64) h194)) ?_
                refine F_nil ?_
                refine L_nil (fun a ha => hNp161 _ a _ (Nat.lt_succ_self _) ⟨_, _, Is.cons ha (Is.cons ha (Is.cons ha (Is.nil ha) rfl) rfl) rfl, HS175.sel [] rfl, H⟩)
            · have H := of_neg H c167
              refine L_exitB (fun a w h => hOp161 (.exit 0) a w rfl (hXb100 a w h)) ?_
              refine L_nil (fun a ha => hNj3 a _ ⟨_, (Option.some.inj H).symm, Is.cons ha (Is.cons ha (Is.nil ha) rfl) rfl, HS165.sel [] rfl⟩)
      · obtain ⟨symbol_99, rfl, ha, HS196⟩ := hR
        refine wpLF_app ?_ ha
        refine L_seq ?_
        refine L_region ?_
        refine F_val rfl rfl rfl (O_move rfl rfl) ?_
        refine F_val rfl rfl rfl (O_move rfl rfl) ?_
        obtain ⟨z201, h200, H⟩ := of_bind H
        refine F_call (xs := [.tmp 39]) rfl rfl rfl rfl Tryd.func27 nm27 rfl rfl ((valiseref10_lengthBits.calls (HS196.give [] rfl (Lent.nil)) h200).mono (fun e w hc => ?_))
        obtain ⟨rfl, HSo⟩ := hc
        refine ⟨.int .i64 z201, rfl, ?_⟩
        have HS203 : Hp S0 w0 w [] := (HS196.back [] HSo rfl).sel [] rfl
        refine F_val rfl rfl rfl (O_move rfl rfl) ?_
        refine F_val rfl rfl rfl (O_move rfl rfl) ?_
        obtain ⟨z208, h207, H⟩ := of_bind H
        refine F_call (xs := [.tmp 42]) rfl rfl rfl rfl Tryd.func26 nm26 rfl rfl ((valiseref10_lengthBase.calls (HS203.give [] rfl (Lent.nil)) h207).mono (fun e w hc => ?_))
        obtain ⟨rfl, HSo⟩ := hc
        refine ⟨.int .i64 z208, rfl, ?_⟩
        have HS210 : Hp S0 w0 w [] := (HS203.back [] HSo rfl).sel [] rfl
        refine F_val rfl rfl rfl (O_sub rfl rfl rfl) ?_
        refine F_val rfl rfl rfl (O_assign rfl rfl) ?_
        refine F_val rfl rfl rfl (O_assign rfl rfl) ?_
        refine F_val rfl rfl rfl (O_assign rfl rfl) ?_
        refine F_val rfl rfl rfl (O_assign rfl rfl) ?_
        refine F_nil ?_
        refine L_ret (fun a ha => (post_ret4 ha rfl rfl rfl rfl rfl ?_))
        obtain rfl := Option.some.inj H
        exact ⟨rfl, HS210.sel [] rfl⟩

/-! function 4: valise/valiselaw10.BlockLengthSymbols -/
theorem valiselaw10_BlockLengthSymbols.calls {S0 : Nat → Prop} {w0 : World} {length_0 : Int} {r : Bool} (HS0 : Hp S0 w0 w0 [.rd (some ⟨2, 0, none⟩) (rowC (Eint .i64) T_block_lengthBase), .rd (some ⟨3, 0, none⟩) (rowC (Eint .i64) T_block_lengthBits)]) (h : valiselaw10_BlockLengthSymbols.f length_0 = some r) :
    Calls Tryd.prog 4 ([.int .i64 length_0] : List Value).toArray w0 (fun e w => e = .returned (.bool r) ∧ Hp S0 w0 w []) := by
  have H : ((block_LengthSymbol.f length_0).bind fun (z5, z6, z7, z8) => (valiseref10_LengthSymbol.f length_0).bind fun (z15, z16, z17, z18) => if ((z5 = z15) ∧ (z6 = z16)) ∧ (z7 = z17) then ((valiselaw10_num.f z8).bind fun z28 => some (decide (z28 = z18))) else (some false)) = some r := h
  refine calls_start Tryd.func4 rfl rfl ?_
  refine L_seq ?_
  refine L_region ?_
  refine F_val rfl rfl rfl (O_assign rfl rfl) ?_
  refine F_nil ?_
  refine L_seq ?_
  refine L_region ?_
  refine F_val rfl rfl rfl (O_move rfl rfl) ?_
  obtain ⟨⟨z5, z6, z7, z8⟩, h4, H⟩ := of_bind H
  refine F_call (xs := [.tmp 12]) rfl rfl rfl rfl Tryd.func12 nm12 rfl rfl ((block_LengthSymbol.calls (HS0.give [] rfl (Lent.rd HS0 (Lent.rd HS0 (Lent.nil) (i := 1) rfl (HS0.cells_rd (i := 1) rfl).self) (i := 0) rfl (HS0.cells_rd (i := 0) rfl).self)) h4).mono (fun e w hc => ?_))
  obtain ⟨rfl, HSo⟩ := hc
  refine ⟨.tuple #[.int .i64 z5, .int .i64 z6, .int .i64 z7, .int .i64 z8], rfl, ?_⟩
  have HS10 : Hp S0 w0 w [.rd (some ⟨2, 0, none⟩) (rowC (Eint .i64) T_block_lengthBase), .rd (some ⟨3, 0, none⟩) (rowC (Eint .i64) T_block_lengthBits)] := (HS0.back [] HSo rfl).sel [0, 1] rfl
  refine F_val rfl rfl rfl (O_move rfl rfl) ?_
  refine F_val rfl rfl rfl (O_extract (v := .int .i64 z5) rfl rfl rfl) ?_
  refine F_val rfl rfl rfl (O_extract (v := .int .i64 z6) rfl rfl rfl) ?_
  refine F_val rfl rfl rfl (O_extract (v := .int .i64 z7) rfl rfl rfl) ?_
  refine F_val rfl rfl rfl (O_extract (v := .int .i64 z8) rfl rfl rfl) ?_
  refine F_val rfl rfl rfl (O_assign rfl rfl) ?_
  refine F_val rfl rfl rfl (O_assign rfl rfl) ?_
  refine F_val rfl rfl rfl (O_assign rfl rfl) ?_
  refine F_val rfl rfl rfl (O_assign rfl rfl) ?_
  refine F_nil ?_
  refine L_seq ?_
  refine L_region ?_
  refine F_val rfl rfl rfl (O_move rfl rfl) ?_
  obtain ⟨⟨z15, z16, z17, z18⟩, h14, H⟩ := of_bind H
  refine F_call (xs := [.tmp 19]) rfl rfl rfl rfl Tryd.func13 nm13 rfl rfl ((valiseref10_LengthSymbol.calls (HS10.give [] rfl (Lent.nil)) h14).mono (fun e w hc => ?_))
  obtain ⟨rfl, HSo⟩ := hc
  refine ⟨.tuple #[.int .i64 z15, .int .i64 z16, .int .i64 z17, .int .i64 z18], rfl, ?_⟩
  have HS20 : Hp S0 w0 w [.rd (some ⟨2, 0, none⟩) (rowC (Eint .i64) T_block_lengthBase), .rd (some ⟨3, 0, none⟩) (rowC (Eint .i64) T_block_lengthBits)] := (HS10.back [] HSo rfl).sel [0, 1] rfl
  refine F_val rfl rfl rfl (O_move rfl rfl) ?_
  refine F_val rfl rfl rfl (O_extract (v := .int .i64 z15) rfl rfl rfl) ?_
  refine F_val rfl rfl rfl (O_extract (v := .int .i64 z16) rfl rfl rfl) ?_
  refine F_val rfl rfl rfl (O_extract (v := .int .i64 z17) rfl rfl rfl) ?_
  refine F_val rfl rfl rfl (O_extract (v := .int .i64 z18) rfl rfl rfl) ?_
  refine F_val rfl rfl rfl (O_assign rfl rfl) ?_
  refine F_val rfl rfl rfl (O_assign rfl rfl) ?_
  refine F_val rfl rfl rfl (O_assign rfl rfl) ?_
  refine F_val rfl rfl rfl (O_assign rfl rfl) ?_
  refine F_nil ?_
  refine L_seq ?_
  refine L_region ?_
  refine F_val rfl rfl rfl (O_move rfl rfl) ?_
  refine F_val rfl rfl rfl (O_move rfl rfl) ?_
  refine F_val rfl rfl rfl (O_eq rfl rfl rfl) ?_
  refine F_val rfl rfl rfl (O_move rfl rfl) ?_
  refine F_grp 4 [(32, .bool (decide ((z5 = z15) ∧ (z6 = z16)))), (5, .int .i64 z7), (6, .int .i64 z8), (9, .int .i64 z17), (10, .int .i64 z18)] ?_ ?_
  · rcases Decidable.em (z5 = z15) with c21 | c21
    · refine F_know (i := 28) rfl (dec_t c21) ?_
      refine F_gval rfl rfl rfl rfl rfl rfl (O_move rfl rfl) ?_
      refine F_gval rfl rfl rfl rfl rfl rfl (O_move rfl rfl) ?_
      refine F_gval rfl rfl rfl rfl rfl rfl (O_eq rfl rfl rfl) ?_
      refine F_val rfl rfl rfl (O_pickT rfl rfl rfl) ?_
      refine F_know (i := 32) rfl (dec_and_t (q := z6 = z16) c21) ?_
      exact F_grpE (fun a ha => Is.cons ha (Is.cons ha (Is.cons ha (Is.cons ha (Is.cons ha (Is.nil ha) rfl) rfl) rfl) rfl) rfl)
    · refine F_know (i := 28) rfl (dec_f c21) ?_
      refine F_gskip rfl rfl rfl rfl rfl rfl rfl ?_
      refine F_gskip rfl rfl rfl rfl rfl rfl rfl ?_
      refine F_gskip rfl rfl rfl rfl rfl rfl rfl ?_
      refine F_val rfl rfl rfl (O_pickF rfl rfl rfl) ?_
      refine F_know (i := 32) rfl (dec_and_f (q := z6 = z16) c21) ?_
      exact F_grpE (fun a ha => Is.cons ha (Is.cons ha (Is.cons ha (Is.cons ha (Is.cons ha (Is.nil ha) rfl) rfl) rfl) rfl) rfl)
  · skip
    refine F_val rfl rfl rfl (O_move rfl rfl) ?_
    refine F_grp 4 [(37, .bool (decide (((z5 = z15) ∧ (z6 = z16)) ∧ (z7 = z17)))), (6, .int .i64 z8), (10, .int .i64 z18)] ?_ ?_
    · rcases Decidable.em ((z5 = z15) ∧ (z6 = z16)) with c22 | c22
      · refine F_know (i := 33) rfl (dec_t c22) ?_
        refine F_gval rfl rfl rfl rfl rfl rfl (O_move rfl rfl) ?_
        refine F_gval rfl rfl rfl rfl rfl rfl (O_move rfl rfl) ?_
        refine F_gval rfl rfl rfl rfl rfl rfl (O_eq rfl rfl rfl) ?_
        refine F_val rfl rfl rfl (O_pickT rfl rfl rfl) ?_
        refine F_know (i := 37) rfl (dec_and_t (q := z7 = z17) c22) ?_
        exact F_grpE (fun a ha => Is.cons ha (Is.cons ha (Is.cons ha (Is.nil ha) rfl) rfl) rfl)
      · refine F_know (i := 33) rfl (dec_f c22) ?_
        refine F_gskip rfl rfl rfl rfl rfl rfl rfl ?_
        refine F_gskip rfl rfl rfl rfl rfl rfl rfl ?_
        refine F_gskip rfl rfl rfl rfl rfl rfl rfl ?_
        refine F_val rfl rfl rfl (O_pickF rfl rfl rfl) ?_
        refine F_know (i := 37) rfl (dec_and_f (q := z7 = z17) c22) ?_
        exact F_grpE (fun a ha => Is.cons ha (Is.cons ha (Is.cons ha (Is.nil ha) rfl) rfl) rfl)
    · skip
      refine F_val rfl rfl rfl (O_move rfl rfl) ?_
      rcases Decidable.em (((z5 = z15) ∧ (z6 = z16)) ∧ (z7 = z17)) with c23 | c23
      · have H := of_pos H c23
        refine F_know (i := 38) rfl (dec_t c23) ?_
        refine F_gval rfl rfl rfl rfl rfl rfl (O_move rfl rfl) ?_
        obtain ⟨z28, h27, H⟩ := of_bind H
        refine F_gcall (xs := [.tmp 39]) rfl rfl rfl rfl rfl rfl rfl Tryd.func11 nm11 rfl rfl ((valiselaw10_num.calls (HS20.give [] rfl (Lent.nil)) h27).mono (fun e w hc => ?_))
        obtain ⟨rfl, HSo⟩ := hc
        refine ⟨.int .i64 z28, rfl, ?_⟩
        have HS30 : Hp S0 w0 w [.rd (some ⟨2, 0, none⟩) (rowC (Eint .i64) T_block_lengthBase), .rd (some ⟨3, 0, none⟩) (rowC (Eint .i64) T_block_lengthBits)] := (HS20.back [] HSo rfl).sel [0, 1] rfl
        refine F_gval rfl rfl rfl rfl rfl rfl (O_move rfl rfl) ?_
        refine F_gval rfl rfl rfl rfl rfl rfl (O_eq rfl rfl rfl) ?_
        refine F_val rfl rfl rfl (O_pickT rfl rfl rfl) ?_
        refine F_val rfl rfl rfl (O_assign rfl rfl) ?_
        refine F_nil ?_
        refine L_ret (fun a ha => (post_ret1 ha rfl rfl ?_))
        obtain rfl := Option.some.inj H
        exact ⟨rfl, HS30.sel [] rfl⟩
      · have H := of_neg H c23
        refine F_know (i := 38) rfl (dec_f c23) ?_
        refine F_gskip rfl rfl rfl rfl rfl rfl rfl ?_
        refine F_gskip rfl rfl rfl rfl rfl rfl rfl ?_
        refine F_gskip rfl rfl rfl rfl rfl rfl rfl ?_
        refine F_gskip rfl rfl rfl rfl rfl rfl rfl ?_
        refine F_val rfl rfl rfl (O_pickF rfl rfl rfl) ?_
        refine F_val rfl rfl rfl (O_assign rfl rfl) ?_
        refine F_nil ?_
        refine L_ret (fun a ha => (post_ret1 ha rfl rfl ?_))
        obtain rfl := Option.some.inj H
        exact ⟨rfl, HS20.sel [] rfl⟩

end Go.Proofs.YteckboojmmeecaaDoor
