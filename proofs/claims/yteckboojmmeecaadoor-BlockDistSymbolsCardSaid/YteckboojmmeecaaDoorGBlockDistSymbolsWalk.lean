import Derived.Test.YteckboojmmeecaaDoorChecked
import Derived.Test.YteckboojmmeecaaDoorGBlockDistSymbolsPure
set_option linter.unusedVariables false
set_option linter.unusedSimpArgs false
set_option maxRecDepth 10000
namespace Go.Proofs.YteckboojmmeecaaDoor
open Go Go.V Go.V.Pu
theorem mix : Tryd.prog.follows .mixedOrders = true := by kernel_rfl
theorem size3 : (Tryd.prog.info? 3).map (·.size) = some 1 := by kernel_rfl
theorem flat3 : Flat Tryd.prog 3 := Flat.of Tryd.underlying3 rfl
theorem nm24 : (Tryd.f24.name == "runtime.NumGoroutine") = false := by kernel_rfl
theorem nm25 : (Tryd.f25.name == "runtime.NumGoroutine") = false := by kernel_rfl
theorem nm14 : (Tryd.f14.name == "runtime.NumGoroutine") = false := by kernel_rfl
theorem nm15 : (Tryd.f15.name == "runtime.NumGoroutine") = false := by kernel_rfl
theorem nm11 : (Tryd.f11.name == "runtime.NumGoroutine") = false := by kernel_rfl
/-! function 11: valise/valiselaw10.num -/
theorem valiselaw10_num.calls {S0 : Nat → Prop} {w0 : World} {e_0 : Int} {r : Int} (HS0 : Hp S0 w0 w0 []) (h : valiselaw10_num.f e_0 = some r) :
    Calls Tryd.prog 11 ([.int .i64 e_0] : List Value).toArray w0 (fun e w => e = .returned (.int .i64 r) ∧ Hp S0 w0 w []) := by
  have H : (some e_0) = some r := h
  refine calls_start Tryd.func11 rfl rfl ?_
  refine L_seq ?_
  refine L_region ?_
  refine F_val rfl rfl rfl (O_assign rfl rfl) ?_
  refine F_nil ?_
  refine L_seq ?_
  refine L_region ?_
  refine F_val rfl rfl rfl (O_move rfl rfl) ?_
  refine F_val rfl rfl rfl (O_assign rfl rfl) ?_
  refine F_nil ?_
  refine L_ret (fun a ha => (post_ret1 ha rfl rfl ?_))
  obtain rfl := Option.some.inj H
  exact ⟨rfl, HS0.sel [] rfl⟩

/-! function 14: valise/block.DistSymbol -/
theorem block_DistSymbol.calls {S0 : Nat → Prop} {w0 : World} {dist_0 : Int} {r : Int × Int × Int × Int} (HS0 : Hp S0 w0 w0 [.rd (some ⟨0, 0, none⟩) (rowC (Eint .i64) T_block_distBits), .rd (some ⟨1, 0, none⟩) (rowC (Eint .i64) T_block_distBase)]) (h : block_DistSymbol.f dist_0 = some r) :
    Calls Tryd.prog 14 ([.int .i64 dist_0] : List Value).toArray w0 (fun e w => e = .returned (.tuple #[.int .i64 r.1, .int .i64 r.2.1, .int .i64 r.2.2.1, .int .i64 r.2.2.2]) ∧ Hp S0 w0 w []) := by
  have H : (if (dist_0 < 1) ∨ (32768 < dist_0) then (some (0, 0, 0, 1)) else ((block_DistSymbol.l1 FU 29 dist_0).bind fun i_26 => gd (0 ≤ i_26 ∧ i_26 < (30 : Int)) (bnd (rd T_block_distBits i_26) fun x53 => bnd (IntKind.i64.wrap (dist_0 - (rd T_block_distBase i_26))) fun x55 => some (i_26, x53, x55, 0)))) = some r := h
  refine calls_start Tryd.func14 rfl rfl ?_
  refine L_seq ?_
  refine L_region ?_
  refine F_val rfl rfl rfl (O_assign rfl rfl) ?_
  refine F_val rfl rfl rfl (O_assign rfl rfl) ?_
  refine F_val rfl rfl rfl (O_assign rfl rfl) ?_
  refine F_val rfl rfl rfl (O_assign rfl rfl) ?_
  refine F_nil ?_
  refine L_seq ?_
  refine L_seq ?_
  refine L_region ?_
  refine F_val rfl rfl rfl (O_move rfl rfl) ?_
  refine F_val rfl rfl rfl (O_lt rfl rfl rfl) ?_
  refine F_val rfl rfl rfl (O_move rfl rfl) ?_
  refine F_grp 3 [(12, .bool (decide ((dist_0 < 1) ∨ (32768 < dist_0)))), (0, .int .i64 dist_0)] ?_ ?_
  · rcases Decidable.em (dist_0 < 1) with c1 | c1
    · refine F_know (i := 9) rfl (dec_t c1) ?_
      refine F_gskip rfl rfl rfl rfl rfl rfl rfl ?_
      refine F_gskip rfl rfl rfl rfl rfl rfl rfl ?_
      refine F_val rfl rfl rfl (O_pickT rfl rfl rfl) ?_
      refine F_know (i := 12) rfl (dec_or_t (q := 32768 < dist_0) c1) ?_
      exact F_grpE (fun a ha => Is.cons ha (Is.cons ha (Is.nil ha) rfl) rfl)
    · refine F_know (i := 9) rfl (dec_f c1) ?_
      refine F_gval rfl rfl rfl rfl rfl rfl (O_move rfl rfl) ?_
      refine F_gval rfl rfl rfl rfl rfl rfl (O_gt rfl rfl rfl) ?_
      refine F_val rfl rfl rfl (O_pickF rfl rfl rfl) ?_
      refine F_know (i := 12) rfl (dec_or_f (q := 32768 < dist_0) c1) ?_
      exact F_grpE (fun a ha => Is.cons ha (Is.cons ha (Is.nil ha) rfl) rfl)
  · skip
    refine F_nil ?_
    refine L_condP rfl (fun c2 => ?_) (fun c2 => ?_)
    · have H := of_pos H c2
      refine L_seq ?_
      refine L_region ?_
      refine F_val rfl rfl rfl (O_assign rfl rfl) ?_
      refine F_val rfl rfl rfl (O_assign rfl rfl) ?_
      refine F_val rfl rfl rfl (O_assign rfl rfl) ?_
      refine F_val rfl rfl rfl (O_assign rfl rfl) ?_
      refine F_nil ?_
      refine L_ret (fun a ha => (post_ret4 ha rfl rfl rfl rfl rfl ?_))
      obtain rfl := Option.some.inj H
      exact ⟨rfl, HS0.sel [] rfl⟩
    · have H := of_neg H c2
      refine L_skip ?_
      refine L_seq ?_
      refine L_region ?_
      refine F_val rfl rfl rfl (O_assign rfl rfl) ?_
      refine F_nil ?_
      refine L_seq ?_
      obtain ⟨yj3, Hyj3, H⟩ := of_bind H
      refine L_join (fun a w => ∃ (i_26 : Int), yj3 = i_26 ∧ Is Tryd.f14.ntmps a [(0, .int .i64 dist_0), (6, .int .i64 i_26)] ∧ Hp S0 w0 w [.rd (some ⟨0, 0, none⟩) (rowC (Eint .i64) T_block_distBits), .rd (some ⟨1, 0, none⟩) (rowC (Eint .i64) T_block_distBase)]) (fun Qj3 hNj3 hOj3 => ?_) (fun a w hR => ?_)
      · skip
        have H := Hyj3
        refine L_blk (fun Qb27 hNb27 hXb27 hOb27 => ?_)
        refine L_lp (fun k a w => ∃ (i_40 : Int), Is Tryd.f14.ntmps a [(0, .int .i64 dist_0), (6, .int .i64 i_40)] ∧ Hp S0 w0 w [.rd (some ⟨0, 0, none⟩) (rowC (Eint .i64) T_block_distBits), .rd (some ⟨1, 0, none⟩) (rowC (Eint .i64) T_block_distBase)] ∧ block_DistSymbol.l1 k i_40 dist_0 = some yj3) FU (fun a ha => ⟨_, Is.cons ha (Is.cons ha (Is.nil ha) rfl) rfl, HS0.sel [0, 1] rfl, H⟩) (fun kp39 a w41 hI Qp39 hNp39 hOp39 => ?_)
        obtain ⟨i_40, ha, HS42, HAp39⟩ := hI
        cases kp39 with
        | zero => cases (show (none : Option _) = some _ from HAp39)
        | succ kp39 =>
          have H := (block_DistSymbol.l1.eq_2 ..).symm.trans HAp39
          refine wpLF_app ?_ ha
          refine L_seq ?_
          refine L_seq ?_
          refine L_region ?_
          refine F_val rfl rfl rfl (O_move rfl rfl) ?_
          obtain ⟨⟨g43, g44⟩, H⟩ := of_gd H
          refine F_val rfl rfl rfl (O_idxA rfl rfl rfl Tryd.underlying47 size3 g43 g44) ?_
          refine F_val rfl rfl rfl (O_loadB rfl rfl flat3 (HS42.cells_rd (i := 1) rfl) (at0 (int_cell g43 (arr_lt T_block_distBase_len g44)))) ?_
          refine F_val rfl rfl rfl (O_move rfl rfl) ?_
          refine F_val rfl rfl rfl (O_gt rfl rfl rfl) ?_
          refine F_nil ?_
          refine L_condP rfl (fun c45 => ?_) (fun c45 => ?_)
          · have H := of_pos H c45
            refine L_skip ?_
            refine L_blk (fun Q46 hN46 hX46 hO46 => ?_)
            refine L_region ?_
            refine F_val rfl rfl rfl (O_move rfl rfl) ?_
            refine F_val rfl rfl rfl (O_sub rfl rfl rfl) ?_
            obtain ⟨x47, h48, H⟩ := of_bnd H
            refine F_val rfl rfl rfl (O_assign' rfl rfl (congrArg (Value.int .i64) h48)) ?_
            refine F_nil ?_
            refine L_endB hN46 ?_
            refine L_nil (fun a ha => hNp39 _ a _ (Nat.lt_succ_self _) ⟨_, Is.cons ha (Is.cons ha (Is.nil ha) rfl) rfl, HS42.sel [0, 1] rfl, H⟩)
          · have H := of_neg H c45
            refine L_exitB (fun a w h => hOp39 (.exit 0) a w rfl (hXb27 a w h)) ?_
            refine L_nil (fun a ha => hNj3 a _ ⟨_, (Option.some.inj H).symm, Is.cons ha (Is.cons ha (Is.nil ha) rfl) rfl, HS42.sel [0, 1] rfl⟩)
      · obtain ⟨i_26, rfl, ha, HS50⟩ := hR
        refine wpLF_app ?_ ha
        refine L_seq ?_
        refine L_quiet mix (by kernel_rfl) ?_
        refine Q_val rfl rfl rfl (fun wq hq => O_move rfl rfl) ?_
        refine Q_val rfl rfl rfl (fun wq hq => O_move rfl rfl) ?_
        obtain ⟨⟨g51, g52⟩, H⟩ := of_gd H
        refine Q_val rfl rfl rfl (fun wq hq => O_idxA rfl rfl rfl Tryd.underlying47 size3 g51 g52) ?_
        refine Q_val rfl rfl rfl (fun wq hq => O_loadB rfl rfl flat3 ((HS50.keep hq).cells_rd (i := 0) rfl) (at0 (int_cell g51 (arr_lt T_block_distBits_len g52)))) ?_
        refine Q_val rfl rfl rfl (fun wq hq => O_move rfl rfl) ?_
        refine Q_val rfl rfl rfl (fun wq hq => O_move rfl rfl) ?_
        refine Q_val rfl rfl rfl (fun wq hq => O_idxA rfl rfl rfl Tryd.underlying47 size3 g51 g52) ?_
        refine Q_val rfl rfl rfl (fun wq hq => O_loadB rfl rfl flat3 ((HS50.keep hq).cells_rd (i := 1) rfl) (at0 (int_cell g51 (arr_lt T_block_distBase_len g52)))) ?_
        refine Q_val rfl rfl rfl (fun wq hq => O_sub rfl rfl rfl) ?_
        refine Q_val rfl rfl rfl (fun wq hq => O_assign rfl rfl) ?_
        obtain ⟨x53, h54, H⟩ := of_bnd H
        refine Q_val rfl rfl rfl (fun wq hq => O_assign' rfl rfl (congrArg (Value.int .i64) h54)) ?_
        obtain ⟨x55, h56, H⟩ := of_bnd H
        refine Q_val rfl rfl rfl (fun wq hq => O_assign' rfl rfl (congrArg (Value.int .i64) h56)) ?_
        refine Q_val rfl rfl rfl (fun wq hq => O_assign rfl rfl) ?_
        refine Q_nil (fun w57 hw58 => ?_)
        have HS59 := HS50.keep hw58
        refine L_ret (fun a ha => (post_ret4 ha rfl rfl rfl rfl rfl ?_))
        obtain rfl := Option.some.inj H
        exact ⟨rfl, HS59.sel [] rfl⟩

/-! function 24: valise/valiseref10.distBits -/
theorem valiseref10_distBits.calls {S0 : Nat → Prop} {w0 : World} {symbol_0 : Int} {r : Int} (HS0 : Hp S0 w0 w0 []) (h : valiseref10_distBits.f symbol_0 = some r) :
    Calls Tryd.prog 24 ([.int .i64 symbol_0] : List Value).toArray w0 (fun e w => e = .returned (.int .i64 r) ∧ Hp S0 w0 w []) := by
  have H : (if symbol_0 < 4 then (some 0) else (some (IntKind.i64.wrap (Int.tdiv (IntKind.i64.wrap (symbol_0 - 2)) 2)))) = some r := h
  refine calls_start Tryd.func24 rfl rfl ?_
  refine L_seq ?_
  refine L_region ?_
  refine F_val rfl rfl rfl (O_assign rfl rfl) ?_
  refine F_nil ?_
  refine L_seq ?_
  refine L_seq ?_
  refine L_region ?_
  refine F_val rfl rfl rfl (O_move rfl rfl) ?_
  refine F_val rfl rfl rfl (O_lt rfl rfl rfl) ?_
  refine F_nil ?_
  refine L_condP rfl (fun c1 => ?_) (fun c1 => ?_)
  · have H := of_pos H c1
    refine L_seq ?_
    refine L_region ?_
    refine F_val rfl rfl rfl (O_assign rfl rfl) ?_
    refine F_nil ?_
    refine L_ret (fun a ha => (post_ret1 ha rfl rfl ?_))
    obtain rfl := Option.some.inj H
    exact ⟨rfl, HS0.sel [] rfl⟩
  · have H := of_neg H c1
    refine L_skip ?_
    refine L_seq ?_
    refine L_region ?_
    refine F_val rfl rfl rfl (O_move rfl rfl) ?_
    refine F_val rfl rfl rfl (O_sub rfl rfl rfl) ?_
    refine F_val rfl rfl rfl (O_quo rfl rfl rfl (by decide)) ?_
    refine F_val rfl rfl rfl (O_assign rfl rfl) ?_
    refine F_nil ?_
    refine L_ret (fun a ha => (post_ret1 ha rfl rfl ?_))
    obtain rfl := Option.some.inj H
    exact ⟨rfl, HS0.sel [] rfl⟩

/-! function 25: valise/valiseref10.distBase -/
theorem valiseref10_distBase.calls {S0 : Nat → Prop} {w0 : World} {symbol_0 : Int} {r : Int} (HS0 : Hp S0 w0 w0 []) (h : valiseref10_distBase.f symbol_0 = some r) :
    Calls Tryd.prog 25 ([.int .i64 symbol_0] : List Value).toArray w0 (fun e w => e = .returned (.int .i64 r) ∧ Hp S0 w0 w []) := by
  have H : ((valiseref10_distBase.l1 FU 1 0 symbol_0).bind fun base_52 => some base_52) = some r := h
  refine calls_start Tryd.func25 rfl rfl ?_
  refine L_seq ?_
  refine L_region ?_
  refine F_val rfl rfl rfl (O_assign rfl rfl) ?_
  refine F_nil ?_
  refine L_seq ?_
  refine L_region ?_
  refine F_val rfl rfl rfl (O_assign rfl rfl) ?_
  refine F_nil ?_
  refine L_seq ?_
  refine L_seq ?_
  refine L_region ?_
  refine F_val rfl rfl rfl (O_assign rfl rfl) ?_
  refine F_nil ?_
  obtain ⟨yj1, Hyj1, H⟩ := of_bind H
  refine L_join (fun a w => ∃ (base_52 : Int), yj1 = base_52 ∧ Is Tryd.f25.ntmps a [(3, .int .i64 base_52)] ∧ Hp S0 w0 w []) (fun Qj1 hNj1 hOj1 => ?_) (fun a w hR => ?_)
  · skip
    have H := Hyj1
    refine L_blk (fun Qb53 hNb53 hXb53 hOb53 => ?_)
    refine L_lp (fun k a w => ∃ (base_85 : Int), ∃ (s_86 : Int), Is Tryd.f25.ntmps a [(0, .int .i64 symbol_0), (3, .int .i64 base_85), (4, .int .i64 s_86)] ∧ Hp S0 w0 w [] ∧ valiseref10_distBase.l1 k base_85 s_86 symbol_0 = some yj1) FU (fun a ha => ⟨_, _, Is.cons ha (Is.cons ha (Is.cons ha (Is.nil ha) rfl) rfl) rfl, HS0.sel [] rfl, H⟩) (fun kp84 a w87 hI Qp84 hNp84 hOp84 => ?_)
    obtain ⟨base_85, s_86, ha, HS88, HAp84⟩ := hI
    cases kp84 with
    | zero => cases (show (none : Option _) = some _ from HAp84)
    | succ kp84 =>
      have H := (valiseref10_distBase.l1.eq_2 ..).symm.trans HAp84
      refine wpLF_app ?_ ha
      refine L_seq ?_
      refine L_seq ?_
      refine L_region ?_
      refine F_val rfl rfl rfl (O_move rfl rfl) ?_
      refine F_val rfl rfl rfl (O_move rfl rfl) ?_
      refine F_val rfl rfl rfl (O_lt rfl rfl rfl) ?_
      refine F_nil ?_
      refine L_condP rfl (fun c89 => ?_) (fun c89 => ?_)
      · have H := of_pos H c89
        refine L_skip ?_
        refine L_seq ?_
        refine L_blk (fun Q90 hN90 hX90 hO90 => ?_)
        refine L_region ?_
        refine F_val rfl rfl rfl (O_move rfl rfl) ?_
        refine F_val rfl rfl rfl (O_move rfl rfl) ?_
        obtain ⟨z95, h94, H⟩ := of_bind H
        refine F_call (xs := [.tmp 11]) rfl rfl rfl rfl Tryd.func24 nm24 rfl rfl ((valiseref10_distBits.calls (HS88.give [] rfl (Lent.nil)) h94).mono (fun e w hc => ?_))
        obtain ⟨rfl, HSo⟩ := hc
        refine ⟨.int .i64 z95, rfl, ?_⟩
        have HS97 : Hp S0 w0 w [] := (HS88.back [] HSo rfl).sel [] rfl
        refine F_val rfl rfl rfl (O_conv rfl rfl ⟨_, Tryd.underlying3⟩ Tryd.underlying46) ?_
        obtain ⟨g98, H⟩ := of_gd H
        refine F_val rfl rfl rfl (O_shl rfl rfl rfl g98) ?_
        refine F_val rfl rfl rfl (O_add rfl rfl rfl) ?_
        obtain ⟨x99, h100, H⟩ := of_bnd H
        refine F_val rfl rfl rfl (O_assign' rfl rfl (congrArg (Value.int .i64) h100)) ?_
        refine F_nil ?_
        refine L_endB hN90 ?_
        refine L_region ?_
        refine F_val rfl rfl rfl (O_move rfl rfl) ?_
        refine F_val rfl rfl rfl (O_add rfl rfl rfl) ?_
        obtain ⟨x101, h102, H⟩ := of_bnd H
        refine F_val rfl rfl rfl (O_assign' rfl rfl (congrArg (Value.int .i64) h102)) ?_
        refine F_nil ?_
        refine L_nil (fun a ha => hNp84 _ a _ (Nat.lt_succ_self _) ⟨_, _, Is.cons ha (Is.cons ha (Is.cons ha (Is.nil ha) rfl) rfl) rfl, HS97.sel [] rfl, H⟩)
      · have H := of_neg H c89
        refine L_exitB (fun a w h => hOp84 (.exit 0) a w rfl (hXb53 a w h)) ?_
        refine L_nil (fun a ha => hNj1 a _ ⟨_, (Option.some.inj H).symm, Is.cons ha (Is.nil ha) rfl, HS88.sel [] rfl⟩)
  · obtain ⟨base_52, rfl, ha, HS104⟩ := hR
    refine wpLF_app ?_ ha
    refine L_seq ?_
    refine L_region ?_
    refine F_val rfl rfl rfl (O_move rfl rfl) ?_
    refine F_val rfl rfl rfl (O_assign rfl rfl) ?_
    refine F_nil ?_
    refine L_ret (fun a ha => (post_ret1 ha rfl rfl ?_))
    obtain rfl := Option.some.inj H
    exact ⟨rfl, HS104.sel [] rfl⟩

/-! function 15: valise/valiseref10.DistSymbol -/
theorem valiseref10_DistSymbol.calls {S0 : Nat → Prop} {w0 : World} {dist_0 : Int} {r : Int × Int × Int × Int} (HS0 : Hp S0 w0 w0 []) (h : valiseref10_DistSymbol.f dist_0 = some r) :
    Calls Tryd.prog 15 ([.int .i64 dist_0] : List Value).toArray w0 (fun e w => e = .returned (.tuple #[.int .i64 r.1, .int .i64 r.2.1, .int .i64 r.2.2.1, .int .i64 r.2.2.2]) ∧ Hp S0 w0 w []) := by
  have H : (if (dist_0 < 1) ∨ (32768 < dist_0) then (some (0, 0, 0, 1)) else ((valiseref10_DistSymbol.l1 FU 0 dist_0).bind fun symbol_43 => (valiseref10_distBits.f symbol_43).bind fun z89 => (valiseref10_distBase.f symbol_43).bind fun z96 => some (symbol_43, z89, IntKind.i64.wrap (dist_0 - z96), 0))) = some r := h
  refine calls_start Tryd.func15 rfl rfl ?_
  refine L_seq ?_
  refine L_region ?_
  refine F_val rfl rfl rfl (O_assign rfl rfl) ?_
  refine F_val rfl rfl rfl (O_assign rfl rfl) ?_
  refine F_val rfl rfl rfl (O_assign rfl rfl) ?_
  refine F_val rfl rfl rfl (O_assign rfl rfl) ?_
  refine F_nil ?_
  refine L_seq ?_
  refine L_seq ?_
  refine L_region ?_
  refine F_val rfl rfl rfl (O_move rfl rfl) ?_
  refine F_val rfl rfl rfl (O_lt rfl rfl rfl) ?_
  refine F_val rfl rfl rfl (O_move rfl rfl) ?_
  refine F_grp 3 [(12, .bool (decide ((dist_0 < 1) ∨ (32768 < dist_0)))), (0, .int .i64 dist_0)] ?_ ?_
  · rcases Decidable.em (dist_0 < 1) with c1 | c1
    · refine F_know (i := 9) rfl (dec_t c1) ?_
      refine F_gskip rfl rfl rfl rfl rfl rfl rfl ?_
      refine F_gskip rfl rfl rfl rfl rfl rfl rfl ?_
      refine F_val rfl rfl rfl (O_pickT rfl rfl rfl) ?_
      refine F_know (i := 12) rfl (dec_or_t (q := 32768 < dist_0) c1) ?_
      exact F_grpE (fun a ha => Is.cons ha (Is.cons ha (Is.nil ha) rfl) rfl)
    · refine F_know (i := 9) rfl (dec_f c1) ?_
      refine F_gval rfl rfl rfl rfl rfl rfl (O_move rfl rfl) ?_
      refine F_gval rfl rfl rfl rfl rfl rfl (O_gt rfl rfl rfl) ?_
      refine F_val rfl rfl rfl (O_pickF rfl rfl rfl) ?_
      refine F_know (i := 12) rfl (dec_or_f (q := 32768 < dist_0) c1) ?_
      exact F_grpE (fun a ha => Is.cons ha (Is.cons ha (Is.nil ha) rfl) rfl)
  · skip
    refine F_nil ?_
    refine L_condP rfl (fun c2 => ?_) (fun c2 => ?_)
    · have H := of_pos H c2
      refine L_seq ?_
      refine L_region ?_
      refine F_val rfl rfl rfl (O_assign rfl rfl) ?_
      refine F_val rfl rfl rfl (O_assign rfl rfl) ?_
      refine F_val rfl rfl rfl (O_assign rfl rfl) ?_
      refine F_val rfl rfl rfl (O_assign rfl rfl) ?_
      refine F_nil ?_
      refine L_ret (fun a ha => (post_ret4 ha rfl rfl rfl rfl rfl ?_))
      obtain rfl := Option.some.inj H
      exact ⟨rfl, HS0.sel [] rfl⟩
    · have H := of_neg H c2
      refine L_skip ?_
      refine L_seq ?_
      refine L_region ?_
      refine F_val rfl rfl rfl (O_assign rfl rfl) ?_
      refine F_nil ?_
      refine L_seq ?_
      obtain ⟨yj3, Hyj3, H⟩ := of_bind H
      refine L_join (fun a w => ∃ (symbol_43 : Int), yj3 = symbol_43 ∧ Is Tryd.f15.ntmps a [(0, .int .i64 dist_0), (6, .int .i64 symbol_43)] ∧ Hp S0 w0 w []) (fun Qj3 hNj3 hOj3 => ?_) (fun a w hR => ?_)
      · skip
        have H := Hyj3
        refine L_blk (fun Qb44 hNb44 hXb44 hOb44 => ?_)
        refine L_lp (fun k a w => ∃ (symbol_69 : Int), Is Tryd.f15.ntmps a [(0, .int .i64 dist_0), (6, .int .i64 symbol_69)] ∧ Hp S0 w0 w [] ∧ valiseref10_DistSymbol.l1 k symbol_69 dist_0 = some yj3) FU (fun a ha => ⟨_, Is.cons ha (Is.cons ha (Is.nil ha) rfl) rfl, HS0.sel [] rfl, H⟩) (fun kp68 a w70 hI Qp68 hNp68 hOp68 => ?_)
        obtain ⟨symbol_69, ha, HS71, HAp68⟩ := hI
        cases kp68 with
        | zero => cases (show (none : Option _) = some _ from HAp68)
        | succ kp68 =>
          have H := (valiseref10_DistSymbol.l1.eq_2 ..).symm.trans HAp68
          refine wpLF_app ?_ ha
          refine L_seq ?_
          refine L_seq ?_
          refine L_region ?_
          refine F_val rfl rfl rfl (O_move rfl rfl) ?_
          refine F_val rfl rfl rfl (O_add rfl rfl rfl) ?_
          obtain ⟨z76, h75, H⟩ := of_bind H
          refine F_call (xs := [.tmp 14]) rfl rfl rfl rfl Tryd.func25 nm25 rfl rfl ((valiseref10_distBase.calls (HS71.give [] rfl (Lent.nil)) h75).mono (fun e w hc => ?_))
          obtain ⟨rfl, HSo⟩ := hc
          refine ⟨.int .i64 z76, rfl, ?_⟩
          have HS78 : Hp S0 w0 w [] := (HS71.back [] HSo rfl).sel [] rfl
          refine F_val rfl rfl rfl (O_move rfl rfl) ?_
          refine F_val rfl rfl rfl (O_le rfl rfl rfl) ?_
          refine F_nil ?_
          refine L_condP rfl (fun c79 => ?_) (fun c79 => ?_)
          · have H := of_pos H c79
            refine L_skip ?_
            refine L_blk (fun Q80 hN80 hX80 hO80 => ?_)
            refine L_region ?_
            refine F_val rfl rfl rfl (O_move rfl rfl) ?_
            refine F_val rfl rfl rfl (O_add rfl rfl rfl) ?_
            obtain ⟨x81, h82, H⟩ := of_bnd H
            refine F_val rfl rfl rfl (O_assign' rfl rfl (congrArg (Value.int .i64) h82)) ?_
            refine F_nil ?_
            refine L_endB hN80 ?_
            refine L_nil (fun a ha => hNp68 _ a _ (Nat.lt_succ_self _) ⟨_, Is.cons ha (Is.cons ha (Is.nil ha) rfl) rfl, HS78.sel [] rfl, H⟩)
          · have H := of_neg H c79
            refine L_exitB (fun a w h => hOp68 (.exit 0) a w rfl (hXb44 a w h)) ?_
            refine L_nil (fun a ha => hNj3 a _ ⟨_, (Option.some.inj H).symm, Is.cons ha (Is.cons ha (Is.nil ha) rfl) rfl, HS78.sel [] rfl⟩)
      · obtain ⟨symbol_43, rfl, ha, HS84⟩ := hR
        refine wpLF_app ?_ ha
        refine L_seq ?_
        refine L_region ?_
        refine F_val rfl rfl rfl (O_move rfl rfl) ?_
        refine F_val rfl rfl rfl (O_move rfl rfl) ?_
        obtain ⟨z89, h88, H⟩ := of_bind H
        refine F_call (xs := [.tmp 21]) rfl rfl rfl rfl Tryd.func24 nm24 rfl rfl ((valiseref10_distBits.calls (HS84.give [] rfl (Lent.nil)) h88).mono (fun e w hc => ?_))
        obtain ⟨rfl, HSo⟩ := hc
        refine ⟨.int .i64 z89, rfl, ?_⟩
        have HS91 : Hp S0 w0 w [] := (HS84.back [] HSo rfl).sel [] rfl
        refine F_val rfl rfl rfl (O_move rfl rfl) ?_
        refine F_val rfl rfl rfl (O_move rfl rfl) ?_
        obtain ⟨z96, h95, H⟩ := of_bind H
        refine F_call (xs := [.tmp 24]) rfl rfl rfl rfl Tryd.func25 nm25 rfl rfl ((valiseref10_distBase.calls (HS91.give [] rfl (Lent.nil)) h95).mono (fun e w hc => ?_))
        obtain ⟨rfl, HSo⟩ := hc
        refine ⟨.int .i64 z96, rfl, ?_⟩
        have HS98 : Hp S0 w0 w [] := (HS91.back [] HSo rfl).sel [] rfl
        refine F_val rfl rfl rfl (O_sub rfl rfl rfl) ?_
        refine F_val rfl rfl rfl (O_assign rfl rfl) ?_
        refine F_val rfl rfl rfl (O_assign rfl rfl) ?_
        refine F_val rfl rfl rfl (O_assign rfl rfl) ?_
        refine F_val rfl rfl rfl (O_assign rfl rfl) ?_
        refine F_nil ?_
        refine L_ret (fun a ha => (post_ret4 ha rfl rfl rfl rfl rfl ?_))
        obtain rfl := Option.some.inj H
        exact ⟨rfl, HS98.sel [] rfl⟩

/-! function 5: valise/valiselaw10.BlockDistSymbols -/
theorem valiselaw10_BlockDistSymbols.calls {S0 : Nat → Prop} {w0 : World} {dist_0 : Int} {r : Bool} (HS0 : Hp S0 w0 w0 [.rd (some ⟨0, 0, none⟩) (rowC (Eint .i64) T_block_distBits), .rd (some ⟨1, 0, none⟩) (rowC (Eint .i64) T_block_distBase)]) (h : valiselaw10_BlockDistSymbols.f dist_0 = some r) :
    Calls Tryd.prog 5 ([.int .i64 dist_0] : List Value).toArray w0 (fun e w => e = .returned (.bool r) ∧ Hp S0 w0 w []) := by
  have H : ((block_DistSymbol.f dist_0).bind fun (z5, z6, z7, z8) => (valiseref10_DistSymbol.f dist_0).bind fun (z15, z16, z17, z18) => if ((z5 = z15) ∧ (z6 = z16)) ∧ (z7 = z17) then ((valiselaw10_num.f z8).bind fun z28 => some (decide (z28 = z18))) else (some false)) = some r := h
  refine calls_start Tryd.func5 rfl rfl ?_
  refine L_seq ?_
  refine L_region ?_
  refine F_val rfl rfl rfl (O_assign rfl rfl) ?_
  refine F_nil ?_
  refine L_seq ?_
  refine L_region ?_
  refine F_val rfl rfl rfl (O_move rfl rfl) ?_
  obtain ⟨⟨z5, z6, z7, z8⟩, h4, H⟩ := of_bind H
  refine F_call (xs := [.tmp 12]) rfl rfl rfl rfl Tryd.func14 nm14 rfl rfl ((block_DistSymbol.calls (HS0.give [] rfl (Lent.rd HS0 (Lent.rd HS0 (Lent.nil) (i := 1) rfl (HS0.cells_rd (i := 1) rfl).self) (i := 0) rfl (HS0.cells_rd (i := 0) rfl).self)) h4).mono (fun e w hc => ?_))
  obtain ⟨rfl, HSo⟩ := hc
  refine ⟨.tuple #[.int .i64 z5, .int .i64 z6, .int .i64 z7, .int .i64 z8], rfl, ?_⟩
  have HS10 : Hp S0 w0 w [.rd (some ⟨0, 0, none⟩) (rowC (Eint .i64) T_block_distBits), .rd (some ⟨1, 0, none⟩) (rowC (Eint .i64) T_block_distBase)] := (HS0.back [] HSo rfl).sel [0, 1] rfl
  refine F_val rfl rfl rfl (O_move rfl rfl) ?_
  refine F_val rfl rfl rfl (O_extract (v := .int .i64 z5) rfl rfl rfl) ?_
  refine F_val rfl rfl rfl (O_extract (v := .int .i64 z6) rfl rfl rfl) ?_
  refine F_val rfl rfl rfl (O_extract (v := .int .i64 z7) rfl rfl rfl) ?_
  refine F_val rfl rfl rfl (O_extract (v := .int .i64 z8) rfl rfl rfl) ?_
  refine F_val rfl rfl rfl (O_assign rfl rfl) ?_
  refine F_val rfl rfl rfl (O_assign rfl rfl) ?_
  refine F_val rfl rfl rfl (O_assign rfl rfl) ?_
  refine F_val rfl rfl rfl (O_assign rfl rfl) ?_
  refine F_nil ?_
  refine L_seq ?_
  refine L_region ?_
  refine F_val rfl rfl rfl (O_move rfl rfl) ?_
  obtain ⟨⟨z15, z16, z17, z18⟩, h14, H⟩ := of_bind H
  refine F_call (xs := [.tmp 19]) rfl rfl rfl rfl Tryd.func15 nm15 rfl rfl ((valiseref10_DistSymbol.calls (HS10.give [] rfl (Lent.nil)) h14).mono (fun e w hc => ?_))
  obtain ⟨rfl, HSo⟩ := hc
  refine ⟨.tuple #[.int .i64 z15, .int .i64 z16, .int .i64 z17, .int .i64 z18], rfl, ?_⟩
  have HS20 : Hp S0 w0 w [.rd (some ⟨0, 0, none⟩) (rowC (Eint .i64) T_block_distBits), .rd (some ⟨1, 0, none⟩) (rowC (Eint .i64) T_block_distBase)] := (HS10.back [] HSo rfl).sel [0, 1] rfl
  refine F_val rfl rfl rfl (O_move rfl rfl) ?_
  refine F_val rfl rfl rfl (O_extract (v := .int .i64 z15) rfl rfl rfl) ?_
  refine F_val rfl rfl rfl (O_extract (v := .int .i64 z16) rfl rfl rfl) ?_
  refine F_val rfl rfl rfl (O_extract (v := .int .i64 z17) rfl rfl rfl) ?_
  refine F_val rfl rfl rfl (O_extract (v := .int .i64 z18) rfl rfl rfl) ?_
  refine F_val rfl rfl rfl (O_assign rfl rfl) ?_
  refine F_val rfl rfl rfl (O_assign rfl rfl) ?_
  refine F_val rfl rfl rfl (O_assign rfl rfl) ?_
  refine F_val rfl rfl rfl (O_assign rfl rfl) ?_
  refine F_nil ?_
  refine L_seq ?_
  refine L_region ?_
  refine F_val rfl rfl rfl (O_move rfl rfl) ?_
  refine F_val rfl rfl rfl (O_move rfl rfl) ?_
  refine F_val rfl rfl rfl (O_eq rfl rfl rfl) ?_
  refine F_val rfl rfl rfl (O_move rfl rfl) ?_
  refine F_grp 4 [(32, .bool (decide ((z5 = z15) ∧ (z6 = z16)))), (5, .int .i64 z7), (6, .int .i64 z8), (9, .int .i64 z17), (10, .int .i64 z18)] ?_ ?_
  · rcases Decidable.em (z5 = z15) with c21 | c21
    · refine F_know (i := 28) rfl (dec_t c21) ?_
      refine F_gval rfl rfl rfl rfl rfl rfl (O_move rfl rfl) ?_
      refine F_gval rfl rfl rfl rfl rfl rfl (O_move rfl rfl) ?_
      refine F_gval rfl rfl rfl rfl rfl rfl (O_eq rfl rfl rfl) ?_
      refine F_val rfl rfl rfl (O_pickT rfl rfl rfl) ?_
      refine F_know (i := 32) rfl (dec_and_t (q := z6 = z16) c21) ?_
      exact F_grpE (fun a ha => Is.cons ha (Is.cons ha (Is.cons ha (Is.cons ha (Is.cons ha (Is.nil ha) rfl) rfl) rfl) rfl) rfl)
    · refine F_know (i := 28) rfl (dec_f c21) ?_
      refine F_gskip rfl rfl rfl rfl rfl rfl rfl ?_
      refine F_gskip rfl rfl rfl rfl rfl rfl rfl ?_
      refine F_gskip rfl rfl rfl rfl rfl rfl rfl ?_
      refine F_val rfl rfl rfl (O_pickF rfl rfl rfl) ?_
      refine F_know (i := 32) rfl (dec_and_f (q := z6 = z16) c21) ?_
      exact F_grpE (fun a ha => Is.cons ha (Is.cons ha (Is.cons ha (Is.cons ha (Is.cons ha (Is.nil ha) rfl) rfl) rfl) rfl) rfl)
  · skip
    refine F_val rfl rfl rfl (O_move rfl rfl) ?_
    refine F_grp 4 [(37, .bool (decide (((z5 = z15) ∧ (z6 = z16)) ∧ (z7 = z17)))), (6, .int .i64 z8), (10, .int .i64 z18)] ?_ ?_
    · rcases Decidable.em ((z5 = z15) ∧ (z6 = z16)) with c22 | c22
      · refine F_know (i := 33) rfl (dec_t c22) ?_
        refine F_gval rfl rfl rfl rfl rfl rfl (O_move rfl rfl) ?_
        refine F_gval rfl rfl rfl rfl rfl rfl (O_move rfl rfl) ?_
        refine F_gval rfl rfl rfl rfl rfl rfl (O_eq rfl rfl rfl) ?_
        refine F_val rfl rfl rfl (O_pickT rfl rfl rfl) ?_
        refine F_know (i := 37) rfl (dec_and_t (q := z7 = z17) c22) ?_
        exact F_grpE (fun a ha => Is.cons ha (Is.cons ha (Is.cons ha (Is.nil ha) rfl) rfl) rfl)
      · refine F_know (i := 33) rfl (dec_f c22) ?_
        refine F_gskip rfl rfl rfl rfl rfl rfl rfl ?_
        refine F_gskip rfl rfl rfl rfl rfl rfl rfl ?_
        refine F_gskip rfl rfl rfl rfl rfl rfl rfl ?_
        refine F_val rfl rfl rfl (O_pickF rfl rfl rfl) ?_
        refine F_know (i := 37) rfl (dec_and_f (q := z7 = z17) c22) ?_
        exact F_grpE (fun a ha => Is.cons ha (Is.cons ha (Is.cons ha (Is.nil ha) rfl) rfl) rfl)
    · skip
      refine F_val rfl rfl rfl (O_move rfl rfl) ?_
      rcases Decidable.em (((z5 = z15) ∧ (z6 = z16)) ∧ (z7 = z17)) with c23 | c23
      · have H := of_pos H c23
        refine F_know (i := 38) rfl (dec_t c23) ?_
        refine F_gval rfl rfl rfl rfl rfl rfl (O_move rfl rfl) ?_
        obtain ⟨z28, h27, H⟩ := of_bind H
        refine F_gcall (xs := [.tmp 39]) rfl rfl rfl rfl rfl rfl rfl Tryd.func11 nm11 rfl rfl ((valiselaw10_num.calls (HS20.give [] rfl (Lent.nil)) h27).mono (fun e w hc => ?_))
        obtain ⟨rfl, HSo⟩ := hc
        refine ⟨.int .i64 z28, rfl, ?_⟩
        have HS30 : Hp S0 w0 w [.rd (some ⟨0, 0, none⟩) (rowC (Eint .i64) T_block_distBits), .rd (some ⟨1, 0, none⟩) (rowC (Eint .i64) T_block_distBase)] := (HS20.back [] HSo rfl).sel [0, 1] rfl
        refine F_gval rfl rfl rfl rfl rfl rfl (O_move rfl rfl) ?_
        refine F_gval rfl rfl rfl rfl rfl rfl (O_eq rfl rfl rfl) ?_
        refine F_val rfl rfl rfl (O_pickT rfl rfl rfl) ?_
        refine F_val rfl rfl rfl (O_assign rfl rfl) ?_
        refine F_nil ?_
        refine L_ret (fun a ha => (post_ret1 ha rfl rfl ?_))
        obtain rfl := Option.some.inj H
        exact ⟨rfl, HS30.sel [] rfl⟩
      · have H := of_neg H c23
        refine F_know (i := 38) rfl (dec_f c23) ?_
        refine F_gskip rfl rfl rfl rfl rfl rfl rfl ?_
        refine F_gskip rfl rfl rfl rfl rfl rfl rfl ?_
        refine F_gskip rfl rfl rfl rfl rfl rfl rfl ?_
        refine F_gskip rfl rfl rfl rfl rfl rfl rfl ?_
        refine F_val rfl rfl rfl (O_pickF rfl rfl rfl) ?_
        refine F_val rfl rfl rfl (O_assign rfl rfl) ?_
        refine F_nil ?_
        refine L_ret (fun a ha => (post_ret1 ha rfl rfl ?_))
        obtain rfl := Option.some.inj H
        exact ⟨rfl, HS20.sel [] rfl⟩

end Go.Proofs.YteckboojmmeecaaDoor
