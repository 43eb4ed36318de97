import Derived.Test.YtpkgngaohnblkaaDoorChecked
import Derived.Test.YtpkgngaohnblkaaDoorGBlockCountsPure
set_option linter.unusedVariables false
set_option linter.unusedSimpArgs false
set_option maxRecDepth 10000
set_option maxHeartbeats 1000000
namespace Go.Proofs.YtpkgngaohnblkaaDoor
open Go Go.V Go.V.Pu
theorem mix : Tryd.prog.follows .mixedOrders = true := by kernel_rfl
theorem info50 : (Tryd.prog.info? 50).map (fun i => (i.zero, i.size, i.bytes)) = some (some (.agg #[.int .i64 0, .int .i64 0, .int .u8 0]), 3, 24) := by kernel_rfl
theorem size50 : (Tryd.prog.info? 50).map (·.size) = some 3 := by kernel_rfl
theorem nm25 : (Tryd.f25.name == "runtime.NumGoroutine") = false := by kernel_rfl
theorem wide50 : Wide Tryd.prog 50 3 := Wide.of Tryd.underlying50 rfl (by kernel_rfl)
theorem zero50 : (Tryd.prog.info? 50).map (·.zero) = some (some (.agg #[.int .i64 0, .int .i64 0, .int .u8 0])) := by kernel_rfl
theorem field50_0 : FieldAt Tryd.prog 50 0 0 := fun w a => by kernel_rfl
theorem flat3 : Flat Tryd.prog 3 := Flat.of Tryd.underlying3 rfl
theorem field50_1 : FieldAt Tryd.prog 50 1 1 := fun w a => by kernel_rfl
theorem field50_2 : FieldAt Tryd.prog 50 2 2 := fun w a => by kernel_rfl
theorem flat5 : Flat Tryd.prog 5 := Flat.of Tryd.underlying5 rfl
theorem nm75 : (Tryd.f75.name == "runtime.NumGoroutine") = false := by kernel_rfl
theorem nm54 : (Tryd.f54.name == "runtime.NumGoroutine") = false := by kernel_rfl
theorem info3 : (Tryd.prog.info? 3).map (fun i => (i.zero, i.size, i.bytes)) = some (some (.int .i64 0), 1, 8) := by kernel_rfl
theorem size3 : (Tryd.prog.info? 3).map (·.size) = some 1 := by kernel_rfl
theorem nm19 : (Tryd.f19.name == "runtime.NumGoroutine") = false := by kernel_rfl
theorem nm21 : (Tryd.f21.name == "runtime.NumGoroutine") = false := by kernel_rfl
theorem nm26 : (Tryd.f26.name == "runtime.NumGoroutine") = false := by kernel_rfl
theorem nm76 : (Tryd.f76.name == "runtime.NumGoroutine") = false := by kernel_rfl
theorem nm55 : (Tryd.f55.name == "runtime.NumGoroutine") = false := by kernel_rfl
theorem nm53 : (Tryd.f53.name == "runtime.NumGoroutine") = false := by kernel_rfl
theorem nm52 : (Tryd.f52.name == "runtime.NumGoroutine") = false := by kernel_rfl
theorem nm20 : (Tryd.f20.name == "runtime.NumGoroutine") = false := by kernel_rfl
theorem nm50 : (Tryd.f50.name == "runtime.NumGoroutine") = false := by kernel_rfl
theorem nm51 : (Tryd.f51.name == "runtime.NumGoroutine") = false := by kernel_rfl
theorem nm22 : (Tryd.f22.name == "runtime.NumGoroutine") = false := by kernel_rfl
theorem nm27 : (Tryd.f27.name == "runtime.NumGoroutine") = false := by kernel_rfl
theorem nm18 : (Tryd.f18.name == "runtime.NumGoroutine") = false := by kernel_rfl
theorem nm28 : (Tryd.f28.name == "runtime.NumGoroutine") = false := by kernel_rfl
theorem stood50 : Tryd.prog.stoodInHeld 50 = false := by kernel_rfl
theorem eqg50 : Tryd.prog.eqGuardType Tryd.prog.depth 50 = false := by kernel_rfl
theorem nm29 : (Tryd.f29.name == "runtime.NumGoroutine") = false := by kernel_rfl
/-! function 25: valise/valiselaw10.list -/
theorem valiselaw10_list.calls {S0 : Nat → Prop} {w0 : World} {A_l_0 : Option Addr} {c_l_0 : Nat} {l_l_0 : List (Int × Int × Int)} {r : List (Int × Int × Int)} (HS0 : Hp S0 w0 w0 [.rd A_l_0 (rowC E_api_Token l_l_0)]) (hc_l_0 : l_l_0.length ≤ c_l_0) (h : valiselaw10_list.f l_l_0 = some r) :
    Calls Tryd.prog 25 ([.slice A_l_0 l_l_0.length c_l_0] : List Value).toArray w0 (fun e w => ∃ (A1 : Option Addr), ∃ (c1 : Nat), e = .returned (.slice A1 r.length c1) ∧ Hp S0 w0 w [.own A1 c1 (rowC E_api_Token r) 50 E_api_Token.sz]) := by
  have H : ((gd ((0 : Int) ≤ (l_l_0.length : Int) ∧ (l_l_0.length : Int) * 24 ≤ 281474976710656) (bnd (List.replicate ((l_l_0.length : Int) : Int).toNat (E_api_Token).def_) fun l5 => bnd (cpy l5 l_l_0) fun l12 => some l12)) : Option (List (Int × Int × Int))) = some r := h
  refine calls_start Tryd.func25 rfl rfl ?_
  refine L_seq ?_
  refine L_region ?_
  refine F_val rfl rfl rfl (O_assign rfl rfl) ?_
  refine F_nil ?_
  refine L_seq ?_
  refine L_region ?_
  refine F_val rfl rfl rfl (O_move rfl rfl) ?_
  refine F_val rfl rfl rfl (O_len rfl rfl Tryd.underlying35) ?_
  obtain ⟨⟨g3, g4⟩, H⟩ := of_gd H
  obtain ⟨l5, h6, H⟩ := of_bnd H
  refine F_makeE (E := E_api_Token) rfl rfl rfl rfl rfl rfl Tryd.underlying35 info50 rfl (by decide) (by decide) g3 g4 HS0 h6 (fun w1 A7 c8 HS2 => ?_)
  have HS2 : Hp S0 w0 w1 [.rd A_l_0 (rowC E_api_Token l_l_0), .own A7 c8 (rowC E_api_Token l5) 50 E_api_Token.sz] := HS2
  refine F_val rfl rfl rfl (O_assign rfl rfl) ?_
  refine F_nil ?_
  refine L_seq ?_
  refine L_region ?_
  refine F_val rfl rfl rfl (O_move rfl rfl) ?_
  refine F_val rfl rfl rfl (O_move rfl rfl) ?_
  obtain ⟨l12, h13, H⟩ := of_bnd H
  refine F_copyE (E := E_api_Token) (xs := l5) (ys := l_l_0) (i := 1) rfl rfl rfl rfl Tryd.underlying35 size50 rfl rfl HS2 rfl (HS2.cells_rd (i := 0) rfl) h13 (fun w10 HS11 => ?_)
  have e14 : l5.length = l12.length := by rw [← h13, cpy_length]
  refine F_know (i := 3) rfl (congrArg (fun n => Value.slice A7 n c8) e14) ?_
  have HS11 : Hp S0 w0 w10 [.rd A_l_0 (rowC E_api_Token l_l_0), .own A7 c8 (rowC E_api_Token l12) 50 E_api_Token.sz] := HS11
  refine F_nil ?_
  refine L_seq ?_
  refine L_region ?_
  refine F_val rfl rfl rfl (O_move rfl rfl) ?_
  refine F_val rfl rfl rfl (O_assign rfl rfl) ?_
  refine F_nil ?_
  refine L_ret (fun a ha => (post_ret1 ha rfl rfl ?_))
  obtain rfl := Option.some.inj H
  exact ⟨_, _, rfl, HS11.sel [1] rfl⟩

/-! function 75: valise/block.sound -/
theorem block_sound.calls {S0 : Nat → Prop} {w0 : World} {t_0_Len : Int} {t_0_Dist : Int} {t_0_Lit : Int} {r : Bool} (HS0 : Hp S0 w0 w0 []) (h : block_sound.f t_0_Len t_0_Dist t_0_Lit = some r) :
    Calls Tryd.prog 75 ([.agg #[.int .i64 t_0_Len, .int .i64 t_0_Dist, .int .u8 t_0_Lit]] : List Value).toArray w0 (fun e w => e = .returned (.bool r) ∧ Hp S0 w0 w []) := by
  have H : ((if t_0_Len = 0 then (some (decide (t_0_Dist = 0))) else (some (decide (((((t_0_Lit = 0) ∧ (3 ≤ t_0_Len)) ∧ (t_0_Len ≤ 258)) ∧ (1 ≤ t_0_Dist)) ∧ (t_0_Dist ≤ 32768))))) : Option (Bool)) = some r := h
  refine calls_start Tryd.func75 rfl rfl ?_
  refine L_seq ?_
  refine L_region ?_
  refine F_box (C := [.int .i64 t_0_Len, .int .i64 t_0_Dist, .int .u8 t_0_Lit]) rfl rfl rfl rfl rfl rfl HS0 (fun w1 g3 HS2 => ?_)
  have HS2 : Hp S0 w0 w1 [.box g3 [.int .i64 t_0_Len, .int .i64 t_0_Dist, .int .u8 t_0_Lit] 50] := HS2
  refine F_val rfl rfl rfl (O_assign rfl rfl) ?_
  refine F_nil ?_
  refine L_seq ?_
  refine L_seq ?_
  refine L_region ?_
  refine F_val rfl rfl rfl (O_fieldB rfl rfl field50_0) ?_
  refine F_val rfl rfl rfl (O_loadB rfl rfl flat3 (HS2.cells_box (i := 0) rfl) rfl) ?_
  refine F_val rfl rfl rfl (O_eq rfl rfl rfl) ?_
  refine F_nil ?_
  refine L_condP rfl (fun c5 => ?_) (fun c5 => ?_)
  · have H := of_pos H c5
    refine L_seq ?_
    refine L_region ?_
    refine F_val rfl rfl rfl (O_fieldB rfl rfl field50_1) ?_
    refine F_val rfl rfl rfl (O_loadB rfl rfl flat3 (HS2.cells_box (i := 0) rfl) rfl) ?_
    refine F_val rfl rfl rfl (O_eq rfl rfl rfl) ?_
    refine F_val rfl rfl rfl (O_assign rfl rfl) ?_
    refine F_nil ?_
    refine L_ret (fun a ha => (post_ret1 ha rfl rfl ?_))
    obtain rfl := Option.some.inj H
    exact ⟨rfl, HS2.sel [] rfl⟩
  · have H := of_neg H c5
    refine L_skip ?_
    refine L_seq ?_
    refine L_region ?_
    refine F_val rfl rfl rfl (O_fieldB rfl rfl field50_2) ?_
    refine F_val rfl rfl rfl (O_loadB rfl rfl flat5 (HS2.cells_box (i := 0) rfl) rfl) ?_
    refine F_val rfl rfl rfl (O_eq rfl rfl rfl) ?_
    refine F_val rfl rfl rfl (O_move rfl rfl) ?_
    refine F_grp 4 [(16, .bool (decide ((t_0_Lit = 0) ∧ (3 ≤ t_0_Len)))), (1, .pointer (some ⟨g3, 0, none⟩))] ?_ ?_
    · rcases Decidable.em (t_0_Lit = 0) with c9 | c9
      · refine F_know (i := 12) rfl (dec_t c9) ?_
        refine F_gval rfl rfl rfl rfl rfl rfl (O_fieldB rfl rfl field50_0) ?_
        refine F_gval rfl rfl rfl rfl rfl rfl (O_loadB rfl rfl flat3 (HS2.cells_box (i := 0) rfl) rfl) ?_
        refine F_gval rfl rfl rfl rfl rfl rfl (O_ge rfl rfl rfl) ?_
        refine F_val rfl rfl rfl (O_pickT rfl rfl rfl) ?_
        refine F_know (i := 16) rfl (dec_and_t (q := 3 ≤ t_0_Len) c9) ?_
        exact F_grpE (fun a ha => Is.cons ha (Is.cons ha (Is.nil ha) rfl) rfl)
      · refine F_know (i := 12) rfl (dec_f c9) ?_
        refine F_gskip rfl rfl rfl rfl rfl rfl rfl ?_
        refine F_gskip rfl rfl rfl rfl rfl rfl rfl ?_
        refine F_gskip rfl rfl rfl rfl rfl rfl rfl ?_
        refine F_val rfl rfl rfl (O_pickF rfl rfl rfl) ?_
        refine F_know (i := 16) rfl (dec_and_f (q := 3 ≤ t_0_Len) c9) ?_
        exact F_grpE (fun a ha => Is.cons ha (Is.cons ha (Is.nil ha) rfl) rfl)
    · skip
      refine F_val rfl rfl rfl (O_move rfl rfl) ?_
      refine F_grp 4 [(21, .bool (decide (((t_0_Lit = 0) ∧ (3 ≤ t_0_Len)) ∧ (t_0_Len ≤ 258)))), (1, .pointer (some ⟨g3, 0, none⟩))] ?_ ?_
      · rcases Decidable.em ((t_0_Lit = 0) ∧ (3 ≤ t_0_Len)) with c13 | c13
        · refine F_know (i := 17) rfl (dec_t c13) ?_
          refine F_gval rfl rfl rfl rfl rfl rfl (O_fieldB rfl rfl field50_0) ?_
          refine F_gval rfl rfl rfl rfl rfl rfl (O_loadB rfl rfl flat3 (HS2.cells_box (i := 0) rfl) rfl) ?_
          refine F_gval rfl rfl rfl rfl rfl rfl (O_le rfl rfl rfl) ?_
          refine F_val rfl rfl rfl (O_pickT rfl rfl rfl) ?_
          refine F_know (i := 21) rfl (dec_and_t (q := t_0_Len ≤ 258) c13) ?_
          exact F_grpE (fun a ha => Is.cons ha (Is.cons ha (Is.nil ha) rfl) rfl)
        · refine F_know (i := 17) rfl (dec_f c13) ?_
          refine F_gskip rfl rfl rfl rfl rfl rfl rfl ?_
          refine F_gskip rfl rfl rfl rfl rfl rfl rfl ?_
          refine F_gskip rfl rfl rfl rfl rfl rfl rfl ?_
          refine F_val rfl rfl rfl (O_pickF rfl rfl rfl) ?_
          refine F_know (i := 21) rfl (dec_and_f (q := t_0_Len ≤ 258) c13) ?_
          exact F_grpE (fun a ha => Is.cons ha (Is.cons ha (Is.nil ha) rfl) rfl)
      · skip
        refine F_val rfl rfl rfl (O_move rfl rfl) ?_
        refine F_grp 4 [(26, .bool (decide ((((t_0_Lit = 0) ∧ (3 ≤ t_0_Len)) ∧ (t_0_Len ≤ 258)) ∧ (1 ≤ t_0_Dist)))), (1, .pointer (some ⟨g3, 0, none⟩))] ?_ ?_
        · rcases Decidable.em (((t_0_Lit = 0) ∧ (3 ≤ t_0_Len)) ∧ (t_0_Len ≤ 258)) with c17 | c17
          · refine F_know (i := 22) rfl (dec_t c17) ?_
            refine F_gval rfl rfl rfl rfl rfl rfl (O_fieldB rfl rfl field50_1) ?_
            refine F_gval rfl rfl rfl rfl rfl rfl (O_loadB rfl rfl flat3 (HS2.cells_box (i := 0) rfl) rfl) ?_
            refine F_gval rfl rfl rfl rfl rfl rfl (O_ge rfl rfl rfl) ?_
            refine F_val rfl rfl rfl (O_pickT rfl rfl rfl) ?_
            refine F_know (i := 26) rfl (dec_and_t (q := 1 ≤ t_0_Dist) c17) ?_
            exact F_grpE (fun a ha => Is.cons ha (Is.cons ha (Is.nil ha) rfl) rfl)
          · refine F_know (i := 22) rfl (dec_f c17) ?_
            refine F_gskip rfl rfl rfl rfl rfl rfl rfl ?_
            refine F_gskip rfl rfl rfl rfl rfl rfl rfl ?_
            refine F_gskip rfl rfl rfl rfl rfl rfl rfl ?_
            refine F_val rfl rfl rfl (O_pickF rfl rfl rfl) ?_
            refine F_know (i := 26) rfl (dec_and_f (q := 1 ≤ t_0_Dist) c17) ?_
            exact F_grpE (fun a ha => Is.cons ha (Is.cons ha (Is.nil ha) rfl) rfl)
        · skip
          refine F_val rfl rfl rfl (O_move rfl rfl) ?_
          refine F_grp 4 [(31, .bool (decide (((((t_0_Lit = 0) ∧ (3 ≤ t_0_Len)) ∧ (t_0_Len ≤ 258)) ∧ (1 ≤ t_0_Dist)) ∧ (t_0_Dist ≤ 32768))))] ?_ ?_
          · rcases Decidable.em ((((t_0_Lit = 0) ∧ (3 ≤ t_0_Len)) ∧ (t_0_Len ≤ 258)) ∧ (1 ≤ t_0_Dist)) with c21 | c21
            · refine F_know (i := 27) rfl (dec_t c21) ?_
              refine F_gval rfl rfl rfl rfl rfl rfl (O_fieldB rfl rfl field50_1) ?_
              refine F_gval rfl rfl rfl rfl rfl rfl (O_loadB rfl rfl flat3 (HS2.cells_box (i := 0) rfl) rfl) ?_
              refine F_gval rfl rfl rfl rfl rfl rfl (O_le rfl rfl rfl) ?_
              refine F_val rfl rfl rfl (O_pickT rfl rfl rfl) ?_
              refine F_know (i := 31) rfl (dec_and_t (q := t_0_Dist ≤ 32768) c21) ?_
              exact F_grpE (fun a ha => Is.cons ha (Is.nil ha) rfl)
            · refine F_know (i := 27) rfl (dec_f c21) ?_
              refine F_gskip rfl rfl rfl rfl rfl rfl rfl ?_
              refine F_gskip rfl rfl rfl rfl rfl rfl rfl ?_
              refine F_gskip rfl rfl rfl rfl rfl rfl rfl ?_
              refine F_val rfl rfl rfl (O_pickF rfl rfl rfl) ?_
              refine F_know (i := 31) rfl (dec_and_f (q := t_0_Dist ≤ 32768) c21) ?_
              exact F_grpE (fun a ha => Is.cons ha (Is.nil ha) rfl)
          · skip
            refine F_val rfl rfl rfl (O_assign rfl rfl) ?_
            refine F_nil ?_
            refine L_ret (fun a ha => (post_ret1 ha rfl rfl ?_))
            obtain rfl := Option.some.inj H
            exact ⟨rfl, HS2.sel [] rfl⟩

/-! function 54: valise/block.said -/
theorem block_said.calls {S0 : Nat → Prop} {w0 : World} {A_tokens_0 : Option Addr} {c_tokens_0 : Nat} {l_tokens_0 : List (Int × Int × Int)} {r : Int × Bool} (HS0 : Hp S0 w0 w0 [.rd A_tokens_0 (rowC E_api_Token l_tokens_0)]) (hc_tokens_0 : l_tokens_0.length ≤ c_tokens_0) (h : block_said.f l_tokens_0 = some r) :
    Calls Tryd.prog 54 ([.slice A_tokens_0 l_tokens_0.length c_tokens_0] : List Value).toArray w0 (fun e w => e = .returned (.tuple #[.int .i64 r.1, .bool r.2]) ∧ Hp S0 w0 w []) := by
  have H : (((block_said.l1 FU 0 0 l_tokens_0).bind fun (yj1 : Sum (Int × Bool) (Int)) => onR yj1 (fun r => some r) fun n_67 => some (n_67, true)) : Option (Int × Bool)) = some r := h
  refine calls_start Tryd.func54 rfl rfl ?_
  refine L_seq ?_
  refine L_region ?_
  refine F_val rfl rfl rfl (O_assign rfl rfl) ?_
  refine F_val rfl rfl rfl (O_assign rfl rfl) ?_
  refine F_nil ?_
  refine L_seq ?_
  refine L_region ?_
  refine F_val rfl rfl rfl (O_assign rfl rfl) ?_
  refine F_nil ?_
  refine L_seq ?_
  refine L_seq ?_
  refine L_region ?_
  refine F_val rfl rfl rfl (O_move rfl rfl) ?_
  refine F_val rfl rfl rfl (O_len rfl rfl Tryd.underlying35) ?_
  refine F_val rfl rfl rfl (O_move rfl rfl) ?_
  refine F_nil ?_
  obtain ⟨yj1, Hyj1, H⟩ := of_bind H
  refine L_join (fun a w => ∃ (n_67 : Int), yj1 = Sum.inr n_67 ∧ Is Tryd.f54.ntmps a [(4, .int .i64 n_67)] ∧ Hp S0 w0 w [.rd A_tokens_0 (rowC E_api_Token l_tokens_0)]) (fun Qj1 hNj1 hOj1 => ?_) (fun a w hR => ?_)
  · have HOj1 := H
    have H := Hyj1
    refine L_blk (fun Qb68 hNb68 hXb68 hOb68 => ?_)
    refine L_lp (fun k a w => ∃ (n_110 : Int), ∃ (t111 : Int), Is Tryd.f54.ntmps a [(4, .int .i64 n_110), (7, .slice A_tokens_0 l_tokens_0.length c_tokens_0), (8, .int .i64 (l_tokens_0.length : Int)), (9, .int .i64 t111)] ∧ Hp S0 w0 w [.rd A_tokens_0 (rowC E_api_Token l_tokens_0)] ∧ block_said.l1 k n_110 t111 l_tokens_0 = some yj1) FU (fun a ha => ⟨_, _, Is.cons ha (Is.cons ha (Is.cons ha (Is.cons ha (Is.nil ha) rfl) rfl) rfl) rfl, HS0.sel [0] rfl, H⟩) (fun kp109 a w112 hI Qp109 hNp109 hOp109 => ?_)
    obtain ⟨n_110, t111, ha, HS113, HAp109⟩ := hI
    cases kp109 with
    | zero => cases (show (none : Option _) = some _ from HAp109)
    | succ kp109 =>
      have H := (block_said.l1.eq_2 ..).symm.trans HAp109
      refine wpLF_app ?_ ha
      refine L_seq ?_
      refine L_region ?_
      refine F_val rfl rfl rfl (O_lt rfl rfl rfl) ?_
      refine F_nil ?_
      refine L_seq ?_
      refine L_condP rfl (fun c114 => ?_) (fun c114 => ?_)
      · have H := of_pos H c114
        refine L_skip ?_
        refine L_seq ?_
        refine L_blk (fun Q115 hN115 hX115 hO115 => ?_)
        refine L_seq ?_
        refine L_region ?_
        obtain ⟨⟨g116, g117⟩, H⟩ := of_gd H
        refine F_val rfl rfl rfl (O_idx rfl rfl rfl Tryd.underlying35 size50 g116 g117 (Cells.isA (HS113.cells_rd (i := 0) rfl) (rowC_ne (E := E_api_Token) g116 g117 (by decide)))) ?_
        refine F_val rfl rfl rfl (O_loadEl (E := E_api_Token) rfl rfl wide50 (HS113.cells_rd (i := 0) rfl) g116 g117 (by decide)) ?_
        refine F_alloc (C := [.int .i64 0, .int .i64 0, .int .u8 0]) rfl rfl rfl rfl zero50 rfl HS113 (fun w118 g120 HS119 => ?_)
        have HS119 : Hp S0 w0 w118 [.rd A_tokens_0 (rowC E_api_Token l_tokens_0), .box g120 [.int .i64 0, .int .i64 0, .int .u8 0] 50] := HS119
        refine F_stB 1 ([.int .i64 ((rdx E_api_Token l_tokens_0 t111).1), .int .i64 ((rdx E_api_Token l_tokens_0 t111).2.1), .int .u8 ((rdx E_api_Token l_tokens_0 t111).2.2)]) rfl rfl rfl rfl rfl size50 HS119 rfl rfl rfl rfl rfl (fun w122 HS123 => ?_)
        have HS123 : Hp S0 w0 w122 [.rd A_tokens_0 (rowC E_api_Token l_tokens_0), .box g120 [.int .i64 ((rdx E_api_Token l_tokens_0 t111).1), .int .i64 ((rdx E_api_Token l_tokens_0 t111).2.1), .int .u8 ((rdx E_api_Token l_tokens_0 t111).2.2)] 50] := HS123
        refine F_nil ?_
        refine L_seq ?_
        refine L_seq ?_
        refine L_region ?_
        refine F_val rfl rfl rfl (O_loadWB' (k := 0) (vs := [.int .i64 ((rdx E_api_Token l_tokens_0 t111).1), .int .i64 ((rdx E_api_Token l_tokens_0 t111).2.1), .int .u8 ((rdx E_api_Token l_tokens_0 t111).2.2)]) rfl rfl wide50 (HS123.cells_box (i := 1) rfl) rfl rfl (by simp)) ?_
        obtain ⟨z126, h125, H⟩ := of_bind H
        refine F_qcall (v := .bool z126) (xs := [.tmp 13]) rfl rfl rfl rfl Tryd.func75 nm75 rfl rfl ((block_sound.calls (HS123.give [] rfl (Lent.nil)) h125).mono (fun e w hc => ?_)) (fun w127 hw128 => ?_)
        · obtain ⟨rfl, h⟩ := hc
          exact ⟨rfl, h.chg0⟩
        have HS129 := HS123.keep hw128
        refine F_val rfl rfl rfl (O_notb rfl rfl) ?_
        refine F_nil ?_
        refine L_cond rfl (fun c130 => ?_) (fun c130 => ?_)
        · have H := of_pos H c130
          refine L_seq ?_
          refine L_region ?_
          refine F_val rfl rfl rfl (O_assign rfl rfl) ?_
          refine F_val rfl rfl rfl (O_assign rfl rfl) ?_
          refine F_nil ?_
          refine L_ret (fun a ha => (hO115 .ret a _ rfl (hOp109 .ret a _ rfl (hOb68 .ret a _ rfl (hOj1 .ret a _ rfl (post_ret2 ha rfl rfl rfl ?_))))))
          obtain rfl := Option.some.inj H
          obtain rfl := Option.some.inj (show (some (0, false) : Option (Int × Bool)) = some _ from HOj1)
          exact ⟨rfl, HS129.sel [] rfl⟩
        · have H := of_neg H (by rw [c130]; exact Bool.false_ne_true)
          refine L_skip ?_
          refine L_region ?_
          refine F_val rfl rfl rfl (O_move rfl rfl) ?_
          refine F_val rfl rfl rfl (O_fieldB rfl rfl field50_0) ?_
          refine F_val rfl rfl rfl (O_loadB rfl rfl flat3 (HS129.cells_box (i := 1) rfl) rfl) ?_
          refine F_val rfl rfl rfl (O_max rfl rfl rfl) ?_
          refine F_val rfl rfl rfl (O_add rfl rfl rfl) ?_
          obtain ⟨x131, h132, H⟩ := of_bnd H
          refine F_val rfl rfl rfl (O_assign' rfl rfl (congrArg (Value.int .i64) h132)) ?_
          refine F_nil ?_
          refine L_endB hN115 ?_
          refine L_region ?_
          refine F_val rfl rfl rfl (O_add rfl rfl rfl) ?_
          refine F_val rfl rfl rfl (O_move rfl rfl) ?_
          refine F_nil ?_
          refine L_nil (fun a ha => hNp109 _ a _ (Nat.lt_succ_self _) ⟨_, _, Is.cons ha (Is.cons ha (Is.cons ha (Is.cons ha (Is.nil ha) rfl) rfl) rfl) rfl, HS129.sel [0] rfl, H⟩)
      · have H := of_neg H c114
        refine L_exitB (fun a w h => hOp109 (.exit 0) a w rfl (hXb68 a w h)) ?_
        refine L_nil (fun a ha => hNj1 a _ ⟨_, (Option.some.inj H).symm, Is.cons ha (Is.nil ha) rfl, HS113.sel [0] rfl⟩)
  · obtain ⟨n_67, rfl, ha, HS134⟩ := hR
    refine wpLF_app ?_ ha
    have H := (onR_inr _ _ _).symm.trans H
    refine L_seq ?_
    refine L_region ?_
    refine F_val rfl rfl rfl (O_move rfl rfl) ?_
    refine F_val rfl rfl rfl (O_assign rfl rfl) ?_
    refine F_val rfl rfl rfl (O_assign rfl rfl) ?_
    refine F_nil ?_
    refine L_ret (fun a ha => (post_ret2 ha rfl rfl rfl ?_))
    obtain rfl := Option.some.inj H
    exact ⟨rfl, HS134.sel [] rfl⟩

/-! function 19: valise/block.LengthSymbol -/
theorem block_LengthSymbol.calls {S0 : Nat → Prop} {w0 : World} {length_0 : Int} {r : Int × Int × Int × Int} (HS0 : Hp S0 w0 w0 [.rd (some ⟨2, 0, none⟩) (rowC (Eint .i64) T_block_lengthBase), .rd (some ⟨3, 0, none⟩) (rowC (Eint .i64) T_block_lengthBits)]) (h : block_LengthSymbol.f length_0 = some r) :
    Calls Tryd.prog 19 ([.int .i64 length_0] : List Value).toArray w0 (fun e w => e = .returned (.tuple #[.int .i64 r.1, .int .i64 r.2.1, .int .i64 r.2.2.1, .int .i64 r.2.2.2]) ∧ Hp S0 w0 w []) := by
  have H : ((if (length_0 < 3) ∨ (258 < length_0) then (some (0, 0, 0, 1)) else ((block_LengthSymbol.l1 FU 28 length_0).bind fun i_29 => gd ((0 : Int) ≤ i_29 ∧ i_29 < (29 : Int)) (bnd (IntKind.i64.wrap (257 + i_29)) fun x56 => bnd (rd T_block_lengthBits i_29) fun x58 => bnd (IntKind.i64.wrap (length_0 - (rd T_block_lengthBase i_29))) fun x60 => some (x56, x58, x60, 0)))) : Option (Int × Int × Int × Int)) = some r := h
  refine calls_start Tryd.func19 rfl rfl ?_
  refine L_seq ?_
  refine L_region ?_
  refine F_val rfl rfl rfl (O_assign rfl rfl) ?_
  refine F_val rfl rfl rfl (O_assign rfl rfl) ?_
  refine F_val rfl rfl rfl (O_assign rfl rfl) ?_
  refine F_val rfl rfl rfl (O_assign rfl rfl) ?_
  refine F_nil ?_
  refine L_seq ?_
  refine L_seq ?_
  refine L_region ?_
  refine F_val rfl rfl rfl (O_move rfl rfl) ?_
  refine F_val rfl rfl rfl (O_lt rfl rfl rfl) ?_
  refine F_val rfl rfl rfl (O_move rfl rfl) ?_
  refine F_grp 3 [(12, .bool (decide ((length_0 < 3) ∨ (258 < length_0)))), (0, .int .i64 length_0)] ?_ ?_
  · rcases Decidable.em (length_0 < 3) with c4 | c4
    · refine F_know (i := 9) rfl (dec_t c4) ?_
      refine F_gskip rfl rfl rfl rfl rfl rfl rfl ?_
      refine F_gskip rfl rfl rfl rfl rfl rfl rfl ?_
      refine F_val rfl rfl rfl (O_pickT rfl rfl rfl) ?_
      refine F_know (i := 12) rfl (dec_or_t (q := 258 < length_0) c4) ?_
      exact F_grpE (fun a ha => Is.cons ha (Is.cons ha (Is.nil ha) rfl) rfl)
    · refine F_know (i := 9) rfl (dec_f c4) ?_
      refine F_gval rfl rfl rfl rfl rfl rfl (O_move rfl rfl) ?_
      refine F_gval rfl rfl rfl rfl rfl rfl (O_gt rfl rfl rfl) ?_
      refine F_val rfl rfl rfl (O_pickF rfl rfl rfl) ?_
      refine F_know (i := 12) rfl (dec_or_f (q := 258 < length_0) c4) ?_
      exact F_grpE (fun a ha => Is.cons ha (Is.cons ha (Is.nil ha) rfl) rfl)
  · skip
    refine F_nil ?_
    refine L_condP rfl (fun c5 => ?_) (fun c5 => ?_)
    · have H := of_pos H c5
      refine L_seq ?_
      refine L_region ?_
      refine F_val rfl rfl rfl (O_assign rfl rfl) ?_
      refine F_val rfl rfl rfl (O_assign rfl rfl) ?_
      refine F_val rfl rfl rfl (O_assign rfl rfl) ?_
      refine F_val rfl rfl rfl (O_assign rfl rfl) ?_
      refine F_nil ?_
      refine L_ret (fun a ha => (post_ret4 ha rfl rfl rfl rfl rfl ?_))
      obtain rfl := Option.some.inj H
      exact ⟨rfl, HS0.sel [] rfl⟩
    · have H := of_neg H c5
      refine L_skip ?_
      refine L_seq ?_
      refine L_region ?_
      refine F_val rfl rfl rfl (O_assign rfl rfl) ?_
      refine F_nil ?_
      refine L_seq ?_
      obtain ⟨yj6, Hyj6, H⟩ := of_bind H
      refine L_join (fun a w => ∃ (i_29 : Int), yj6 = i_29 ∧ Is Tryd.f19.ntmps a [(0, .int .i64 length_0), (6, .int .i64 i_29)] ∧ Hp S0 w0 w [.rd (some ⟨2, 0, none⟩) (rowC (Eint .i64) T_block_lengthBase), .rd (some ⟨3, 0, none⟩) (rowC (Eint .i64) T_block_lengthBits)]) (fun Qj6 hNj6 hOj6 => ?_) (fun a w hR => ?_)
      · skip
        have H := Hyj6
        refine L_blk (fun Qb30 hNb30 hXb30 hOb30 => ?_)
        refine L_lp (fun k a w => ∃ (i_43 : Int), Is Tryd.f19.ntmps a [(0, .int .i64 length_0), (6, .int .i64 i_43)] ∧ Hp S0 w0 w [.rd (some ⟨2, 0, none⟩) (rowC (Eint .i64) T_block_lengthBase), .rd (some ⟨3, 0, none⟩) (rowC (Eint .i64) T_block_lengthBits)] ∧ block_LengthSymbol.l1 k i_43 length_0 = some yj6) FU (fun a ha => ⟨_, Is.cons ha (Is.cons ha (Is.nil ha) rfl) rfl, HS0.sel [0, 1] rfl, H⟩) (fun kp42 a w44 hI Qp42 hNp42 hOp42 => ?_)
        obtain ⟨i_43, ha, HS45, HAp42⟩ := hI
        cases kp42 with
        | zero => cases (show (none : Option _) = some _ from HAp42)
        | succ kp42 =>
          have H := (block_LengthSymbol.l1.eq_2 ..).symm.trans HAp42
          refine wpLF_app ?_ ha
          refine L_seq ?_
          refine L_seq ?_
          refine L_region ?_
          refine F_val rfl rfl rfl (O_move rfl rfl) ?_
          obtain ⟨⟨g46, g47⟩, H⟩ := of_gd H
          refine F_val rfl rfl rfl (O_idxA rfl rfl rfl Tryd.underlying83 size3 g46 g47) ?_
          refine F_val rfl rfl rfl (O_loadB rfl rfl flat3 (HS45.cells_rd (i := 0) rfl) (at0 (int_cell g46 (arr_lt T_block_lengthBase_len g47)))) ?_
          refine F_val rfl rfl rfl (O_move rfl rfl) ?_
          refine F_val rfl rfl rfl (O_gt rfl rfl rfl) ?_
          refine F_nil ?_
          refine L_condP rfl (fun c48 => ?_) (fun c48 => ?_)
          · have H := of_pos H c48
            refine L_skip ?_
            refine L_blk (fun Q49 hN49 hX49 hO49 => ?_)
            refine L_region ?_
            refine F_val rfl rfl rfl (O_move rfl rfl) ?_
            refine F_val rfl rfl rfl (O_sub rfl rfl rfl) ?_
            obtain ⟨x50, h51, H⟩ := of_bnd H
            refine F_val rfl rfl rfl (O_assign' rfl rfl (congrArg (Value.int .i64) h51)) ?_
            refine F_nil ?_
            refine L_endB hN49 ?_
            refine L_nil (fun a ha => hNp42 _ a _ (Nat.lt_succ_self _) ⟨_, Is.cons ha (Is.cons ha (Is.nil ha) rfl) rfl, HS45.sel [0, 1] rfl, H⟩)
          · have H := of_neg H c48
            refine L_exitB (fun a w h => hOp42 (.exit 0) a w rfl (hXb30 a w h)) ?_
            refine L_nil (fun a ha => hNj6 a _ ⟨_, (Option.some.inj H).symm, Is.cons ha (Is.cons ha (Is.nil ha) rfl) rfl, HS45.sel [0, 1] rfl⟩)
      · obtain ⟨i_29, ej, ha, HS53⟩ := hR
        obtain rfl := ej.symm
        refine wpLF_app ?_ ha
        refine L_seq ?_
        refine L_quiet mix (by kernel_rfl) ?_
        refine Q_val rfl rfl rfl (fun wq hq => O_move rfl rfl) ?_
        refine Q_val rfl rfl rfl (fun wq hq => O_add rfl rfl rfl) ?_
        refine Q_val rfl rfl rfl (fun wq hq => O_move rfl rfl) ?_
        obtain ⟨⟨g54, g55⟩, H⟩ := of_gd H
        refine Q_val rfl rfl rfl (fun wq hq => O_idxA rfl rfl rfl Tryd.underlying83 size3 g54 g55) ?_
        refine Q_val rfl rfl rfl (fun wq hq => O_loadB rfl rfl flat3 ((HS53.keep hq).cells_rd (i := 1) rfl) (at0 (int_cell g54 (arr_lt T_block_lengthBits_len g55)))) ?_
        refine Q_val rfl rfl rfl (fun wq hq => O_move rfl rfl) ?_
        refine Q_val rfl rfl rfl (fun wq hq => O_move rfl rfl) ?_
        refine Q_val rfl rfl rfl (fun wq hq => O_idxA rfl rfl rfl Tryd.underlying83 size3 g54 g55) ?_
        refine Q_val rfl rfl rfl (fun wq hq => O_loadB rfl rfl flat3 ((HS53.keep hq).cells_rd (i := 0) rfl) (at0 (int_cell g54 (arr_lt T_block_lengthBase_len g55)))) ?_
        refine Q_val rfl rfl rfl (fun wq hq => O_sub rfl rfl rfl) ?_
        obtain ⟨x56, h57, H⟩ := of_bnd H
        refine Q_val rfl rfl rfl (fun wq hq => O_assign' rfl rfl (congrArg (Value.int .i64) h57)) ?_
        obtain ⟨x58, h59, H⟩ := of_bnd H
        refine Q_val rfl rfl rfl (fun wq hq => O_assign' rfl rfl (congrArg (Value.int .i64) h59)) ?_
        obtain ⟨x60, h61, H⟩ := of_bnd H
        refine Q_val rfl rfl rfl (fun wq hq => O_assign' rfl rfl (congrArg (Value.int .i64) h61)) ?_
        refine Q_val rfl rfl rfl (fun wq hq => O_assign rfl rfl) ?_
        refine Q_nil (fun w62 hw63 => ?_)
        have HS64 := HS53.keep hw63
        refine L_ret (fun a ha => (post_ret4 ha rfl rfl rfl rfl rfl ?_))
        obtain rfl := Option.some.inj H
        exact ⟨rfl, HS64.sel [] rfl⟩

/-! function 21: valise/block.DistSymbol -/
theorem block_DistSymbol.calls {S0 : Nat → Prop} {w0 : World} {dist_0 : Int} {r : Int × Int × Int × Int} (HS0 : Hp S0 w0 w0 [.rd (some ⟨0, 0, none⟩) (rowC (Eint .i64) T_block_distBits), .rd (some ⟨1, 0, none⟩) (rowC (Eint .i64) T_block_distBase)]) (h : block_DistSymbol.f dist_0 = some r) :
    Calls Tryd.prog 21 ([.int .i64 dist_0] : List Value).toArray w0 (fun e w => e = .returned (.tuple #[.int .i64 r.1, .int .i64 r.2.1, .int .i64 r.2.2.1, .int .i64 r.2.2.2]) ∧ Hp S0 w0 w []) := by
  have H : ((if (dist_0 < 1) ∨ (32768 < dist_0) then (some (0, 0, 0, 1)) else ((block_DistSymbol.l1 FU 29 dist_0).bind fun i_29 => gd ((0 : Int) ≤ i_29 ∧ i_29 < (30 : Int)) (bnd (rd T_block_distBits i_29) fun x56 => bnd (IntKind.i64.wrap (dist_0 - (rd T_block_distBase i_29))) fun x58 => some (i_29, x56, x58, 0)))) : Option (Int × Int × Int × Int)) = some r := h
  refine calls_start Tryd.func21 rfl rfl ?_
  refine L_seq ?_
  refine L_region ?_
  refine F_val rfl rfl rfl (O_assign rfl rfl) ?_
  refine F_val rfl rfl rfl (O_assign rfl rfl) ?_
  refine F_val rfl rfl rfl (O_assign rfl rfl) ?_
  refine F_val rfl rfl rfl (O_assign rfl rfl) ?_
  refine F_nil ?_
  refine L_seq ?_
  refine L_seq ?_
  refine L_region ?_
  refine F_val rfl rfl rfl (O_move rfl rfl) ?_
  refine F_val rfl rfl rfl (O_lt rfl rfl rfl) ?_
  refine F_val rfl rfl rfl (O_move rfl rfl) ?_
  refine F_grp 3 [(12, .bool (decide ((dist_0 < 1) ∨ (32768 < dist_0)))), (0, .int .i64 dist_0)] ?_ ?_
  · rcases Decidable.em (dist_0 < 1) with c4 | c4
    · refine F_know (i := 9) rfl (dec_t c4) ?_
      refine F_gskip rfl rfl rfl rfl rfl rfl rfl ?_
      refine F_gskip rfl rfl rfl rfl rfl rfl rfl ?_
      refine F_val rfl rfl rfl (O_pickT rfl rfl rfl) ?_
      refine F_know (i := 12) rfl (dec_or_t (q := 32768 < dist_0) c4) ?_
      exact F_grpE (fun a ha => Is.cons ha (Is.cons ha (Is.nil ha) rfl) rfl)
    · refine F_know (i := 9) rfl (dec_f c4) ?_
      refine F_gval rfl rfl rfl rfl rfl rfl (O_move rfl rfl) ?_
      refine F_gval rfl rfl rfl rfl rfl rfl (O_gt rfl rfl rfl) ?_
      refine F_val rfl rfl rfl (O_pickF rfl rfl rfl) ?_
      refine F_know (i := 12) rfl (dec_or_f (q := 32768 < dist_0) c4) ?_
      exact F_grpE (fun a ha => Is.cons ha (Is.cons ha (Is.nil ha) rfl) rfl)
  · skip
    refine F_nil ?_
    refine L_condP rfl (fun c5 => ?_) (fun c5 => ?_)
    · have H := of_pos H c5
      refine L_seq ?_
      refine L_region ?_
      refine F_val rfl rfl rfl (O_assign rfl rfl) ?_
      refine F_val rfl rfl rfl (O_assign rfl rfl) ?_
      refine F_val rfl rfl rfl (O_assign rfl rfl) ?_
      refine F_val rfl rfl rfl (O_assign rfl rfl) ?_
      refine F_nil ?_
      refine L_ret (fun a ha => (post_ret4 ha rfl rfl rfl rfl rfl ?_))
      obtain rfl := Option.some.inj H
      exact ⟨rfl, HS0.sel [] rfl⟩
    · have H := of_neg H c5
      refine L_skip ?_
      refine L_seq ?_
      refine L_region ?_
      refine F_val rfl rfl rfl (O_assign rfl rfl) ?_
      refine F_nil ?_
      refine L_seq ?_
      obtain ⟨yj6, Hyj6, H⟩ := of_bind H
      refine L_join (fun a w => ∃ (i_29 : Int), yj6 = i_29 ∧ Is Tryd.f21.ntmps a [(0, .int .i64 dist_0), (6, .int .i64 i_29)] ∧ Hp S0 w0 w [.rd (some ⟨0, 0, none⟩) (rowC (Eint .i64) T_block_distBits), .rd (some ⟨1, 0, none⟩) (rowC (Eint .i64) T_block_distBase)]) (fun Qj6 hNj6 hOj6 => ?_) (fun a w hR => ?_)
      · skip
        have H := Hyj6
        refine L_blk (fun Qb30 hNb30 hXb30 hOb30 => ?_)
        refine L_lp (fun k a w => ∃ (i_43 : Int), Is Tryd.f21.ntmps a [(0, .int .i64 dist_0), (6, .int .i64 i_43)] ∧ Hp S0 w0 w [.rd (some ⟨0, 0, none⟩) (rowC (Eint .i64) T_block_distBits), .rd (some ⟨1, 0, none⟩) (rowC (Eint .i64) T_block_distBase)] ∧ block_DistSymbol.l1 k i_43 dist_0 = some yj6) FU (fun a ha => ⟨_, Is.cons ha (Is.cons ha (Is.nil ha) rfl) rfl, HS0.sel [0, 1] rfl, H⟩) (fun kp42 a w44 hI Qp42 hNp42 hOp42 => ?_)
        obtain ⟨i_43, ha, HS45, HAp42⟩ := hI
        cases kp42 with
        | zero => cases (show (none : Option _) = some _ from HAp42)
        | succ kp42 =>
          have H := (block_DistSymbol.l1.eq_2 ..).symm.trans HAp42
          refine wpLF_app ?_ ha
          refine L_seq ?_
          refine L_seq ?_
          refine L_region ?_
          refine F_val rfl rfl rfl (O_move rfl rfl) ?_
          obtain ⟨⟨g46, g47⟩, H⟩ := of_gd H
          refine F_val rfl rfl rfl (O_idxA rfl rfl rfl Tryd.underlying81 size3 g46 g47) ?_
          refine F_val rfl rfl rfl (O_loadB rfl rfl flat3 (HS45.cells_rd (i := 1) rfl) (at0 (int_cell g46 (arr_lt T_block_distBase_len g47)))) ?_
          refine F_val rfl rfl rfl (O_move rfl rfl) ?_
          refine F_val rfl rfl rfl (O_gt rfl rfl rfl) ?_
          refine F_nil ?_
          refine L_condP rfl (fun c48 => ?_) (fun c48 => ?_)
          · have H := of_pos H c48
            refine L_skip ?_
            refine L_blk (fun Q49 hN49 hX49 hO49 => ?_)
            refine L_region ?_
            refine F_val rfl rfl rfl (O_move rfl rfl) ?_
            refine F_val rfl rfl rfl (O_sub rfl rfl rfl) ?_
            obtain ⟨x50, h51, H⟩ := of_bnd H
            refine F_val rfl rfl rfl (O_assign' rfl rfl (congrArg (Value.int .i64) h51)) ?_
            refine F_nil ?_
            refine L_endB hN49 ?_
            refine L_nil (fun a ha => hNp42 _ a _ (Nat.lt_succ_self _) ⟨_, Is.cons ha (Is.cons ha (Is.nil ha) rfl) rfl, HS45.sel [0, 1] rfl, H⟩)
          · have H := of_neg H c48
            refine L_exitB (fun a w h => hOp42 (.exit 0) a w rfl (hXb30 a w h)) ?_
            refine L_nil (fun a ha => hNj6 a _ ⟨_, (Option.some.inj H).symm, Is.cons ha (Is.cons ha (Is.nil ha) rfl) rfl, HS45.sel [0, 1] rfl⟩)
      · obtain ⟨i_29, ej, ha, HS53⟩ := hR
        obtain rfl := ej.symm
        refine wpLF_app ?_ ha
        refine L_seq ?_
        refine L_quiet mix (by kernel_rfl) ?_
        refine Q_val rfl rfl rfl (fun wq hq => O_move rfl rfl) ?_
        refine Q_val rfl rfl rfl (fun wq hq => O_move rfl rfl) ?_
        obtain ⟨⟨g54, g55⟩, H⟩ := of_gd H
        refine Q_val rfl rfl rfl (fun wq hq => O_idxA rfl rfl rfl Tryd.underlying81 size3 g54 g55) ?_
        refine Q_val rfl rfl rfl (fun wq hq => O_loadB rfl rfl flat3 ((HS53.keep hq).cells_rd (i := 0) rfl) (at0 (int_cell g54 (arr_lt T_block_distBits_len g55)))) ?_
        refine Q_val rfl rfl rfl (fun wq hq => O_move rfl rfl) ?_
        refine Q_val rfl rfl rfl (fun wq hq => O_move rfl rfl) ?_
        refine Q_val rfl rfl rfl (fun wq hq => O_idxA rfl rfl rfl Tryd.underlying81 size3 g54 g55) ?_
        refine Q_val rfl rfl rfl (fun wq hq => O_loadB rfl rfl flat3 ((HS53.keep hq).cells_rd (i := 1) rfl) (at0 (int_cell g54 (arr_lt T_block_distBase_len g55)))) ?_
        refine Q_val rfl rfl rfl (fun wq hq => O_sub rfl rfl rfl) ?_
        refine Q_val rfl rfl rfl (fun wq hq => O_assign rfl rfl) ?_
        obtain ⟨x56, h57, H⟩ := of_bnd H
        refine Q_val rfl rfl rfl (fun wq hq => O_assign' rfl rfl (congrArg (Value.int .i64) h57)) ?_
        obtain ⟨x58, h59, H⟩ := of_bnd H
        refine Q_val rfl rfl rfl (fun wq hq => O_assign' rfl rfl (congrArg (Value.int .i64) h59)) ?_
        refine Q_val rfl rfl rfl (fun wq hq => O_assign rfl rfl) ?_
        refine Q_nil (fun w60 hw61 => ?_)
        have HS62 := HS53.keep hw61
        refine L_ret (fun a ha => (post_ret4 ha rfl rfl rfl rfl rfl ?_))
        obtain rfl := Option.some.inj H
        exact ⟨rfl, HS62.sel [] rfl⟩

/-! function 26: valise/block.Count -/
theorem block_Count.calls {S0 : Nat → Prop} {w0 : World} {A_tokens_0 : Option Addr} {c_tokens_0 : Nat} {l_tokens_0 : List (Int × Int × Int)} {r : List Int × List Int × Int} (HS0 : Hp S0 w0 w0 [.rd A_tokens_0 (rowC E_api_Token l_tokens_0), .rd (some ⟨0, 0, none⟩) (rowC (Eint .i64) T_block_distBits), .rd (some ⟨1, 0, none⟩) (rowC (Eint .i64) T_block_distBase), .rd (some ⟨2, 0, none⟩) (rowC (Eint .i64) T_block_lengthBase), .rd (some ⟨3, 0, none⟩) (rowC (Eint .i64) T_block_lengthBits)]) (hc_tokens_0 : l_tokens_0.length ≤ c_tokens_0) (h : block_Count.f l_tokens_0 = some r) :
    Calls Tryd.prog 26 ([.slice A_tokens_0 l_tokens_0.length c_tokens_0] : List Value).toArray w0 (fun e w => ∃ (A1 : Option Addr), ∃ (c1 : Nat), ∃ (A2 : Option Addr), ∃ (c2 : Nat), e = .returned (.tuple #[.slice A1 r.1.length c1, .slice A2 r.2.1.length c2, .int .i64 r.2.2]) ∧ Hp S0 w0 w [.own A1 c1 (rowC (Eint .i64) r.1) 3 (Eint .i64).sz, .own A2 c2 (rowC (Eint .i64) r.2.1) 3 (Eint .i64).sz]) := by
  have H : ((if 16777216 < (l_tokens_0.length : Int) then (some (([] : List Int), ([] : List Int), 1)) else ((block_said.f l_tokens_0).bind fun (z12, z13) => if (!z13) = true then (some (([] : List Int), ([] : List Int), 100)) else ((some ()).bind fun () => gd ((0 : Int) ≤ 256 ∧ 256 < ((List.replicate (286 : Int).toNat (0 : Int)).length : Int)) (bnd ((List.replicate (286 : Int).toNat (0 : Int)).set (256 : Int).toNat 1) fun l107 => (block_Count.l1 FU l107 (List.replicate (30 : Int).toNat (0 : Int)) 0 l_tokens_0).bind fun (l271, l272) => some (l271, l272, 0))))) : Option (List Int × List Int × Int)) = some r := h
  refine calls_start Tryd.func26 rfl rfl ?_
  refine L_seq ?_
  refine L_region ?_
  refine F_val rfl rfl rfl (O_assign rfl rfl) ?_
  have HS1 := HS0.addNil 3 (Eint .i64).sz
  have HS1 : Hp S0 w0 w0 [.rd A_tokens_0 (rowC E_api_Token l_tokens_0), .rd (some ⟨0, 0, none⟩) (rowC (Eint .i64) T_block_distBits), .rd (some ⟨1, 0, none⟩) (rowC (Eint .i64) T_block_distBase), .rd (some ⟨2, 0, none⟩) (rowC (Eint .i64) T_block_lengthBase), .rd (some ⟨3, 0, none⟩) (rowC (Eint .i64) T_block_lengthBits), .own none 0 (rowC (Eint .i64) ([] : List Int)) 3 (Eint .i64).sz] := HS1
  refine F_val rfl rfl rfl (O_assign rfl rfl) ?_
  have HS3 := HS1.addNil 3 (Eint .i64).sz
  have HS3 : Hp S0 w0 w0 [.rd A_tokens_0 (rowC E_api_Token l_tokens_0), .rd (some ⟨0, 0, none⟩) (rowC (Eint .i64) T_block_distBits), .rd (some ⟨1, 0, none⟩) (rowC (Eint .i64) T_block_distBase), .rd (some ⟨2, 0, none⟩) (rowC (Eint .i64) T_block_lengthBase), .rd (some ⟨3, 0, none⟩) (rowC (Eint .i64) T_block_lengthBits), .own none 0 (rowC (Eint .i64) ([] : List Int)) 3 (Eint .i64).sz, .own none 0 (rowC (Eint .i64) ([] : List Int)) 3 (Eint .i64).sz] := HS3
  refine F_val rfl rfl rfl (O_assign rfl rfl) ?_
  refine F_nil ?_
  refine L_seq ?_
  refine L_seq ?_
  refine L_region ?_
  refine F_val rfl rfl rfl (O_move rfl rfl) ?_
  refine F_val rfl rfl rfl (O_len rfl rfl Tryd.underlying35) ?_
  refine F_val rfl rfl rfl (O_gt rfl rfl rfl) ?_
  refine F_nil ?_
  refine L_condP rfl (fun c5 => ?_) (fun c5 => ?_)
  · have H := of_pos H c5
    refine L_seq ?_
    refine L_region ?_
    refine F_val rfl rfl rfl (O_assign rfl rfl) ?_
    have HS6 := HS3.addNil 3 (Eint .i64).sz
    have HS6 : Hp S0 w0 w0 [.rd A_tokens_0 (rowC E_api_Token l_tokens_0), .rd (some ⟨0, 0, none⟩) (rowC (Eint .i64) T_block_distBits), .rd (some ⟨1, 0, none⟩) (rowC (Eint .i64) T_block_distBase), .rd (some ⟨2, 0, none⟩) (rowC (Eint .i64) T_block_lengthBase), .rd (some ⟨3, 0, none⟩) (rowC (Eint .i64) T_block_lengthBits), .own none 0 (rowC (Eint .i64) ([] : List Int)) 3 (Eint .i64).sz, .own none 0 (rowC (Eint .i64) ([] : List Int)) 3 (Eint .i64).sz, .own none 0 (rowC (Eint .i64) ([] : List Int)) 3 (Eint .i64).sz] := HS6
    refine F_val rfl rfl rfl (O_assign rfl rfl) ?_
    have HS8 := HS6.addNil 3 (Eint .i64).sz
    have HS8 : Hp S0 w0 w0 [.rd A_tokens_0 (rowC E_api_Token l_tokens_0), .rd (some ⟨0, 0, none⟩) (rowC (Eint .i64) T_block_distBits), .rd (some ⟨1, 0, none⟩) (rowC (Eint .i64) T_block_distBase), .rd (some ⟨2, 0, none⟩) (rowC (Eint .i64) T_block_lengthBase), .rd (some ⟨3, 0, none⟩) (rowC (Eint .i64) T_block_lengthBits), .own none 0 (rowC (Eint .i64) ([] : List Int)) 3 (Eint .i64).sz, .own none 0 (rowC (Eint .i64) ([] : List Int)) 3 (Eint .i64).sz, .own none 0 (rowC (Eint .i64) ([] : List Int)) 3 (Eint .i64).sz, .own none 0 (rowC (Eint .i64) ([] : List Int)) 3 (Eint .i64).sz] := HS8
    refine F_val rfl rfl rfl (O_assign rfl rfl) ?_
    refine F_nil ?_
    refine L_ret (fun a ha => (post_ret3 ha rfl rfl rfl rfl ?_))
    obtain rfl := Option.some.inj H
    exact ⟨_, _, _, _, rfl, HS8.sel [7, 8] rfl⟩
  · have H := of_neg H c5
    refine L_skip ?_
    refine L_seq ?_
    refine L_seq ?_
    refine L_region ?_
    refine F_val rfl rfl rfl (O_move rfl rfl) ?_
    obtain ⟨⟨z12, z13⟩, h11, H⟩ := of_bind H
    refine F_qcall (v := .tuple #[.int .i64 z12, .bool z13]) (xs := [.tmp 17]) rfl rfl rfl rfl Tryd.func54 nm54 rfl rfl ((block_said.calls (HS3.give [] rfl (Lent.rd HS3 (Lent.nil) (i := 0) rfl ((HS3.cells_rd (i := 0) rfl).self))) hc_tokens_0 h11).mono (fun e w hc => ?_)) (fun w14 hw15 => ?_)
    · obtain ⟨rfl, h⟩ := hc
      exact ⟨rfl, h.chg0⟩
    have HS16 := HS3.keep hw15
    refine F_val rfl rfl rfl (O_move rfl rfl) ?_
    refine F_val rfl rfl rfl (O_extract (v := .int .i64 z12) rfl rfl rfl) ?_
    refine F_val rfl rfl rfl (O_extract (v := .bool z13) rfl rfl rfl) ?_
    refine F_val rfl rfl rfl (O_assign rfl rfl) ?_
    refine F_val rfl rfl rfl (O_assign rfl rfl) ?_
    refine F_nil ?_
    refine L_seq ?_
    refine L_region ?_
    refine F_val rfl rfl rfl (O_move rfl rfl) ?_
    refine F_val rfl rfl rfl (O_notb rfl rfl) ?_
    refine F_nil ?_
    refine L_cond rfl (fun c17 => ?_) (fun c17 => ?_)
    · have H := of_pos H c17
      refine L_seq ?_
      refine L_region ?_
      refine F_val rfl rfl rfl (O_assign rfl rfl) ?_
      have HS18 := HS16.addNil 3 (Eint .i64).sz
      have HS18 : Hp S0 w0 w14 [.rd A_tokens_0 (rowC E_api_Token l_tokens_0), .rd (some ⟨0, 0, none⟩) (rowC (Eint .i64) T_block_distBits), .rd (some ⟨1, 0, none⟩) (rowC (Eint .i64) T_block_distBase), .rd (some ⟨2, 0, none⟩) (rowC (Eint .i64) T_block_lengthBase), .rd (some ⟨3, 0, none⟩) (rowC (Eint .i64) T_block_lengthBits), .own none 0 (rowC (Eint .i64) ([] : List Int)) 3 (Eint .i64).sz, .own none 0 (rowC (Eint .i64) ([] : List Int)) 3 (Eint .i64).sz, .own none 0 (rowC (Eint .i64) ([] : List Int)) 3 (Eint .i64).sz] := HS18
      refine F_val rfl rfl rfl (O_assign rfl rfl) ?_
      have HS20 := HS18.addNil 3 (Eint .i64).sz
      have HS20 : Hp S0 w0 w14 [.rd A_tokens_0 (rowC E_api_Token l_tokens_0), .rd (some ⟨0, 0, none⟩) (rowC (Eint .i64) T_block_distBits), .rd (some ⟨1, 0, none⟩) (rowC (Eint .i64) T_block_distBase), .rd (some ⟨2, 0, none⟩) (rowC (Eint .i64) T_block_lengthBase), .rd (some ⟨3, 0, none⟩) (rowC (Eint .i64) T_block_lengthBits), .own none 0 (rowC (Eint .i64) ([] : List Int)) 3 (Eint .i64).sz, .own none 0 (rowC (Eint .i64) ([] : List Int)) 3 (Eint .i64).sz, .own none 0 (rowC (Eint .i64) ([] : List Int)) 3 (Eint .i64).sz, .own none 0 (rowC (Eint .i64) ([] : List Int)) 3 (Eint .i64).sz] := HS20
      refine F_val rfl rfl rfl (O_assign rfl rfl) ?_
      refine F_nil ?_
      refine L_ret (fun a ha => (post_ret3 ha rfl rfl rfl rfl ?_))
      obtain rfl := Option.some.inj H
      exact ⟨_, _, _, _, rfl, HS20.sel [7, 8] rfl⟩
    · have H := of_neg H (by rw [c17]; exact Bool.false_ne_true)
      refine L_skip ?_
      refine L_seq ?_
      obtain ⟨yj32, Hyj32, H⟩ := of_bind H
      refine L_join (fun a w => ∃ (A65 : Option Addr), ∃ (c66 : Nat), ∃ (A67 : Option Addr), ∃ (c68 : Nat), yj32 = () ∧ Is Tryd.f26.ntmps a [(0, .slice A_tokens_0 l_tokens_0.length c_tokens_0), (2, .slice A65 (List.replicate (286 : Int).toNat (0 : Int)).length c66), (3, .slice A67 (List.replicate (30 : Int).toNat (0 : Int)).length c68)] ∧ Hp S0 w0 w [.rd A_tokens_0 (rowC E_api_Token l_tokens_0), .rd (some ⟨0, 0, none⟩) (rowC (Eint .i64) T_block_distBits), .rd (some ⟨1, 0, none⟩) (rowC (Eint .i64) T_block_distBase), .rd (some ⟨2, 0, none⟩) (rowC (Eint .i64) T_block_lengthBase), .rd (some ⟨3, 0, none⟩) (rowC (Eint .i64) T_block_lengthBits), .own A65 c66 (rowC (Eint .i64) (List.replicate (286 : Int).toNat (0 : Int))) 3 (Eint .i64).sz, .own A67 c68 (rowC (Eint .i64) (List.replicate (30 : Int).toNat (0 : Int))) 3 (Eint .i64).sz]) (fun Qj32 hNj32 hOj32 => ?_) (fun a w hR => ?_)
      · skip
        have H := Hyj32
        refine L_heldS 4 0 [] mix rfl (fun w79 hw80 => ?_)
        have HS81 := HS16.keep hw80
        refine ⟨HS81.turns [], ?_⟩
        have HR82 : Hp (HS81.ft []) w79 w79 [.rd A_tokens_0 (rowC E_api_Token l_tokens_0), .rd (some ⟨0, 0, none⟩) (rowC (Eint .i64) T_block_distBits), .rd (some ⟨1, 0, none⟩) (rowC (Eint .i64) T_block_distBase), .rd (some ⟨2, 0, none⟩) (rowC (Eint .i64) T_block_lengthBase), .rd (some ⟨3, 0, none⟩) (rowC (Eint .i64) T_block_lengthBits), .rd none (rowC (Eint .i64) ([] : List Int)), .rd none (rowC (Eint .i64) ([] : List Int))] := HS81.give [] rfl (Lent.rd HS81 (Lent.rd HS81 (Lent.rd HS81 (Lent.rd HS81 (Lent.rd HS81 (Lent.own HS81 (Lent.own HS81 (Lent.nil) (i := 6) rfl rfl (HS81.cells_own (i := 6) rfl).self) (i := 5) rfl rfl (HS81.cells_own (i := 5) rfl).self) (i := 4) rfl (HS81.cells_rd (i := 4) rfl).self) (i := 3) rfl (HS81.cells_rd (i := 3) rfl).self) (i := 2) rfl (HS81.cells_rd (i := 2) rfl).self) (i := 1) rfl (HS81.cells_rd (i := 1) rfl).self) (i := 0) rfl (HS81.cells_rd (i := 0) rfl).self)
        refine H_two (i := 0) (j := 1) rfl rfl (by kernel_rfl) rfl rfl ?_ ?_
        · skip
          refine F_makeK (E := (Eint .i64)) rfl rfl rfl rfl rfl rfl Tryd.underlying37 info3 rfl (by decide) (by decide) (by decide) (by decide) HR82 (fun w83 A85 c86 HS84 => ?_)
          have HS84 : Hp (HS81.ft []) w79 w83 [.rd A_tokens_0 (rowC E_api_Token l_tokens_0), .rd (some ⟨0, 0, none⟩) (rowC (Eint .i64) T_block_distBits), .rd (some ⟨1, 0, none⟩) (rowC (Eint .i64) T_block_distBase), .rd (some ⟨2, 0, none⟩) (rowC (Eint .i64) T_block_lengthBase), .rd (some ⟨3, 0, none⟩) (rowC (Eint .i64) T_block_lengthBits), .rd none (rowC (Eint .i64) ([] : List Int)), .rd none (rowC (Eint .i64) ([] : List Int)), .own A85 c86 (rowC (Eint .i64) (List.replicate (286 : Int).toNat (0 : Int))) 3 (Eint .i64).sz] := HS84
          refine H_next HS84.chg ?_
          refine H_val (i := 2) rfl (by kernel_rfl) (by kernel_rfl) (by kernel_rfl) (by kernel_rfl) rfl rfl rfl HS84.chg (fun wq hq => O_assign rfl rfl) ?_
          refine H_one (i := 1) rfl (by kernel_rfl) (by kernel_rfl) ?_
          refine F_makeK (E := (Eint .i64)) rfl rfl rfl rfl rfl rfl Tryd.underlying37 info3 rfl (by decide) (by decide) (by decide) (by decide) HS84 (fun w87 A89 c90 HS88 => ?_)
          have HS88 : Hp (HS81.ft []) w79 w87 [.rd A_tokens_0 (rowC E_api_Token l_tokens_0), .rd (some ⟨0, 0, none⟩) (rowC (Eint .i64) T_block_distBits), .rd (some ⟨1, 0, none⟩) (rowC (Eint .i64) T_block_distBase), .rd (some ⟨2, 0, none⟩) (rowC (Eint .i64) T_block_lengthBase), .rd (some ⟨3, 0, none⟩) (rowC (Eint .i64) T_block_lengthBits), .rd none (rowC (Eint .i64) ([] : List Int)), .rd none (rowC (Eint .i64) ([] : List Int)), .own A85 c86 (rowC (Eint .i64) (List.replicate (286 : Int).toNat (0 : Int))) 3 (Eint .i64).sz, .own A89 c90 (rowC (Eint .i64) (List.replicate (30 : Int).toNat (0 : Int))) 3 (Eint .i64).sz] := HS88
          refine H_next HS88.chg ?_
          refine H_val (i := 3) rfl (by kernel_rfl) (by kernel_rfl) (by kernel_rfl) (by kernel_rfl) rfl rfl rfl HS88.chg (fun wq hq => O_assign rfl rfl) ?_
          refine H_end (by kernel_rfl) ?_
          have HS91 : Hp S0 w0 w87 [.rd A_tokens_0 (rowC E_api_Token l_tokens_0), .rd (some ⟨0, 0, none⟩) (rowC (Eint .i64) T_block_distBits), .rd (some ⟨1, 0, none⟩) (rowC (Eint .i64) T_block_distBase), .rd (some ⟨2, 0, none⟩) (rowC (Eint .i64) T_block_lengthBase), .rd (some ⟨3, 0, none⟩) (rowC (Eint .i64) T_block_lengthBits), .own none 0 (rowC (Eint .i64) ([] : List Int)) 3 (Eint .i64).sz, .own none 0 (rowC (Eint .i64) ([] : List Int)) 3 (Eint .i64).sz, .own A85 c86 (rowC (Eint .i64) (List.replicate (286 : Int).toNat (0 : Int))) 3 (Eint .i64).sz, .own A89 c90 (rowC (Eint .i64) (List.replicate (30 : Int).toNat (0 : Int))) 3 (Eint .i64).sz] := (HS81.back [] (HS88.sel [7, 8] rfl) rfl).sel [0, 1, 2, 3, 4, 5, 6, 7, 8] rfl
          refine T_done (by kernel_rfl) ?_
          refine L_nil (fun a ha => hNj32 a _ ⟨_, _, _, _, (Option.some.inj H).symm, Is.cons ha (Is.cons ha (Is.cons ha (Is.nil ha) rfl) rfl) rfl, HS91.sel [0, 1, 2, 3, 4, 7, 8] rfl⟩)
        · skip
          refine F_makeK (E := (Eint .i64)) rfl rfl rfl rfl rfl rfl Tryd.underlying37 info3 rfl (by decide) (by decide) (by decide) (by decide) HR82 (fun w92 A94 c95 HS93 => ?_)
          have HS93 : Hp (HS81.ft []) w79 w92 [.rd A_tokens_0 (rowC E_api_Token l_tokens_0), .rd (some ⟨0, 0, none⟩) (rowC (Eint .i64) T_block_distBits), .rd (some ⟨1, 0, none⟩) (rowC (Eint .i64) T_block_distBase), .rd (some ⟨2, 0, none⟩) (rowC (Eint .i64) T_block_lengthBase), .rd (some ⟨3, 0, none⟩) (rowC (Eint .i64) T_block_lengthBits), .rd none (rowC (Eint .i64) ([] : List Int)), .rd none (rowC (Eint .i64) ([] : List Int)), .own A94 c95 (rowC (Eint .i64) (List.replicate (30 : Int).toNat (0 : Int))) 3 (Eint .i64).sz] := HS93
          refine H_next HS93.chg ?_
          refine H_one (i := 0) rfl (by kernel_rfl) (by kernel_rfl) ?_
          refine F_makeK (E := (Eint .i64)) rfl rfl rfl rfl rfl rfl Tryd.underlying37 info3 rfl (by decide) (by decide) (by decide) (by decide) HS93 (fun w96 A98 c99 HS97 => ?_)
          have HS97 : Hp (HS81.ft []) w79 w96 [.rd A_tokens_0 (rowC E_api_Token l_tokens_0), .rd (some ⟨0, 0, none⟩) (rowC (Eint .i64) T_block_distBits), .rd (some ⟨1, 0, none⟩) (rowC (Eint .i64) T_block_distBase), .rd (some ⟨2, 0, none⟩) (rowC (Eint .i64) T_block_lengthBase), .rd (some ⟨3, 0, none⟩) (rowC (Eint .i64) T_block_lengthBits), .rd none (rowC (Eint .i64) ([] : List Int)), .rd none (rowC (Eint .i64) ([] : List Int)), .own A94 c95 (rowC (Eint .i64) (List.replicate (30 : Int).toNat (0 : Int))) 3 (Eint .i64).sz, .own A98 c99 (rowC (Eint .i64) (List.replicate (286 : Int).toNat (0 : Int))) 3 (Eint .i64).sz] := HS97
          refine H_next HS97.chg ?_
          refine H_val (i := 2) rfl (by kernel_rfl) (by kernel_rfl) (by kernel_rfl) (by kernel_rfl) rfl rfl rfl HS97.chg (fun wq hq => O_assign rfl rfl) ?_
          refine H_val (i := 3) rfl (by kernel_rfl) (by kernel_rfl) (by kernel_rfl) (by kernel_rfl) rfl rfl rfl HS97.chg (fun wq hq => O_assign rfl rfl) ?_
          refine H_end (by kernel_rfl) ?_
          have HS100 : Hp S0 w0 w96 [.rd A_tokens_0 (rowC E_api_Token l_tokens_0), .rd (some ⟨0, 0, none⟩) (rowC (Eint .i64) T_block_distBits), .rd (some ⟨1, 0, none⟩) (rowC (Eint .i64) T_block_distBase), .rd (some ⟨2, 0, none⟩) (rowC (Eint .i64) T_block_lengthBase), .rd (some ⟨3, 0, none⟩) (rowC (Eint .i64) T_block_lengthBits), .own none 0 (rowC (Eint .i64) ([] : List Int)) 3 (Eint .i64).sz, .own none 0 (rowC (Eint .i64) ([] : List Int)) 3 (Eint .i64).sz, .own A94 c95 (rowC (Eint .i64) (List.replicate (30 : Int).toNat (0 : Int))) 3 (Eint .i64).sz, .own A98 c99 (rowC (Eint .i64) (List.replicate (286 : Int).toNat (0 : Int))) 3 (Eint .i64).sz] := (HS81.back [] (HS97.sel [7, 8] rfl) rfl).sel [0, 1, 2, 3, 4, 5, 6, 7, 8] rfl
          refine T_done (by kernel_rfl) ?_
          refine L_nil (fun a ha => hNj32 a _ ⟨_, _, _, _, (Option.some.inj H).symm, Is.cons ha (Is.cons ha (Is.cons ha (Is.nil ha) rfl) rfl) rfl, HS100.sel [0, 1, 2, 3, 4, 8, 7] rfl⟩)
      · obtain ⟨A65, c66, A67, c68, rfl, ha, HS102⟩ := hR
        refine wpLF_app ?_ ha
        refine L_seq ?_
        refine L_region ?_
        refine F_val rfl rfl rfl (O_move rfl rfl) ?_
        obtain ⟨⟨g103, g104⟩, H⟩ := of_gd H
        refine F_val rfl rfl rfl (O_idx rfl rfl rfl Tryd.underlying37 size3 g103 g104 (Cells.isA (HS102.cells_own (i := 5) rfl) (rowC_ne (E := (Eint .i64)) g103 g104 (by decide)))) ?_
        obtain ⟨l107, h108, H⟩ := of_bnd H
        refine F_setE (E := (Eint .i64)) (i := 5) (a := 1) (q := 256) rfl rfl rfl rfl rfl rfl size3 HS102 rfl (by decide) g103 g104 h108 (fun w105 HS106 => ?_)
        have e109 : (List.replicate (286 : Int).toNat (0 : Int)).length = l107.length := by rw [← h108, List.length_set]
        refine F_know (i := 2) rfl (congrArg (fun n => Value.slice A65 n c66) e109) ?_
        have HS106 : Hp S0 w0 w105 [.rd A_tokens_0 (rowC E_api_Token l_tokens_0), .rd (some ⟨0, 0, none⟩) (rowC (Eint .i64) T_block_distBits), .rd (some ⟨1, 0, none⟩) (rowC (Eint .i64) T_block_distBase), .rd (some ⟨2, 0, none⟩) (rowC (Eint .i64) T_block_lengthBase), .rd (some ⟨3, 0, none⟩) (rowC (Eint .i64) T_block_lengthBits), .own A65 c66 (rowC (Eint .i64) l107) 3 (Eint .i64).sz, .own A67 c68 (rowC (Eint .i64) (List.replicate (30 : Int).toNat (0 : Int))) 3 (Eint .i64).sz] := HS106
        refine F_nil ?_
        refine L_seq ?_
        refine L_seq ?_
        refine L_region ?_
        refine F_val rfl rfl rfl (O_move rfl rfl) ?_
        refine F_val rfl rfl rfl (O_len rfl rfl Tryd.underlying35) ?_
        refine F_val rfl rfl rfl (O_move rfl rfl) ?_
        refine F_nil ?_
        obtain ⟨yj110, Hyj110, H⟩ := of_bind H
        refine L_join (fun a w => ∃ (l271 : List Int), ∃ (l272 : List Int), yj110 = (l271, l272) ∧ Is Tryd.f26.ntmps a [(2, .slice A65 l271.length c66), (3, .slice A67 l272.length c68)] ∧ Hp S0 w0 w [.rd A_tokens_0 (rowC E_api_Token l_tokens_0), .rd (some ⟨0, 0, none⟩) (rowC (Eint .i64) T_block_distBits), .rd (some ⟨1, 0, none⟩) (rowC (Eint .i64) T_block_distBase), .rd (some ⟨2, 0, none⟩) (rowC (Eint .i64) T_block_lengthBase), .rd (some ⟨3, 0, none⟩) (rowC (Eint .i64) T_block_lengthBits), .own A65 c66 (rowC (Eint .i64) l271) 3 (Eint .i64).sz, .own A67 c68 (rowC (Eint .i64) l272) 3 (Eint .i64).sz]) (fun Qj110 hNj110 hOj110 => ?_) (fun a w hR => ?_)
        · skip
          have H := Hyj110
          refine L_blk (fun Qb273 hNb273 hXb273 hOb273 => ?_)
          refine L_lp (fun k a w => ∃ (l378 : List Int), ∃ (l379 : List Int), ∃ (t380 : Int), Is Tryd.f26.ntmps a [(2, .slice A65 l378.length c66), (3, .slice A67 l379.length c68), (27, .slice A_tokens_0 l_tokens_0.length c_tokens_0), (28, .int .i64 (l_tokens_0.length : Int)), (29, .int .i64 t380)] ∧ Hp S0 w0 w [.rd A_tokens_0 (rowC E_api_Token l_tokens_0), .rd (some ⟨0, 0, none⟩) (rowC (Eint .i64) T_block_distBits), .rd (some ⟨1, 0, none⟩) (rowC (Eint .i64) T_block_distBase), .rd (some ⟨2, 0, none⟩) (rowC (Eint .i64) T_block_lengthBase), .rd (some ⟨3, 0, none⟩) (rowC (Eint .i64) T_block_lengthBits), .own A65 c66 (rowC (Eint .i64) l378) 3 (Eint .i64).sz, .own A67 c68 (rowC (Eint .i64) l379) 3 (Eint .i64).sz] ∧ block_Count.l1 k l378 l379 t380 l_tokens_0 = some yj110) FU (fun a ha => ⟨_, _, _, Is.cons ha (Is.cons ha (Is.cons ha (Is.cons ha (Is.cons ha (Is.nil ha) rfl) rfl) rfl) rfl) rfl, HS106.sel [0, 1, 2, 3, 4, 5, 6] rfl, H⟩) (fun kp377 a w381 hI Qp377 hNp377 hOp377 => ?_)
          obtain ⟨l378, l379, t380, ha, HS382, HAp377⟩ := hI
          cases kp377 with
          | zero => cases (show (none : Option _) = some _ from HAp377)
          | succ kp377 =>
            have H := (block_Count.l1.eq_2 ..).symm.trans HAp377
            refine wpLF_app ?_ ha
            refine L_seq ?_
            refine L_region ?_
            refine F_val rfl rfl rfl (O_lt rfl rfl rfl) ?_
            refine F_nil ?_
            refine L_seq ?_
            refine L_condP rfl (fun c383 => ?_) (fun c383 => ?_)
            · have H := of_pos H c383
              refine L_skip ?_
              refine L_seq ?_
              refine L_blk (fun Q384 hN384 hX384 hO384 => ?_)
              refine L_seq ?_
              refine L_region ?_
              obtain ⟨⟨g385, g386⟩, H⟩ := of_gd H
              refine F_val rfl rfl rfl (O_idx rfl rfl rfl Tryd.underlying35 size50 g385 g386 (Cells.isA (HS382.cells_rd (i := 0) rfl) (rowC_ne (E := E_api_Token) g385 g386 (by decide)))) ?_
              refine F_val rfl rfl rfl (O_loadEl (E := E_api_Token) rfl rfl wide50 (HS382.cells_rd (i := 0) rfl) g385 g386 (by decide)) ?_
              refine F_alloc (C := [.int .i64 0, .int .i64 0, .int .u8 0]) rfl rfl rfl rfl zero50 rfl HS382 (fun w387 g389 HS388 => ?_)
              have HS388 : Hp S0 w0 w387 [.rd A_tokens_0 (rowC E_api_Token l_tokens_0), .rd (some ⟨0, 0, none⟩) (rowC (Eint .i64) T_block_distBits), .rd (some ⟨1, 0, none⟩) (rowC (Eint .i64) T_block_distBase), .rd (some ⟨2, 0, none⟩) (rowC (Eint .i64) T_block_lengthBase), .rd (some ⟨3, 0, none⟩) (rowC (Eint .i64) T_block_lengthBits), .own A65 c66 (rowC (Eint .i64) l378) 3 (Eint .i64).sz, .own A67 c68 (rowC (Eint .i64) l379) 3 (Eint .i64).sz, .box g389 [.int .i64 0, .int .i64 0, .int .u8 0] 50] := HS388
              refine F_stB 7 ([.int .i64 ((rdx E_api_Token l_tokens_0 t380).1), .int .i64 ((rdx E_api_Token l_tokens_0 t380).2.1), .int .u8 ((rdx E_api_Token l_tokens_0 t380).2.2)]) rfl rfl rfl rfl rfl size50 HS388 rfl rfl rfl rfl rfl (fun w391 HS392 => ?_)
              have HS392 : Hp S0 w0 w391 [.rd A_tokens_0 (rowC E_api_Token l_tokens_0), .rd (some ⟨0, 0, none⟩) (rowC (Eint .i64) T_block_distBits), .rd (some ⟨1, 0, none⟩) (rowC (Eint .i64) T_block_distBase), .rd (some ⟨2, 0, none⟩) (rowC (Eint .i64) T_block_lengthBase), .rd (some ⟨3, 0, none⟩) (rowC (Eint .i64) T_block_lengthBits), .own A65 c66 (rowC (Eint .i64) l378) 3 (Eint .i64).sz, .own A67 c68 (rowC (Eint .i64) l379) 3 (Eint .i64).sz, .box g389 [.int .i64 ((rdx E_api_Token l_tokens_0 t380).1), .int .i64 ((rdx E_api_Token l_tokens_0 t380).2.1), .int .u8 ((rdx E_api_Token l_tokens_0 t380).2.2)] 50] := HS392
              refine F_nil ?_
              refine L_seq ?_
              refine L_seq ?_
              refine L_region ?_
              refine F_val rfl rfl rfl (O_fieldB rfl rfl field50_0) ?_
              refine F_val rfl rfl rfl (O_loadB rfl rfl flat3 (HS392.cells_box (i := 7) rfl) rfl) ?_
              refine F_val rfl rfl rfl (O_eq rfl rfl rfl) ?_
              refine F_nil ?_
              refine L_condP rfl (fun c393 => ?_) (fun c393 => ?_)
              · have H := of_pos H c393
                refine L_seq ?_
                refine L_region ?_
                refine F_val rfl rfl rfl (O_move rfl rfl) ?_
                refine F_val rfl rfl rfl (O_fieldB rfl rfl field50_2) ?_
                refine F_val rfl rfl rfl (O_loadB rfl rfl flat5 (HS392.cells_box (i := 7) rfl) rfl) ?_
                obtain ⟨⟨g394, g395⟩, H⟩ := of_gd H
                refine F_val rfl rfl rfl (O_idx rfl rfl rfl Tryd.underlying37 size3 g394 g395 (Cells.isA (HS392.cells_own (i := 5) rfl) (rowC_ne (E := (Eint .i64)) g394 g395 (by decide)))) ?_
                refine F_val rfl rfl rfl (O_loadC rfl rfl flat3 (HS392.cells_own (i := 5) rfl) (int_cell g394 g395)) ?_
                refine F_val rfl rfl rfl (O_add rfl rfl rfl) ?_
                refine F_val rfl rfl rfl (O_idx rfl rfl rfl Tryd.underlying37 size3 g394 g395 (Cells.isA (HS392.cells_own (i := 5) rfl) (rowC_ne (E := (Eint .i64)) g394 g395 (by decide)))) ?_
                obtain ⟨l398, h399, H⟩ := of_bnd H
                refine F_setE (E := (Eint .i64)) (i := 5) (a := IntKind.i64.wrap ((rd l378 ((rdx E_api_Token l_tokens_0 t380).2.2)) + 1)) (q := (rdx E_api_Token l_tokens_0 t380).2.2) rfl rfl rfl rfl rfl rfl size3 HS392 rfl (by decide) g394 g395 h399 (fun w396 HS397 => ?_)
                have e400 : l378.length = l398.length := by rw [← h399, List.length_set]
                refine F_know (i := 2) rfl (congrArg (fun n => Value.slice A65 n c66) e400) ?_
                have HS397 : Hp S0 w0 w396 [.rd A_tokens_0 (rowC E_api_Token l_tokens_0), .rd (some ⟨0, 0, none⟩) (rowC (Eint .i64) T_block_distBits), .rd (some ⟨1, 0, none⟩) (rowC (Eint .i64) T_block_distBase), .rd (some ⟨2, 0, none⟩) (rowC (Eint .i64) T_block_lengthBase), .rd (some ⟨3, 0, none⟩) (rowC (Eint .i64) T_block_lengthBits), .own A65 c66 (rowC (Eint .i64) l398) 3 (Eint .i64).sz, .own A67 c68 (rowC (Eint .i64) l379) 3 (Eint .i64).sz, .box g389 [.int .i64 ((rdx E_api_Token l_tokens_0 t380).1), .int .i64 ((rdx E_api_Token l_tokens_0 t380).2.1), .int .u8 ((rdx E_api_Token l_tokens_0 t380).2.2)] 50] := HS397
                refine F_nil ?_
                refine L_exitB hX384 ?_
                refine L_region ?_
                refine F_val rfl rfl rfl (O_add rfl rfl rfl) ?_
                refine F_val rfl rfl rfl (O_move rfl rfl) ?_
                refine F_nil ?_
                refine L_nil (fun a ha => hNp377 _ a _ (Nat.lt_succ_self _) ⟨_, _, _, Is.cons ha (Is.cons ha (Is.cons ha (Is.cons ha (Is.cons ha (Is.nil ha) rfl) rfl) rfl) rfl) rfl, HS397.sel [0, 1, 2, 3, 4, 5, 6] rfl, H⟩)
              · have H := of_neg H c393
                refine L_skip ?_
                refine L_seq ?_
                refine L_region ?_
                refine F_val rfl rfl rfl (O_fieldB rfl rfl field50_0) ?_
                refine F_val rfl rfl rfl (O_loadB rfl rfl flat3 (HS392.cells_box (i := 7) rfl) rfl) ?_
                obtain ⟨⟨z403, z404, z405, z406⟩, h402, H⟩ := of_bind H
                refine F_qcall (v := .tuple #[.int .i64 z403, .int .i64 z404, .int .i64 z405, .int .i64 z406]) (xs := [.tmp 45]) rfl rfl rfl rfl Tryd.func19 nm19 rfl rfl ((block_LengthSymbol.calls (HS392.give [] rfl (Lent.rd HS392 (Lent.rd HS392 (Lent.nil) (i := 4) rfl (HS392.cells_rd (i := 4) rfl).self) (i := 3) rfl (HS392.cells_rd (i := 3) rfl).self)) h402).mono (fun e w hc => ?_)) (fun w407 hw408 => ?_)
                · obtain ⟨rfl, h⟩ := hc
                  exact ⟨rfl, h.chg0⟩
                have HS409 := HS392.keep hw408
                refine F_val rfl rfl rfl (O_move rfl rfl) ?_
                refine F_val rfl rfl rfl (O_extract (v := .int .i64 z403) rfl rfl rfl) ?_
                refine F_val rfl rfl rfl (O_extract (v := .int .i64 z404) rfl rfl rfl) ?_
                refine F_val rfl rfl rfl (O_extract (v := .int .i64 z405) rfl rfl rfl) ?_
                refine F_val rfl rfl rfl (O_extract (v := .int .i64 z406) rfl rfl rfl) ?_
                refine F_val rfl rfl rfl (O_assign rfl rfl) ?_
                refine F_val rfl rfl rfl (O_assign rfl rfl) ?_
                refine F_val rfl rfl rfl (O_assign rfl rfl) ?_
                refine F_val rfl rfl rfl (O_assign rfl rfl) ?_
                refine F_nil ?_
                refine L_seq ?_
                refine L_region ?_
                refine F_val rfl rfl rfl (O_move rfl rfl) ?_
                refine F_val rfl rfl rfl (O_move rfl rfl) ?_
                obtain ⟨⟨g410, g411⟩, H⟩ := of_gd H
                refine F_val rfl rfl rfl (O_idx rfl rfl rfl Tryd.underlying37 size3 g410 g411 (Cells.isA (HS409.cells_own (i := 5) rfl) (rowC_ne (E := (Eint .i64)) g410 g411 (by decide)))) ?_
                refine F_val rfl rfl rfl (O_loadC rfl rfl flat3 (HS409.cells_own (i := 5) rfl) (int_cell g410 g411)) ?_
                refine F_val rfl rfl rfl (O_add rfl rfl rfl) ?_
                refine F_val rfl rfl rfl (O_idx rfl rfl rfl Tryd.underlying37 size3 g410 g411 (Cells.isA (HS409.cells_own (i := 5) rfl) (rowC_ne (E := (Eint .i64)) g410 g411 (by decide)))) ?_
                obtain ⟨l414, h415, H⟩ := of_bnd H
                refine F_setE (E := (Eint .i64)) (i := 5) (a := IntKind.i64.wrap ((rd l378 z403) + 1)) (q := z403) rfl rfl rfl rfl rfl rfl size3 HS409 rfl (by decide) g410 g411 h415 (fun w412 HS413 => ?_)
                have e416 : l378.length = l414.length := by rw [← h415, List.length_set]
                refine F_know (i := 2) rfl (congrArg (fun n => Value.slice A65 n c66) e416) ?_
                have HS413 : Hp S0 w0 w412 [.rd A_tokens_0 (rowC E_api_Token l_tokens_0), .rd (some ⟨0, 0, none⟩) (rowC (Eint .i64) T_block_distBits), .rd (some ⟨1, 0, none⟩) (rowC (Eint .i64) T_block_distBase), .rd (some ⟨2, 0, none⟩) (rowC (Eint .i64) T_block_lengthBase), .rd (some ⟨3, 0, none⟩) (rowC (Eint .i64) T_block_lengthBits), .own A65 c66 (rowC (Eint .i64) l414) 3 (Eint .i64).sz, .own A67 c68 (rowC (Eint .i64) l379) 3 (Eint .i64).sz, .box g389 [.int .i64 ((rdx E_api_Token l_tokens_0 t380).1), .int .i64 ((rdx E_api_Token l_tokens_0 t380).2.1), .int .u8 ((rdx E_api_Token l_tokens_0 t380).2.2)] 50] := HS413
                refine F_nil ?_
                refine L_seq ?_
                refine L_region ?_
                refine F_val rfl rfl rfl (O_fieldB rfl rfl field50_1) ?_
                refine F_val rfl rfl rfl (O_loadB rfl rfl flat3 (HS413.cells_box (i := 7) rfl) rfl) ?_
                obtain ⟨⟨z419, z420, z421, z422⟩, h418, H⟩ := of_bind H
                refine F_qcall (v := .tuple #[.int .i64 z419, .int .i64 z420, .int .i64 z421, .int .i64 z422]) (xs := [.tmp 59]) rfl rfl rfl rfl Tryd.func21 nm21 rfl rfl ((block_DistSymbol.calls (HS413.give [] rfl (Lent.rd HS413 (Lent.rd HS413 (Lent.nil) (i := 2) rfl (HS413.cells_rd (i := 2) rfl).self) (i := 1) rfl (HS413.cells_rd (i := 1) rfl).self)) h418).mono (fun e w hc => ?_)) (fun w423 hw424 => ?_)
                · obtain ⟨rfl, h⟩ := hc
                  exact ⟨rfl, h.chg0⟩
                have HS425 := HS413.keep hw424
                refine F_val rfl rfl rfl (O_move rfl rfl) ?_
                refine F_val rfl rfl rfl (O_extract (v := .int .i64 z419) rfl rfl rfl) ?_
                refine F_val rfl rfl rfl (O_extract (v := .int .i64 z420) rfl rfl rfl) ?_
                refine F_val rfl rfl rfl (O_extract (v := .int .i64 z421) rfl rfl rfl) ?_
                refine F_val rfl rfl rfl (O_extract (v := .int .i64 z422) rfl rfl rfl) ?_
                refine F_val rfl rfl rfl (O_assign rfl rfl) ?_
                refine F_nil ?_
                refine L_region ?_
                refine F_val rfl rfl rfl (O_move rfl rfl) ?_
                refine F_val rfl rfl rfl (O_move rfl rfl) ?_
                obtain ⟨⟨g426, g427⟩, H⟩ := of_gd H
                refine F_val rfl rfl rfl (O_idx rfl rfl rfl Tryd.underlying37 size3 g426 g427 (Cells.isA (HS425.cells_own (i := 6) rfl) (rowC_ne (E := (Eint .i64)) g426 g427 (by decide)))) ?_
                refine F_val rfl rfl rfl (O_loadC rfl rfl flat3 (HS425.cells_own (i := 6) rfl) (int_cell g426 g427)) ?_
                refine F_val rfl rfl rfl (O_add rfl rfl rfl) ?_
                refine F_val rfl rfl rfl (O_idx rfl rfl rfl Tryd.underlying37 size3 g426 g427 (Cells.isA (HS425.cells_own (i := 6) rfl) (rowC_ne (E := (Eint .i64)) g426 g427 (by decide)))) ?_
                obtain ⟨l430, h431, H⟩ := of_bnd H
                refine F_setE (E := (Eint .i64)) (i := 6) (a := IntKind.i64.wrap ((rd l379 z419) + 1)) (q := z419) rfl rfl rfl rfl rfl rfl size3 HS425 rfl (by decide) g426 g427 h431 (fun w428 HS429 => ?_)
                have e432 : l379.length = l430.length := by rw [← h431, List.length_set]
                refine F_know (i := 3) rfl (congrArg (fun n => Value.slice A67 n c68) e432) ?_
                have HS429 : Hp S0 w0 w428 [.rd A_tokens_0 (rowC E_api_Token l_tokens_0), .rd (some ⟨0, 0, none⟩) (rowC (Eint .i64) T_block_distBits), .rd (some ⟨1, 0, none⟩) (rowC (Eint .i64) T_block_distBase), .rd (some ⟨2, 0, none⟩) (rowC (Eint .i64) T_block_lengthBase), .rd (some ⟨3, 0, none⟩) (rowC (Eint .i64) T_block_lengthBits), .own A65 c66 (rowC (Eint .i64) l414) 3 (Eint .i64).sz, .own A67 c68 (rowC (Eint .i64) l430) 3 (Eint .i64).sz, .box g389 [.int .i64 ((rdx E_api_Token l_tokens_0 t380).1), .int .i64 ((rdx E_api_Token l_tokens_0 t380).2.1), .int .u8 ((rdx E_api_Token l_tokens_0 t380).2.2)] 50] := HS429
                refine F_nil ?_
                refine L_endB hN384 ?_
                refine L_region ?_
                refine F_val rfl rfl rfl (O_add rfl rfl rfl) ?_
                refine F_val rfl rfl rfl (O_move rfl rfl) ?_
                refine F_nil ?_
                refine L_nil (fun a ha => hNp377 _ a _ (Nat.lt_succ_self _) ⟨_, _, _, Is.cons ha (Is.cons ha (Is.cons ha (Is.cons ha (Is.cons ha (Is.nil ha) rfl) rfl) rfl) rfl) rfl, HS429.sel [0, 1, 2, 3, 4, 5, 6] rfl, H⟩)
            · have H := of_neg H c383
              refine L_exitB (fun a w h => hOp377 (.exit 0) a w rfl (hXb273 a w h)) ?_
              refine L_nil (fun a ha => hNj110 a _ ⟨_, _, (Option.some.inj H).symm, Is.cons ha (Is.cons ha (Is.nil ha) rfl) rfl, HS382.sel [0, 1, 2, 3, 4, 5, 6] rfl⟩)
        · obtain ⟨l271, l272, rfl, ha, HS434⟩ := hR
          refine wpLF_app ?_ ha
          refine L_seq ?_
          refine L_region ?_
          refine F_val rfl rfl rfl (O_move rfl rfl) ?_
          refine F_val rfl rfl rfl (O_move rfl rfl) ?_
          refine F_val rfl rfl rfl (O_assign rfl rfl) ?_
          refine F_val rfl rfl rfl (O_assign rfl rfl) ?_
          refine F_val rfl rfl rfl (O_assign rfl rfl) ?_
          refine F_nil ?_
          refine L_ret (fun a ha => (post_ret3 ha rfl rfl rfl rfl ?_))
          obtain rfl := Option.some.inj H
          exact ⟨_, _, _, _, rfl, HS434.sel [5, 6] rfl⟩

/-! function 76: valise/valiseref10.copies -/
theorem valiseref10_copies.calls {S0 : Nat → Prop} {w0 : World} {t_0_Len : Int} {t_0_Dist : Int} {t_0_Lit : Int} {r : Bool} (HS0 : Hp S0 w0 w0 []) (h : valiseref10_copies.f t_0_Len t_0_Dist t_0_Lit = some r) :
    Calls Tryd.prog 76 ([.agg #[.int .i64 t_0_Len, .int .i64 t_0_Dist, .int .u8 t_0_Lit]] : List Value).toArray w0 (fun e w => e = .returned (.bool r) ∧ Hp S0 w0 w []) := by
  have H : ((some (decide (((((3 ≤ t_0_Len) ∧ (t_0_Len ≤ 258)) ∧ (1 ≤ t_0_Dist)) ∧ (t_0_Dist ≤ 32768)) ∧ (t_0_Lit = 0)))) : Option (Bool)) = some r := h
  refine calls_start Tryd.func76 rfl rfl ?_
  refine L_seq ?_
  refine L_region ?_
  refine F_box (C := [.int .i64 t_0_Len, .int .i64 t_0_Dist, .int .u8 t_0_Lit]) rfl rfl rfl rfl rfl rfl HS0 (fun w1 g3 HS2 => ?_)
  have HS2 : Hp S0 w0 w1 [.box g3 [.int .i64 t_0_Len, .int .i64 t_0_Dist, .int .u8 t_0_Lit] 50] := HS2
  refine F_val rfl rfl rfl (O_assign rfl rfl) ?_
  refine F_nil ?_
  refine L_seq ?_
  refine L_region ?_
  refine F_val rfl rfl rfl (O_fieldB rfl rfl field50_0) ?_
  refine F_val rfl rfl rfl (O_loadB rfl rfl flat3 (HS2.cells_box (i := 0) rfl) rfl) ?_
  refine F_val rfl rfl rfl (O_ge rfl rfl rfl) ?_
  refine F_val rfl rfl rfl (O_move rfl rfl) ?_
  refine F_grp 4 [(10, .bool (decide ((3 ≤ t_0_Len) ∧ (t_0_Len ≤ 258)))), (1, .pointer (some ⟨g3, 0, none⟩))] ?_ ?_
  · rcases Decidable.em (3 ≤ t_0_Len) with c8 | c8
    · refine F_know (i := 6) rfl (dec_t c8) ?_
      refine F_gval rfl rfl rfl rfl rfl rfl (O_fieldB rfl rfl field50_0) ?_
      refine F_gval rfl rfl rfl rfl rfl rfl (O_loadB rfl rfl flat3 (HS2.cells_box (i := 0) rfl) rfl) ?_
      refine F_gval rfl rfl rfl rfl rfl rfl (O_le rfl rfl rfl) ?_
      refine F_val rfl rfl rfl (O_pickT rfl rfl rfl) ?_
      refine F_know (i := 10) rfl (dec_and_t (q := t_0_Len ≤ 258) c8) ?_
      exact F_grpE (fun a ha => Is.cons ha (Is.cons ha (Is.nil ha) rfl) rfl)
    · refine F_know (i := 6) rfl (dec_f c8) ?_
      refine F_gskip rfl rfl rfl rfl rfl rfl rfl ?_
      refine F_gskip rfl rfl rfl rfl rfl rfl rfl ?_
      refine F_gskip rfl rfl rfl rfl rfl rfl rfl ?_
      refine F_val rfl rfl rfl (O_pickF rfl rfl rfl) ?_
      refine F_know (i := 10) rfl (dec_and_f (q := t_0_Len ≤ 258) c8) ?_
      exact F_grpE (fun a ha => Is.cons ha (Is.cons ha (Is.nil ha) rfl) rfl)
  · skip
    refine F_val rfl rfl rfl (O_move rfl rfl) ?_
    refine F_grp 4 [(15, .bool (decide (((3 ≤ t_0_Len) ∧ (t_0_Len ≤ 258)) ∧ (1 ≤ t_0_Dist)))), (1, .pointer (some ⟨g3, 0, none⟩))] ?_ ?_
    · rcases Decidable.em ((3 ≤ t_0_Len) ∧ (t_0_Len ≤ 258)) with c12 | c12
      · refine F_know (i := 11) rfl (dec_t c12) ?_
        refine F_gval rfl rfl rfl rfl rfl rfl (O_fieldB rfl rfl field50_1) ?_
        refine F_gval rfl rfl rfl rfl rfl rfl (O_loadB rfl rfl flat3 (HS2.cells_box (i := 0) rfl) rfl) ?_
        refine F_gval rfl rfl rfl rfl rfl rfl (O_ge rfl rfl rfl) ?_
        refine F_val rfl rfl rfl (O_pickT rfl rfl rfl) ?_
        refine F_know (i := 15) rfl (dec_and_t (q := 1 ≤ t_0_Dist) c12) ?_
        exact F_grpE (fun a ha => Is.cons ha (Is.cons ha (Is.nil ha) rfl) rfl)
      · refine F_know (i := 11) rfl (dec_f c12) ?_
        refine F_gskip rfl rfl rfl rfl rfl rfl rfl ?_
        refine F_gskip rfl rfl rfl rfl rfl rfl rfl ?_
        refine F_gskip rfl rfl rfl rfl rfl rfl rfl ?_
        refine F_val rfl rfl rfl (O_pickF rfl rfl rfl) ?_
        refine F_know (i := 15) rfl (dec_and_f (q := 1 ≤ t_0_Dist) c12) ?_
        exact F_grpE (fun a ha => Is.cons ha (Is.cons ha (Is.nil ha) rfl) rfl)
    · skip
      refine F_val rfl rfl rfl (O_move rfl rfl) ?_
      refine F_grp 4 [(20, .bool (decide ((((3 ≤ t_0_Len) ∧ (t_0_Len ≤ 258)) ∧ (1 ≤ t_0_Dist)) ∧ (t_0_Dist ≤ 32768)))), (1, .pointer (some ⟨g3, 0, none⟩))] ?_ ?_
      · rcases Decidable.em (((3 ≤ t_0_Len) ∧ (t_0_Len ≤ 258)) ∧ (1 ≤ t_0_Dist)) with c16 | c16
        · refine F_know (i := 16) rfl (dec_t c16) ?_
          refine F_gval rfl rfl rfl rfl rfl rfl (O_fieldB rfl rfl field50_1) ?_
          refine F_gval rfl rfl rfl rfl rfl rfl (O_loadB rfl rfl flat3 (HS2.cells_box (i := 0) rfl) rfl) ?_
          refine F_gval rfl rfl rfl rfl rfl rfl (O_le rfl rfl rfl) ?_
          refine F_val rfl rfl rfl (O_pickT rfl rfl rfl) ?_
          refine F_know (i := 20) rfl (dec_and_t (q := t_0_Dist ≤ 32768) c16) ?_
          exact F_grpE (fun a ha => Is.cons ha (Is.cons ha (Is.nil ha) rfl) rfl)
        · refine F_know (i := 16) rfl (dec_f c16) ?_
          refine F_gskip rfl rfl rfl rfl rfl rfl rfl ?_
          refine F_gskip rfl rfl rfl rfl rfl rfl rfl ?_
          refine F_gskip rfl rfl rfl rfl rfl rfl rfl ?_
          refine F_val rfl rfl rfl (O_pickF rfl rfl rfl) ?_
          refine F_know (i := 20) rfl (dec_and_f (q := t_0_Dist ≤ 32768) c16) ?_
          exact F_grpE (fun a ha => Is.cons ha (Is.cons ha (Is.nil ha) rfl) rfl)
      · skip
        refine F_val rfl rfl rfl (O_move rfl rfl) ?_
        refine F_grp 4 [(25, .bool (decide (((((3 ≤ t_0_Len) ∧ (t_0_Len ≤ 258)) ∧ (1 ≤ t_0_Dist)) ∧ (t_0_Dist ≤ 32768)) ∧ (t_0_Lit = 0))))] ?_ ?_
        · rcases Decidable.em ((((3 ≤ t_0_Len) ∧ (t_0_Len ≤ 258)) ∧ (1 ≤ t_0_Dist)) ∧ (t_0_Dist ≤ 32768)) with c20 | c20
          · refine F_know (i := 21) rfl (dec_t c20) ?_
            refine F_gval rfl rfl rfl rfl rfl rfl (O_fieldB rfl rfl field50_2) ?_
            refine F_gval rfl rfl rfl rfl rfl rfl (O_loadB rfl rfl flat5 (HS2.cells_box (i := 0) rfl) rfl) ?_
            refine F_gval rfl rfl rfl rfl rfl rfl (O_eq rfl rfl rfl) ?_
            refine F_val rfl rfl rfl (O_pickT rfl rfl rfl) ?_
            refine F_know (i := 25) rfl (dec_and_t (q := t_0_Lit = 0) c20) ?_
            exact F_grpE (fun a ha => Is.cons ha (Is.nil ha) rfl)
          · refine F_know (i := 21) rfl (dec_f c20) ?_
            refine F_gskip rfl rfl rfl rfl rfl rfl rfl ?_
            refine F_gskip rfl rfl rfl rfl rfl rfl rfl ?_
            refine F_gskip rfl rfl rfl rfl rfl rfl rfl ?_
            refine F_val rfl rfl rfl (O_pickF rfl rfl rfl) ?_
            refine F_know (i := 25) rfl (dec_and_f (q := t_0_Lit = 0) c20) ?_
            exact F_grpE (fun a ha => Is.cons ha (Is.nil ha) rfl)
        · skip
          refine F_val rfl rfl rfl (O_assign rfl rfl) ?_
          refine F_nil ?_
          refine L_ret (fun a ha => (post_ret1 ha rfl rfl ?_))
          obtain rfl := Option.some.inj H
          exact ⟨rfl, HS2.sel [] rfl⟩

/-! function 55: valise/valiseref10.sound -/
theorem valiseref10_sound.calls {S0 : Nat → Prop} {w0 : World} {A_tokens_0 : Option Addr} {c_tokens_0 : Nat} {l_tokens_0 : List (Int × Int × Int)} {r : Bool} (HS0 : Hp S0 w0 w0 [.rd A_tokens_0 (rowC E_api_Token l_tokens_0)]) (hc_tokens_0 : l_tokens_0.length ≤ c_tokens_0) (h : valiseref10_sound.f l_tokens_0 = some r) :
    Calls Tryd.prog 55 ([.slice A_tokens_0 l_tokens_0.length c_tokens_0] : List Value).toArray w0 (fun e w => e = .returned (.bool r) ∧ Hp S0 w0 w []) := by
  have H : (((valiseref10_sound.l1 FU 0 l_tokens_0).bind fun (yj1 : Sum (Bool) (Unit)) => onR yj1 (fun r => some r) fun () => some true) : Option (Bool)) = some r := h
  refine calls_start Tryd.func55 rfl rfl ?_
  refine L_seq ?_
  refine L_region ?_
  refine F_val rfl rfl rfl (O_assign rfl rfl) ?_
  refine F_nil ?_
  refine L_seq ?_
  refine L_seq ?_
  refine L_region ?_
  refine F_val rfl rfl rfl (O_assign rfl rfl) ?_
  refine F_nil ?_
  obtain ⟨yj1, Hyj1, H⟩ := of_bind H
  refine L_join (fun a w => yj1 = Sum.inr () ∧ Is Tryd.f55.ntmps a [] ∧ Hp S0 w0 w [.rd A_tokens_0 (rowC E_api_Token l_tokens_0)]) (fun Qj1 hNj1 hOj1 => ?_) (fun a w hR => ?_)
  · have HOj1 := H
    have H := Hyj1
    refine L_blk (fun Qb101 hNb101 hXb101 hOb101 => ?_)
    refine L_lp (fun k a w => ∃ (i_166 : Int), Is Tryd.f55.ntmps a [(0, .slice A_tokens_0 l_tokens_0.length c_tokens_0), (3, .int .i64 i_166)] ∧ Hp S0 w0 w [.rd A_tokens_0 (rowC E_api_Token l_tokens_0)] ∧ valiseref10_sound.l1 k i_166 l_tokens_0 = some yj1) FU (fun a ha => ⟨_, Is.cons ha (Is.cons ha (Is.nil ha) rfl) rfl, HS0.sel [0] rfl, H⟩) (fun kp165 a w167 hI Qp165 hNp165 hOp165 => ?_)
    obtain ⟨i_166, ha, HS168, HAp165⟩ := hI
    cases kp165 with
    | zero => cases (show (none : Option _) = some _ from HAp165)
    | succ kp165 =>
      have H := (valiseref10_sound.l1.eq_2 ..).symm.trans HAp165
      refine wpLF_app ?_ ha
      refine L_seq ?_
      refine L_seq ?_
      refine L_region ?_
      refine F_val rfl rfl rfl (O_move rfl rfl) ?_
      refine F_val rfl rfl rfl (O_move rfl rfl) ?_
      refine F_val rfl rfl rfl (O_len rfl rfl Tryd.underlying35) ?_
      refine F_val rfl rfl rfl (O_lt rfl rfl rfl) ?_
      refine F_nil ?_
      refine L_condP rfl (fun c169 => ?_) (fun c169 => ?_)
      · have H := of_pos H c169
        refine L_skip ?_
        refine L_seq ?_
        refine L_blk (fun Q170 hN170 hX170 hO170 => ?_)
        refine L_seq ?_
        refine L_region ?_
        refine F_val rfl rfl rfl (O_move rfl rfl) ?_
        refine F_val rfl rfl rfl (O_move rfl rfl) ?_
        obtain ⟨⟨g171, g172⟩, H⟩ := of_gd H
        refine F_val rfl rfl rfl (O_idx rfl rfl rfl Tryd.underlying35 size50 g171 g172 (Cells.isA (HS168.cells_rd (i := 0) rfl) (rowC_ne (E := E_api_Token) g171 g172 (by decide)))) ?_
        refine F_val rfl rfl rfl (O_loadEl (E := E_api_Token) rfl rfl wide50 (HS168.cells_rd (i := 0) rfl) g171 g172 (by decide)) ?_
        refine F_alloc (C := [.int .i64 0, .int .i64 0, .int .u8 0]) rfl rfl rfl rfl zero50 rfl HS168 (fun w173 g175 HS174 => ?_)
        have HS174 : Hp S0 w0 w173 [.rd A_tokens_0 (rowC E_api_Token l_tokens_0), .box g175 [.int .i64 0, .int .i64 0, .int .u8 0] 50] := HS174
        refine F_stB 1 ([.int .i64 ((rdx E_api_Token l_tokens_0 i_166).1), .int .i64 ((rdx E_api_Token l_tokens_0 i_166).2.1), .int .u8 ((rdx E_api_Token l_tokens_0 i_166).2.2)]) rfl rfl rfl rfl rfl size50 HS174 rfl rfl rfl rfl rfl (fun w177 HS178 => ?_)
        have HS178 : Hp S0 w0 w177 [.rd A_tokens_0 (rowC E_api_Token l_tokens_0), .box g175 [.int .i64 ((rdx E_api_Token l_tokens_0 i_166).1), .int .i64 ((rdx E_api_Token l_tokens_0 i_166).2.1), .int .u8 ((rdx E_api_Token l_tokens_0 i_166).2.2)] 50] := HS178
        refine F_nil ?_
        refine L_seq ?_
        refine L_region ?_
        refine F_val rfl rfl rfl (O_loadWB' (k := 0) (vs := [.int .i64 ((rdx E_api_Token l_tokens_0 i_166).1), .int .i64 ((rdx E_api_Token l_tokens_0 i_166).2.1), .int .u8 ((rdx E_api_Token l_tokens_0 i_166).2.2)]) rfl rfl wide50 (HS178.cells_box (i := 1) rfl) rfl rfl (by simp)) ?_
        obtain ⟨z181, h180, H⟩ := of_bind H
        refine F_qcall (v := .bool z181) (xs := [.tmp 15]) rfl rfl rfl rfl Tryd.func76 nm76 rfl rfl ((valiseref10_copies.calls (HS178.give [] rfl (Lent.nil)) h180).mono (fun e w hc => ?_)) (fun w182 hw183 => ?_)
        · obtain ⟨rfl, h⟩ := hc
          exact ⟨rfl, h.chg0⟩
        have HS184 := HS178.keep hw183
        refine F_val rfl rfl rfl (O_notb rfl rfl) ?_
        refine F_val rfl rfl rfl (O_move rfl rfl) ?_
        refine F_grp 9 [(27, .bool (decide (((!z181) = true) ∧ (((rdx E_api_Token l_tokens_0 i_166).1 ≠ 0) ∨ ((rdx E_api_Token l_tokens_0 i_166).2.1 ≠ 0))))), (0, .slice A_tokens_0 l_tokens_0.length c_tokens_0), (3, .int .i64 i_166)] ?_ ?_
        · rcases Decidable.em ((!z181) = true) with c192 | c192
          · refine F_know (i := 18) rfl (congrArg Value.bool c192) ?_
            refine F_gval rfl rfl rfl rfl rfl rfl (O_fieldB rfl rfl field50_0) ?_
            refine F_gval rfl rfl rfl rfl rfl rfl (O_loadB rfl rfl flat3 (HS184.cells_box (i := 1) rfl) rfl) ?_
            refine F_gval rfl rfl rfl rfl rfl rfl (O_ne rfl rfl rfl) ?_
            refine F_gval rfl rfl rfl rfl rfl rfl (O_move rfl rfl) ?_
            refine F_grp 4 [(26, .bool (decide (((rdx E_api_Token l_tokens_0 i_166).1 ≠ 0) ∨ ((rdx E_api_Token l_tokens_0 i_166).2.1 ≠ 0)))), (0, .slice A_tokens_0 l_tokens_0.length c_tokens_0), (3, .int .i64 i_166), (18, .bool true), (19, .pointer (some ⟨g175, 0, none⟩)), (20, .int .i64 ((rdx E_api_Token l_tokens_0 i_166).1)), (21, .bool (decide ((rdx E_api_Token l_tokens_0 i_166).1 ≠ 0))), (22, .bool (decide ((rdx E_api_Token l_tokens_0 i_166).1 ≠ 0)))] ?_ ?_
            · rcases Decidable.em ((rdx E_api_Token l_tokens_0 i_166).1 ≠ 0) with c196 | c196
              · refine F_know (i := 22) rfl (dec_t c196) ?_
                refine F_gskip rfl rfl rfl rfl rfl rfl rfl ?_
                refine F_gskip rfl rfl rfl rfl rfl rfl rfl ?_
                refine F_gskip rfl rfl rfl rfl rfl rfl rfl ?_
                refine F_gval rfl rfl rfl rfl rfl rfl (O_pickT rfl rfl rfl) ?_
                refine F_know (i := 26) rfl (dec_or_t (q := (rdx E_api_Token l_tokens_0 i_166).2.1 ≠ 0) c196) ?_
                exact F_grpE (fun a ha => Is.cons ha (Is.cons ha (Is.cons ha (Is.cons ha (Is.cons ha (Is.cons ha (Is.cons ha (Is.cons (i := 22) (v := .bool (decide ((rdx E_api_Token l_tokens_0 i_166).1 ≠ 0))) ha (Is.nil ha) (congrArg some (dec_t c196).symm)) rfl) rfl) rfl) rfl) rfl) rfl) rfl)
              · refine F_know (i := 22) rfl (dec_f c196) ?_
                refine F_gval rfl rfl rfl rfl rfl rfl (O_fieldB rfl rfl field50_1) ?_
                refine F_gval rfl rfl rfl rfl rfl rfl (O_loadB rfl rfl flat3 (HS184.cells_box (i := 1) rfl) rfl) ?_
                refine F_gval rfl rfl rfl rfl rfl rfl (O_ne rfl rfl rfl) ?_
                refine F_gval rfl rfl rfl rfl rfl rfl (O_pickF rfl rfl rfl) ?_
                refine F_know (i := 26) rfl (dec_or_f (q := (rdx E_api_Token l_tokens_0 i_166).2.1 ≠ 0) c196) ?_
                exact F_grpE (fun a ha => Is.cons ha (Is.cons ha (Is.cons ha (Is.cons ha (Is.cons ha (Is.cons ha (Is.cons ha (Is.cons (i := 22) (v := .bool (decide ((rdx E_api_Token l_tokens_0 i_166).1 ≠ 0))) ha (Is.nil ha) (congrArg some (dec_f c196).symm)) rfl) rfl) rfl) rfl) rfl) rfl) rfl)
            · skip
              refine F_val rfl rfl rfl (O_pickT rfl rfl rfl) ?_
              refine F_know (i := 27) rfl (dec_and_t (q := ((rdx E_api_Token l_tokens_0 i_166).1 ≠ 0) ∨ ((rdx E_api_Token l_tokens_0 i_166).2.1 ≠ 0)) c192) ?_
              exact F_grpE (fun a ha => Is.cons ha (Is.cons ha (Is.cons ha (Is.nil ha) rfl) rfl) rfl)
          · refine F_know (i := 18) rfl (congrArg Value.bool (Bool.eq_false_iff.mpr c192)) ?_
            refine F_gskip rfl rfl rfl rfl rfl rfl rfl ?_
            refine F_gskip rfl rfl rfl rfl rfl rfl rfl ?_
            refine F_gskip rfl rfl rfl rfl rfl rfl rfl ?_
            refine F_gskip rfl rfl rfl rfl rfl rfl rfl ?_
            refine F_gskip rfl rfl rfl rfl rfl rfl rfl ?_
            refine F_gskip rfl rfl rfl rfl rfl rfl rfl ?_
            refine F_gskip rfl rfl rfl rfl rfl rfl rfl ?_
            refine F_gskip rfl rfl rfl rfl rfl rfl rfl ?_
            refine F_val rfl rfl rfl (O_pickF rfl rfl rfl) ?_
            refine F_know (i := 27) rfl (dec_and_f (q := ((rdx E_api_Token l_tokens_0 i_166).1 ≠ 0) ∨ ((rdx E_api_Token l_tokens_0 i_166).2.1 ≠ 0)) c192) ?_
            exact F_grpE (fun a ha => Is.cons ha (Is.cons ha (Is.cons ha (Is.nil ha) rfl) rfl) rfl)
        · skip
          refine F_nil ?_
          refine L_condP rfl (fun c197 => ?_) (fun c197 => ?_)
          · have H := of_pos H c197
            refine L_seq ?_
            refine L_region ?_
            refine F_val rfl rfl rfl (O_assign rfl rfl) ?_
            refine F_nil ?_
            refine L_ret (fun a ha => (hO170 .ret a _ rfl (hOp165 .ret a _ rfl (hOb101 .ret a _ rfl (hOj1 .ret a _ rfl (post_ret1 ha rfl rfl ?_))))))
            obtain rfl := Option.some.inj H
            obtain rfl := Option.some.inj (show (some false : Option (Bool)) = some _ from HOj1)
            exact ⟨rfl, HS184.sel [] rfl⟩
          · have H := of_neg H c197
            refine L_skip ?_
            refine L_endB hN170 ?_
            refine L_region ?_
            refine F_val rfl rfl rfl (O_move rfl rfl) ?_
            refine F_val rfl rfl rfl (O_add rfl rfl rfl) ?_
            obtain ⟨x198, h199, H⟩ := of_bnd H
            refine F_val rfl rfl rfl (O_assign' rfl rfl (congrArg (Value.int .i64) h199)) ?_
            refine F_nil ?_
            refine L_nil (fun a ha => hNp165 _ a _ (Nat.lt_succ_self _) ⟨_, Is.cons ha (Is.cons ha (Is.nil ha) rfl) rfl, HS184.sel [0] rfl, H⟩)
      · have H := of_neg H c169
        refine L_exitB (fun a w h => hOp165 (.exit 0) a w rfl (hXb101 a w h)) ?_
        refine L_nil (fun a ha => hNj1 a _ ⟨(Option.some.inj H).symm, Is.nil ha, HS168.sel [0] rfl⟩)
  · obtain ⟨rfl, ha, HS201⟩ := hR
    refine wpLF_app ?_ ha
    have H := (onR_inr _ _ _).symm.trans H
    refine L_seq ?_
    refine L_region ?_
    refine F_val rfl rfl rfl (O_assign rfl rfl) ?_
    refine F_nil ?_
    refine L_ret (fun a ha => (post_ret1 ha rfl rfl ?_))
    obtain rfl := Option.some.inj H
    exact ⟨rfl, HS201.sel [] rfl⟩

/-! function 53: valise/valiseref10.lengthBits -/
theorem valiseref10_lengthBits.calls {S0 : Nat → Prop} {w0 : World} {symbol_0 : Int} {r : Int} (HS0 : Hp S0 w0 w0 []) (h : valiseref10_lengthBits.f symbol_0 = some r) :
    Calls Tryd.prog 53 ([.int .i64 symbol_0] : List Value).toArray w0 (fun e w => e = .returned (.int .i64 r) ∧ Hp S0 w0 w []) := by
  have H : ((if (symbol_0 < 265) ∨ (symbol_0 = 285) then (some 0) else (some (IntKind.i64.wrap (Int.tdiv (IntKind.i64.wrap (symbol_0 - 261)) 4)))) : Option (Int)) = some r := h
  refine calls_start Tryd.func53 rfl rfl ?_
  refine L_seq ?_
  refine L_region ?_
  refine F_val rfl rfl rfl (O_assign rfl rfl) ?_
  refine F_nil ?_
  refine L_seq ?_
  refine L_seq ?_
  refine L_region ?_
  refine F_val rfl rfl rfl (O_move rfl rfl) ?_
  refine F_val rfl rfl rfl (O_lt rfl rfl rfl) ?_
  refine F_val rfl rfl rfl (O_move rfl rfl) ?_
  refine F_grp 3 [(8, .bool (decide ((symbol_0 < 265) ∨ (symbol_0 = 285)))), (0, .int .i64 symbol_0)] ?_ ?_
  · rcases Decidable.em (symbol_0 < 265) with c4 | c4
    · refine F_know (i := 5) rfl (dec_t c4) ?_
      refine F_gskip rfl rfl rfl rfl rfl rfl rfl ?_
      refine F_gskip rfl rfl rfl rfl rfl rfl rfl ?_
      refine F_val rfl rfl rfl (O_pickT rfl rfl rfl) ?_
      refine F_know (i := 8) rfl (dec_or_t (q := symbol_0 = 285) c4) ?_
      exact F_grpE (fun a ha => Is.cons ha (Is.cons ha (Is.nil ha) rfl) rfl)
    · refine F_know (i := 5) rfl (dec_f c4) ?_
      refine F_gval rfl rfl rfl rfl rfl rfl (O_move rfl rfl) ?_
      refine F_gval rfl rfl rfl rfl rfl rfl (O_eq rfl rfl rfl) ?_
      refine F_val rfl rfl rfl (O_pickF rfl rfl rfl) ?_
      refine F_know (i := 8) rfl (dec_or_f (q := symbol_0 = 285) c4) ?_
      exact F_grpE (fun a ha => Is.cons ha (Is.cons ha (Is.nil ha) rfl) rfl)
  · skip
    refine F_nil ?_
    refine L_condP rfl (fun c5 => ?_) (fun c5 => ?_)
    · have H := of_pos H c5
      refine L_seq ?_
      refine L_region ?_
      refine F_val rfl rfl rfl (O_assign rfl rfl) ?_
      refine F_nil ?_
      refine L_ret (fun a ha => (post_ret1 ha rfl rfl ?_))
      obtain rfl := Option.some.inj H
      exact ⟨rfl, HS0.sel [] rfl⟩
    · have H := of_neg H c5
      refine L_skip ?_
      refine L_seq ?_
      refine L_region ?_
      refine F_val rfl rfl rfl (O_move rfl rfl) ?_
      refine F_val rfl rfl rfl (O_sub rfl rfl rfl) ?_
      refine F_val rfl rfl rfl (O_quo rfl rfl rfl (by decide)) ?_
      refine F_val rfl rfl rfl (O_assign rfl rfl) ?_
      refine F_nil ?_
      refine L_ret (fun a ha => (post_ret1 ha rfl rfl ?_))
      obtain rfl := Option.some.inj H
      exact ⟨rfl, HS0.sel [] rfl⟩

/-! function 52: valise/valiseref10.lengthBase -/
theorem valiseref10_lengthBase.calls {S0 : Nat → Prop} {w0 : World} {symbol_0 : Int} {r : Int} (HS0 : Hp S0 w0 w0 []) (h : valiseref10_lengthBase.f symbol_0 = some r) :
    Calls Tryd.prog 52 ([.int .i64 symbol_0] : List Value).toArray w0 (fun e w => e = .returned (.int .i64 r) ∧ Hp S0 w0 w []) := by
  have H : ((if symbol_0 = 285 then (some 258) else ((valiseref10_lengthBase.l1 FU 3 257 symbol_0).bind fun base_50 => some base_50)) : Option (Int)) = some r := h
  refine calls_start Tryd.func52 rfl rfl ?_
  refine L_seq ?_
  refine L_region ?_
  refine F_val rfl rfl rfl (O_assign rfl rfl) ?_
  refine F_nil ?_
  refine L_seq ?_
  refine L_seq ?_
  refine L_region ?_
  refine F_val rfl rfl rfl (O_move rfl rfl) ?_
  refine F_val rfl rfl rfl (O_eq rfl rfl rfl) ?_
  refine F_nil ?_
  refine L_condP rfl (fun c1 => ?_) (fun c1 => ?_)
  · have H := of_pos H c1
    refine L_seq ?_
    refine L_region ?_
    refine F_val rfl rfl rfl (O_assign rfl rfl) ?_
    refine F_nil ?_
    refine L_ret (fun a ha => (post_ret1 ha rfl rfl ?_))
    obtain rfl := Option.some.inj H
    exact ⟨rfl, HS0.sel [] rfl⟩
  · have H := of_neg H c1
    refine L_skip ?_
    refine L_seq ?_
    refine L_region ?_
    refine F_val rfl rfl rfl (O_assign rfl rfl) ?_
    refine F_nil ?_
    refine L_seq ?_
    refine L_seq ?_
    refine L_region ?_
    refine F_val rfl rfl rfl (O_assign rfl rfl) ?_
    refine F_nil ?_
    obtain ⟨yj2, Hyj2, H⟩ := of_bind H
    refine L_join (fun a w => ∃ (base_50 : Int), yj2 = base_50 ∧ Is Tryd.f52.ntmps a [(3, .int .i64 base_50)] ∧ Hp S0 w0 w []) (fun Qj2 hNj2 hOj2 => ?_) (fun a w hR => ?_)
    · skip
      have H := Hyj2
      refine L_blk (fun Qb51 hNb51 hXb51 hOb51 => ?_)
      refine L_lp (fun k a w => ∃ (base_81 : Int), ∃ (s_82 : Int), Is Tryd.f52.ntmps a [(0, .int .i64 symbol_0), (3, .int .i64 base_81), (4, .int .i64 s_82)] ∧ Hp S0 w0 w [] ∧ valiseref10_lengthBase.l1 k base_81 s_82 symbol_0 = some yj2) FU (fun a ha => ⟨_, _, Is.cons ha (Is.cons ha (Is.cons ha (Is.nil ha) rfl) rfl) rfl, HS0.sel [] rfl, H⟩) (fun kp80 a w83 hI Qp80 hNp80 hOp80 => ?_)
      obtain ⟨base_81, s_82, ha, HS84, HAp80⟩ := hI
      cases kp80 with
      | zero => cases (show (none : Option _) = some _ from HAp80)
      | succ kp80 =>
        have H := (valiseref10_lengthBase.l1.eq_2 ..).symm.trans HAp80
        refine wpLF_app ?_ ha
        refine L_seq ?_
        refine L_seq ?_
        refine L_region ?_
        refine F_val rfl rfl rfl (O_move rfl rfl) ?_
        refine F_val rfl rfl rfl (O_move rfl rfl) ?_
        refine F_val rfl rfl rfl (O_lt rfl rfl rfl) ?_
        refine F_nil ?_
        refine L_condP rfl (fun c85 => ?_) (fun c85 => ?_)
        · have H := of_pos H c85
          refine L_skip ?_
          refine L_seq ?_
          refine L_blk (fun Q86 hN86 hX86 hO86 => ?_)
          refine L_region ?_
          refine F_val rfl rfl rfl (O_move rfl rfl) ?_
          refine F_val rfl rfl rfl (O_move rfl rfl) ?_
          obtain ⟨z89, h88, H⟩ := of_bind H
          refine F_qcall (v := .int .i64 z89) (xs := [.tmp 13]) rfl rfl rfl rfl Tryd.func53 nm53 rfl rfl ((valiseref10_lengthBits.calls (HS84.give [] rfl (Lent.nil)) h88).mono (fun e w hc => ?_)) (fun w90 hw91 => ?_)
          · obtain ⟨rfl, h⟩ := hc
            exact ⟨rfl, h.chg0⟩
          have HS92 := HS84.keep hw91
          refine F_val rfl rfl rfl (O_conv rfl rfl ⟨_, Tryd.underlying3⟩ Tryd.underlying34) ?_
          obtain ⟨g93, H⟩ := of_gd H
          refine F_val rfl rfl rfl (O_shl rfl rfl rfl g93) ?_
          refine F_val rfl rfl rfl (O_add rfl rfl rfl) ?_
          obtain ⟨x94, h95, H⟩ := of_bnd H
          refine F_val rfl rfl rfl (O_assign' rfl rfl (congrArg (Value.int .i64) h95)) ?_
          refine F_nil ?_
          refine L_endB hN86 ?_
          refine L_region ?_
          refine F_val rfl rfl rfl (O_move rfl rfl) ?_
          refine F_val rfl rfl rfl (O_add rfl rfl rfl) ?_
          obtain ⟨x96, h97, H⟩ := of_bnd H
          refine F_val rfl rfl rfl (O_assign' rfl rfl (congrArg (Value.int .i64) h97)) ?_
          refine F_nil ?_
          refine L_nil (fun a ha => hNp80 _ a _ (Nat.lt_succ_self _) ⟨_, _, Is.cons ha (Is.cons ha (Is.cons ha (Is.nil ha) rfl) rfl) rfl, HS92.sel [] rfl, H⟩)
        · have H := of_neg H c85
          refine L_exitB (fun a w h => hOp80 (.exit 0) a w rfl (hXb51 a w h)) ?_
          refine L_nil (fun a ha => hNj2 a _ ⟨_, (Option.some.inj H).symm, Is.cons ha (Is.nil ha) rfl, HS84.sel [] rfl⟩)
    · obtain ⟨base_50, ej, ha, HS99⟩ := hR
      obtain rfl := ej.symm
      refine wpLF_app ?_ ha
      refine L_seq ?_
      refine L_region ?_
      refine F_val rfl rfl rfl (O_move rfl rfl) ?_
      refine F_val rfl rfl rfl (O_assign rfl rfl) ?_
      refine F_nil ?_
      refine L_ret (fun a ha => (post_ret1 ha rfl rfl ?_))
      obtain rfl := Option.some.inj H
      exact ⟨rfl, HS99.sel [] rfl⟩

/-! function 20: valise/valiseref10.LengthSymbol -/
theorem valiseref10_LengthSymbol.calls {S0 : Nat → Prop} {w0 : World} {length_0 : Int} {r : Int × Int × Int × Int} (HS0 : Hp S0 w0 w0 []) (h : valiseref10_LengthSymbol.f length_0 = some r) :
    Calls Tryd.prog 20 ([.int .i64 length_0] : List Value).toArray w0 (fun e w => e = .returned (.tuple #[.int .i64 r.1, .int .i64 r.2.1, .int .i64 r.2.2.1, .int .i64 r.2.2.2]) ∧ Hp S0 w0 w []) := by
  have H : ((if (length_0 < 3) ∨ (258 < length_0) then (some (0, 0, 0, 1)) else ((valiseref10_LengthSymbol.l1 FU 285 257 length_0).bind fun symbol_127 => (valiseref10_lengthBits.f symbol_127).bind fun z252 => (valiseref10_lengthBase.f symbol_127).bind fun z258 => some (symbol_127, z252, IntKind.i64.wrap (length_0 - z258), 0))) : Option (Int × Int × Int × Int)) = some r := h
  refine calls_start Tryd.func20 rfl rfl ?_
  refine L_seq ?_
  refine L_region ?_
  refine F_val rfl rfl rfl (O_assign rfl rfl) ?_
  refine F_val rfl rfl rfl (O_assign rfl rfl) ?_
  refine F_val rfl rfl rfl (O_assign rfl rfl) ?_
  refine F_val rfl rfl rfl (O_assign rfl rfl) ?_
  refine F_nil ?_
  refine L_seq ?_
  refine L_seq ?_
  refine L_region ?_
  refine F_val rfl rfl rfl (O_move rfl rfl) ?_
  refine F_val rfl rfl rfl (O_lt rfl rfl rfl) ?_
  refine F_val rfl rfl rfl (O_move rfl rfl) ?_
  refine F_grp 3 [(14, .bool (decide ((length_0 < 3) ∨ (258 < length_0)))), (0, .int .i64 length_0)] ?_ ?_
  · rcases Decidable.em (length_0 < 3) with c4 | c4
    · refine F_know (i := 11) rfl (dec_t c4) ?_
      refine F_gskip rfl rfl rfl rfl rfl rfl rfl ?_
      refine F_gskip rfl rfl rfl rfl rfl rfl rfl ?_
      refine F_val rfl rfl rfl (O_pickT rfl rfl rfl) ?_
      refine F_know (i := 14) rfl (dec_or_t (q := 258 < length_0) c4) ?_
      exact F_grpE (fun a ha => Is.cons ha (Is.cons ha (Is.nil ha) rfl) rfl)
    · refine F_know (i := 11) rfl (dec_f c4) ?_
      refine F_gval rfl rfl rfl rfl rfl rfl (O_move rfl rfl) ?_
      refine F_gval rfl rfl rfl rfl rfl rfl (O_gt rfl rfl rfl) ?_
      refine F_val rfl rfl rfl (O_pickF rfl rfl rfl) ?_
      refine F_know (i := 14) rfl (dec_or_f (q := 258 < length_0) c4) ?_
      exact F_grpE (fun a ha => Is.cons ha (Is.cons ha (Is.nil ha) rfl) rfl)
  · skip
    refine F_nil ?_
    refine L_condP rfl (fun c5 => ?_) (fun c5 => ?_)
    · have H := of_pos H c5
      refine L_seq ?_
      refine L_region ?_
      refine F_val rfl rfl rfl (O_assign rfl rfl) ?_
      refine F_val rfl rfl rfl (O_assign rfl rfl) ?_
      refine F_val rfl rfl rfl (O_assign rfl rfl) ?_
      refine F_val rfl rfl rfl (O_assign rfl rfl) ?_
      refine F_nil ?_
      refine L_ret (fun a ha => (post_ret4 ha rfl rfl rfl rfl rfl ?_))
      obtain rfl := Option.some.inj H
      exact ⟨rfl, HS0.sel [] rfl⟩
    · have H := of_neg H c5
      refine L_skip ?_
      refine L_seq ?_
      refine L_region ?_
      refine F_val rfl rfl rfl (O_assign rfl rfl) ?_
      refine F_nil ?_
      refine L_seq ?_
      refine L_seq ?_
      refine L_region ?_
      refine F_val rfl rfl rfl (O_assign rfl rfl) ?_
      refine F_nil ?_
      obtain ⟨yj6, Hyj6, H⟩ := of_bind H
      refine L_join (fun a w => ∃ (symbol_127 : Int), yj6 = symbol_127 ∧ Is Tryd.f20.ntmps a [(0, .int .i64 length_0), (6, .int .i64 symbol_127)] ∧ Hp S0 w0 w []) (fun Qj6 hNj6 hOj6 => ?_) (fun a w hR => ?_)
      · skip
        have H := Hyj6
        refine L_blk (fun Qb128 hNb128 hXb128 hOb128 => ?_)
        refine L_lp (fun k a w => ∃ (symbol_205 : Int), ∃ (s_206 : Int), Is Tryd.f20.ntmps a [(0, .int .i64 length_0), (6, .int .i64 symbol_205), (7, .int .i64 s_206)] ∧ Hp S0 w0 w [] ∧ valiseref10_LengthSymbol.l1 k symbol_205 s_206 length_0 = some yj6) FU (fun a ha => ⟨_, _, Is.cons ha (Is.cons ha (Is.cons ha (Is.nil ha) rfl) rfl) rfl, HS0.sel [] rfl, H⟩) (fun kp204 a w207 hI Qp204 hNp204 hOp204 => ?_)
        obtain ⟨symbol_205, s_206, ha, HS208, HAp204⟩ := hI
        cases kp204 with
        | zero => cases (show (none : Option _) = some _ from HAp204)
        | succ kp204 =>
          have H := (valiseref10_LengthSymbol.l1.eq_2 ..).symm.trans HAp204
          refine wpLF_app ?_ ha
          refine L_seq ?_
          refine L_seq ?_
          refine L_region ?_
          refine F_val rfl rfl rfl (O_move rfl rfl) ?_
          refine F_val rfl rfl rfl (O_lt rfl rfl rfl) ?_
          refine F_val rfl rfl rfl (O_move rfl rfl) ?_
          refine F_grp 3 [(20, .bool (decide ((s_206 < 285) ∧ (symbol_205 = 285)))), (0, .int .i64 length_0), (6, .int .i64 symbol_205), (7, .int .i64 s_206)] ?_ ?_
          · rcases Decidable.em (s_206 < 285) with c212 | c212
            · refine F_know (i := 17) rfl (dec_t c212) ?_
              refine F_gval rfl rfl rfl rfl rfl rfl (O_move rfl rfl) ?_
              refine F_gval rfl rfl rfl rfl rfl rfl (O_eq rfl rfl rfl) ?_
              refine F_val rfl rfl rfl (O_pickT rfl rfl rfl) ?_
              refine F_know (i := 20) rfl (dec_and_t (q := symbol_205 = 285) c212) ?_
              exact F_grpE (fun a ha => Is.cons ha (Is.cons ha (Is.cons ha (Is.cons ha (Is.nil ha) rfl) rfl) rfl) rfl)
            · refine F_know (i := 17) rfl (dec_f c212) ?_
              refine F_gskip rfl rfl rfl rfl rfl rfl rfl ?_
              refine F_gskip rfl rfl rfl rfl rfl rfl rfl ?_
              refine F_val rfl rfl rfl (O_pickF rfl rfl rfl) ?_
              refine F_know (i := 20) rfl (dec_and_f (q := symbol_205 = 285) c212) ?_
              exact F_grpE (fun a ha => Is.cons ha (Is.cons ha (Is.cons ha (Is.cons ha (Is.nil ha) rfl) rfl) rfl) rfl)
          · skip
            refine F_nil ?_
            refine L_condP rfl (fun c213 => ?_) (fun c213 => ?_)
            · have H := of_pos H c213
              refine L_skip ?_
              refine L_seq ?_
              refine L_blk (fun Q214 hN214 hX214 hO214 => ?_)
              refine L_seq ?_
              refine L_region ?_
              refine F_val rfl rfl rfl (O_move rfl rfl) ?_
              obtain ⟨z217, h216, H⟩ := of_bind H
              refine F_qcall (v := .int .i64 z217) (xs := [.tmp 23]) rfl rfl rfl rfl Tryd.func52 nm52 rfl rfl ((valiseref10_lengthBase.calls (HS208.give [] rfl (Lent.nil)) h216).mono (fun e w hc => ?_)) (fun w218 hw219 => ?_)
              · obtain ⟨rfl, h⟩ := hc
                exact ⟨rfl, h.chg0⟩
              have HS220 := HS208.keep hw219
              refine F_val rfl rfl rfl (O_assign rfl rfl) ?_
              refine F_nil ?_
              refine L_seq ?_
              refine L_region ?_
              refine F_val rfl rfl rfl (O_move rfl rfl) ?_
              refine F_val rfl rfl rfl (O_lt rfl rfl rfl) ?_
              refine F_val rfl rfl rfl (O_move rfl rfl) ?_
              obtain ⟨b228, Hb228, H⟩ := of_bind H
              refine F_grpQ 9 [(36, .bool b228), (0, .int .i64 length_0), (6, .int .i64 symbol_205), (7, .int .i64 s_206)] ?_ (fun w229 hw230 => ?_)
              · rcases Decidable.em (length_0 < 258) with c232 | c232
                · refine F_know (i := 27) rfl (dec_t c232) ?_
                  have H := of_pos Hb228 c232
                  refine F_gval rfl rfl rfl rfl rfl rfl (O_move rfl rfl) ?_
                  refine F_gval rfl rfl rfl rfl rfl rfl (O_move rfl rfl) ?_
                  refine F_gval rfl rfl rfl rfl rfl rfl (O_move rfl rfl) ?_
                  obtain ⟨z235, h234, H⟩ := of_bind H
                  refine F_gqcall (v := .int .i64 z235) (xs := [.tmp 30]) rfl rfl rfl rfl rfl rfl rfl Tryd.func53 nm53 rfl rfl ((valiseref10_lengthBits.calls (HS220.give [] rfl (Lent.nil)) h234).mono (fun e w hc => ?_)) (fun w236 hw237 => ?_)
                  · obtain ⟨rfl, h⟩ := hc
                    exact ⟨rfl, h.chg0⟩
                  have HS238 := HS220.keep hw237
                  refine F_gval rfl rfl rfl rfl rfl rfl (O_conv rfl rfl ⟨_, Tryd.underlying3⟩ Tryd.underlying34) ?_
                  obtain ⟨g239, H⟩ := of_gd H
                  refine F_gval rfl rfl rfl rfl rfl rfl (O_shl rfl rfl rfl g239) ?_
                  refine F_gval rfl rfl rfl rfl rfl rfl (O_add rfl rfl rfl) ?_
                  refine F_gval rfl rfl rfl rfl rfl rfl (O_lt rfl rfl rfl) ?_
                  refine F_val rfl rfl rfl (O_pickT rfl rfl rfl) ?_
                  refine F_know (i := 36) rfl (congrArg Value.bool (Option.some.inj H)) ?_
                  exact F_grpQE ((Chg.refl NoB _).trans hw237) (fun a ha => Is.cons ha (Is.cons ha (Is.cons ha (Is.cons ha (Is.nil ha) rfl) rfl) rfl) rfl)
                · refine F_know (i := 27) rfl (dec_f c232) ?_
                  have H := of_neg Hb228 c232
                  refine F_gskip rfl rfl rfl rfl rfl rfl rfl ?_
                  refine F_gskip rfl rfl rfl rfl rfl rfl rfl ?_
                  refine F_gskip rfl rfl rfl rfl rfl rfl rfl ?_
                  refine F_gskip rfl rfl rfl rfl rfl rfl rfl ?_
                  refine F_gskip rfl rfl rfl rfl rfl rfl rfl ?_
                  refine F_gskip rfl rfl rfl rfl rfl rfl rfl ?_
                  refine F_gskip rfl rfl rfl rfl rfl rfl rfl ?_
                  refine F_gskip rfl rfl rfl rfl rfl rfl rfl ?_
                  refine F_val rfl rfl rfl (O_pickF rfl rfl rfl) ?_
                  refine F_know (i := 36) rfl (congrArg Value.bool (Option.some.inj H)) ?_
                  exact F_grpQE (Chg.refl NoB _) (fun a ha => Is.cons ha (Is.cons ha (Is.cons ha (Is.cons ha (Is.nil ha) rfl) rfl) rfl) rfl)
              · have HS231 := HS220.keep hw230
                refine F_nil ?_
                obtain ⟨yj240, Hyj240, H⟩ := of_bind H
                refine L_join (fun a w => ∃ (symbol_242 : Int), yj240 = symbol_242 ∧ Is Tryd.f20.ntmps a [(0, .int .i64 length_0), (6, .int .i64 symbol_242), (7, .int .i64 s_206)] ∧ Hp S0 w0 w []) (fun Qj240 hNj240 hOj240 => ?_) (fun a w hR => ?_)
                · skip
                  have H := Hyj240
                  refine L_cond rfl (fun c243 => ?_) (fun c243 => ?_)
                  · have H := of_pos H c243
                    refine L_region ?_
                    refine F_val rfl rfl rfl (O_move rfl rfl) ?_
                    refine F_val rfl rfl rfl (O_assign rfl rfl) ?_
                    refine F_nil ?_
                    refine L_nil (fun a ha => hNj240 a _ ⟨_, (Option.some.inj H).symm, Is.cons ha (Is.cons ha (Is.cons ha (Is.nil ha) rfl) rfl) rfl, HS231.sel [] rfl⟩)
                  · have H := of_neg H (by rw [c243]; exact Bool.false_ne_true)
                    refine L_skip ?_
                    refine L_nil (fun a ha => hNj240 a _ ⟨_, (Option.some.inj H).symm, Is.cons ha (Is.cons ha (Is.cons ha (Is.nil ha) rfl) rfl) rfl, HS231.sel [] rfl⟩)
                · obtain ⟨symbol_242, ej, ha, HS245⟩ := hR
                  obtain rfl := ej.symm
                  refine wpLF_app ?_ ha
                  refine L_endB hN214 ?_
                  refine L_region ?_
                  refine F_val rfl rfl rfl (O_move rfl rfl) ?_
                  refine F_val rfl rfl rfl (O_add rfl rfl rfl) ?_
                  obtain ⟨x246, h247, H⟩ := of_bnd H
                  refine F_val rfl rfl rfl (O_assign' rfl rfl (congrArg (Value.int .i64) h247)) ?_
                  refine F_nil ?_
                  refine L_nil (fun a ha => hNp204 _ a _ (Nat.lt_succ_self _) ⟨_, _, Is.cons ha (Is.cons ha (Is.cons ha (Is.nil ha) rfl) rfl) rfl, HS245.sel [] rfl, H⟩)
            · have H := of_neg H c213
              refine L_exitB (fun a w h => hOp204 (.exit 0) a w rfl (hXb128 a w h)) ?_
              refine L_nil (fun a ha => hNj6 a _ ⟨_, (Option.some.inj H).symm, Is.cons ha (Is.cons ha (Is.nil ha) rfl) rfl, HS208.sel [] rfl⟩)
      · obtain ⟨symbol_127, ej, ha, HS249⟩ := hR
        obtain rfl := ej.symm
        refine wpLF_app ?_ ha
        refine L_seq ?_
        refine L_region ?_
        refine F_val rfl rfl rfl (O_move rfl rfl) ?_
        refine F_val rfl rfl rfl (O_move rfl rfl) ?_
        obtain ⟨z252, h251, H⟩ := of_bind H
        refine F_qcall (v := .int .i64 z252) (xs := [.tmp 39]) rfl rfl rfl rfl Tryd.func53 nm53 rfl rfl ((valiseref10_lengthBits.calls (HS249.give [] rfl (Lent.nil)) h251).mono (fun e w hc => ?_)) (fun w253 hw254 => ?_)
        · obtain ⟨rfl, h⟩ := hc
          exact ⟨rfl, h.chg0⟩
        have HS255 := HS249.keep hw254
        refine F_val rfl rfl rfl (O_move rfl rfl) ?_
        refine F_val rfl rfl rfl (O_move rfl rfl) ?_
        obtain ⟨z258, h257, H⟩ := of_bind H
        refine F_qcall (v := .int .i64 z258) (xs := [.tmp 42]) rfl rfl rfl rfl Tryd.func52 nm52 rfl rfl ((valiseref10_lengthBase.calls (HS255.give [] rfl (Lent.nil)) h257).mono (fun e w hc => ?_)) (fun w259 hw260 => ?_)
        · obtain ⟨rfl, h⟩ := hc
          exact ⟨rfl, h.chg0⟩
        have HS261 := HS255.keep hw260
        refine F_val rfl rfl rfl (O_sub rfl rfl rfl) ?_
        refine F_val rfl rfl rfl (O_assign rfl rfl) ?_
        refine F_val rfl rfl rfl (O_assign rfl rfl) ?_
        refine F_val rfl rfl rfl (O_assign rfl rfl) ?_
        refine F_val rfl rfl rfl (O_assign rfl rfl) ?_
        refine F_nil ?_
        refine L_ret (fun a ha => (post_ret4 ha rfl rfl rfl rfl rfl ?_))
        obtain rfl := Option.some.inj H
        exact ⟨rfl, HS261.sel [] rfl⟩

/-! function 50: valise/valiseref10.distBits -/
theorem valiseref10_distBits.calls {S0 : Nat → Prop} {w0 : World} {symbol_0 : Int} {r : Int} (HS0 : Hp S0 w0 w0 []) (h : valiseref10_distBits.f symbol_0 = some r) :
    Calls Tryd.prog 50 ([.int .i64 symbol_0] : List Value).toArray w0 (fun e w => e = .returned (.int .i64 r) ∧ Hp S0 w0 w []) := by
  have H : ((if symbol_0 < 4 then (some 0) else (some (IntKind.i64.wrap (Int.tdiv (IntKind.i64.wrap (symbol_0 - 2)) 2)))) : Option (Int)) = some r := h
  refine calls_start Tryd.func50 rfl rfl ?_
  refine L_seq ?_
  refine L_region ?_
  refine F_val rfl rfl rfl (O_assign rfl rfl) ?_
  refine F_nil ?_
  refine L_seq ?_
  refine L_seq ?_
  refine L_region ?_
  refine F_val rfl rfl rfl (O_move rfl rfl) ?_
  refine F_val rfl rfl rfl (O_lt rfl rfl rfl) ?_
  refine F_nil ?_
  refine L_condP rfl (fun c1 => ?_) (fun c1 => ?_)
  · have H := of_pos H c1
    refine L_seq ?_
    refine L_region ?_
    refine F_val rfl rfl rfl (O_assign rfl rfl) ?_
    refine F_nil ?_
    refine L_ret (fun a ha => (post_ret1 ha rfl rfl ?_))
    obtain rfl := Option.some.inj H
    exact ⟨rfl, HS0.sel [] rfl⟩
  · have H := of_neg H c1
    refine L_skip ?_
    refine L_seq ?_
    refine L_region ?_
    refine F_val rfl rfl rfl (O_move rfl rfl) ?_
    refine F_val rfl rfl rfl (O_sub rfl rfl rfl) ?_
    refine F_val rfl rfl rfl (O_quo rfl rfl rfl (by decide)) ?_
    refine F_val rfl rfl rfl (O_assign rfl rfl) ?_
    refine F_nil ?_
    refine L_ret (fun a ha => (post_ret1 ha rfl rfl ?_))
    obtain rfl := Option.some.inj H
    exact ⟨rfl, HS0.sel [] rfl⟩

/-! function 51: valise/valiseref10.distBase -/
theorem valiseref10_distBase.calls {S0 : Nat → Prop} {w0 : World} {symbol_0 : Int} {r : Int} (HS0 : Hp S0 w0 w0 []) (h : valiseref10_distBase.f symbol_0 = some r) :
    Calls Tryd.prog 51 ([.int .i64 symbol_0] : List Value).toArray w0 (fun e w => e = .returned (.int .i64 r) ∧ Hp S0 w0 w []) := by
  have H : (((valiseref10_distBase.l1 FU 1 0 symbol_0).bind fun base_49 => some base_49) : Option (Int)) = some r := h
  refine calls_start Tryd.func51 rfl rfl ?_
  refine L_seq ?_
  refine L_region ?_
  refine F_val rfl rfl rfl (O_assign rfl rfl) ?_
  refine F_nil ?_
  refine L_seq ?_
  refine L_region ?_
  refine F_val rfl rfl rfl (O_assign rfl rfl) ?_
  refine F_nil ?_
  refine L_seq ?_
  refine L_seq ?_
  refine L_region ?_
  refine F_val rfl rfl rfl (O_assign rfl rfl) ?_
  refine F_nil ?_
  obtain ⟨yj1, Hyj1, H⟩ := of_bind H
  refine L_join (fun a w => ∃ (base_49 : Int), yj1 = base_49 ∧ Is Tryd.f51.ntmps a [(3, .int .i64 base_49)] ∧ Hp S0 w0 w []) (fun Qj1 hNj1 hOj1 => ?_) (fun a w hR => ?_)
  · skip
    have H := Hyj1
    refine L_blk (fun Qb50 hNb50 hXb50 hOb50 => ?_)
    refine L_lp (fun k a w => ∃ (base_80 : Int), ∃ (s_81 : Int), Is Tryd.f51.ntmps a [(0, .int .i64 symbol_0), (3, .int .i64 base_80), (4, .int .i64 s_81)] ∧ Hp S0 w0 w [] ∧ valiseref10_distBase.l1 k base_80 s_81 symbol_0 = some yj1) FU (fun a ha => ⟨_, _, Is.cons ha (Is.cons ha (Is.cons ha (Is.nil ha) rfl) rfl) rfl, HS0.sel [] rfl, H⟩) (fun kp79 a w82 hI Qp79 hNp79 hOp79 => ?_)
    obtain ⟨base_80, s_81, ha, HS83, HAp79⟩ := hI
    cases kp79 with
    | zero => cases (show (none : Option _) = some _ from HAp79)
    | succ kp79 =>
      have H := (valiseref10_distBase.l1.eq_2 ..).symm.trans HAp79
      refine wpLF_app ?_ ha
      refine L_seq ?_
      refine L_seq ?_
      refine L_region ?_
      refine F_val rfl rfl rfl (O_move rfl rfl) ?_
      refine F_val rfl rfl rfl (O_move rfl rfl) ?_
      refine F_val rfl rfl rfl (O_lt rfl rfl rfl) ?_
      refine F_nil ?_
      refine L_condP rfl (fun c84 => ?_) (fun c84 => ?_)
      · have H := of_pos H c84
        refine L_skip ?_
        refine L_seq ?_
        refine L_blk (fun Q85 hN85 hX85 hO85 => ?_)
        refine L_region ?_
        refine F_val rfl rfl rfl (O_move rfl rfl) ?_
        refine F_val rfl rfl rfl (O_move rfl rfl) ?_
        obtain ⟨z88, h87, H⟩ := of_bind H
        refine F_qcall (v := .int .i64 z88) (xs := [.tmp 11]) rfl rfl rfl rfl Tryd.func50 nm50 rfl rfl ((valiseref10_distBits.calls (HS83.give [] rfl (Lent.nil)) h87).mono (fun e w hc => ?_)) (fun w89 hw90 => ?_)
        · obtain ⟨rfl, h⟩ := hc
          exact ⟨rfl, h.chg0⟩
        have HS91 := HS83.keep hw90
        refine F_val rfl rfl rfl (O_conv rfl rfl ⟨_, Tryd.underlying3⟩ Tryd.underlying34) ?_
        obtain ⟨g92, H⟩ := of_gd H
        refine F_val rfl rfl rfl (O_shl rfl rfl rfl g92) ?_
        refine F_val rfl rfl rfl (O_add rfl rfl rfl) ?_
        obtain ⟨x93, h94, H⟩ := of_bnd H
        refine F_val rfl rfl rfl (O_assign' rfl rfl (congrArg (Value.int .i64) h94)) ?_
        refine F_nil ?_
        refine L_endB hN85 ?_
        refine L_region ?_
        refine F_val rfl rfl rfl (O_move rfl rfl) ?_
        refine F_val rfl rfl rfl (O_add rfl rfl rfl) ?_
        obtain ⟨x95, h96, H⟩ := of_bnd H
        refine F_val rfl rfl rfl (O_assign' rfl rfl (congrArg (Value.int .i64) h96)) ?_
        refine F_nil ?_
        refine L_nil (fun a ha => hNp79 _ a _ (Nat.lt_succ_self _) ⟨_, _, Is.cons ha (Is.cons ha (Is.cons ha (Is.nil ha) rfl) rfl) rfl, HS91.sel [] rfl, H⟩)
      · have H := of_neg H c84
        refine L_exitB (fun a w h => hOp79 (.exit 0) a w rfl (hXb50 a w h)) ?_
        refine L_nil (fun a ha => hNj1 a _ ⟨_, (Option.some.inj H).symm, Is.cons ha (Is.nil ha) rfl, HS83.sel [] rfl⟩)
  · obtain ⟨base_49, ej, ha, HS98⟩ := hR
    obtain rfl := ej.symm
    refine wpLF_app ?_ ha
    refine L_seq ?_
    refine L_region ?_
    refine F_val rfl rfl rfl (O_move rfl rfl) ?_
    refine F_val rfl rfl rfl (O_assign rfl rfl) ?_
    refine F_nil ?_
    refine L_ret (fun a ha => (post_ret1 ha rfl rfl ?_))
    obtain rfl := Option.some.inj H
    exact ⟨rfl, HS98.sel [] rfl⟩

/-! function 22: valise/valiseref10.DistSymbol -/
theorem valiseref10_DistSymbol.calls {S0 : Nat → Prop} {w0 : World} {dist_0 : Int} {r : Int × Int × Int × Int} (HS0 : Hp S0 w0 w0 []) (h : valiseref10_DistSymbol.f dist_0 = some r) :
    Calls Tryd.prog 22 ([.int .i64 dist_0] : List Value).toArray w0 (fun e w => e = .returned (.tuple #[.int .i64 r.1, .int .i64 r.2.1, .int .i64 r.2.2.1, .int .i64 r.2.2.2]) ∧ Hp S0 w0 w []) := by
  have H : ((if (dist_0 < 1) ∨ (32768 < dist_0) then (some (0, 0, 0, 1)) else ((valiseref10_DistSymbol.l1 FU 0 dist_0).bind fun symbol_43 => (valiseref10_distBits.f symbol_43).bind fun z84 => (valiseref10_distBase.f symbol_43).bind fun z90 => some (symbol_43, z84, IntKind.i64.wrap (dist_0 - z90), 0))) : Option (Int × Int × Int × Int)) = some r := h
  refine calls_start Tryd.func22 rfl rfl ?_
  refine L_seq ?_
  refine L_region ?_
  refine F_val rfl rfl rfl (O_assign rfl rfl) ?_
  refine F_val rfl rfl rfl (O_assign rfl rfl) ?_
  refine F_val rfl rfl rfl (O_assign rfl rfl) ?_
  refine F_val rfl rfl rfl (O_assign rfl rfl) ?_
  refine F_nil ?_
  refine L_seq ?_
  refine L_seq ?_
  refine L_region ?_
  refine F_val rfl rfl rfl (O_move rfl rfl) ?_
  refine F_val rfl rfl rfl (O_lt rfl rfl rfl) ?_
  refine F_val rfl rfl rfl (O_move rfl rfl) ?_
  refine F_grp 3 [(12, .bool (decide ((dist_0 < 1) ∨ (32768 < dist_0)))), (0, .int .i64 dist_0)] ?_ ?_
  · rcases Decidable.em (dist_0 < 1) with c4 | c4
    · refine F_know (i := 9) rfl (dec_t c4) ?_
      refine F_gskip rfl rfl rfl rfl rfl rfl rfl ?_
      refine F_gskip rfl rfl rfl rfl rfl rfl rfl ?_
      refine F_val rfl rfl rfl (O_pickT rfl rfl rfl) ?_
      refine F_know (i := 12) rfl (dec_or_t (q := 32768 < dist_0) c4) ?_
      exact F_grpE (fun a ha => Is.cons ha (Is.cons ha (Is.nil ha) rfl) rfl)
    · refine F_know (i := 9) rfl (dec_f c4) ?_
      refine F_gval rfl rfl rfl rfl rfl rfl (O_move rfl rfl) ?_
      refine F_gval rfl rfl rfl rfl rfl rfl (O_gt rfl rfl rfl) ?_
      refine F_val rfl rfl rfl (O_pickF rfl rfl rfl) ?_
      refine F_know (i := 12) rfl (dec_or_f (q := 32768 < dist_0) c4) ?_
      exact F_grpE (fun a ha => Is.cons ha (Is.cons ha (Is.nil ha) rfl) rfl)
  · skip
    refine F_nil ?_
    refine L_condP rfl (fun c5 => ?_) (fun c5 => ?_)
    · have H := of_pos H c5
      refine L_seq ?_
      refine L_region ?_
      refine F_val rfl rfl rfl (O_assign rfl rfl) ?_
      refine F_val rfl rfl rfl (O_assign rfl rfl) ?_
      refine F_val rfl rfl rfl (O_assign rfl rfl) ?_
      refine F_val rfl rfl rfl (O_assign rfl rfl) ?_
      refine F_nil ?_
      refine L_ret (fun a ha => (post_ret4 ha rfl rfl rfl rfl rfl ?_))
      obtain rfl := Option.some.inj H
      exact ⟨rfl, HS0.sel [] rfl⟩
    · have H := of_neg H c5
      refine L_skip ?_
      refine L_seq ?_
      refine L_region ?_
      refine F_val rfl rfl rfl (O_assign rfl rfl) ?_
      refine F_nil ?_
      refine L_seq ?_
      obtain ⟨yj6, Hyj6, H⟩ := of_bind H
      refine L_join (fun a w => ∃ (symbol_43 : Int), yj6 = symbol_43 ∧ Is Tryd.f22.ntmps a [(0, .int .i64 dist_0), (6, .int .i64 symbol_43)] ∧ Hp S0 w0 w []) (fun Qj6 hNj6 hOj6 => ?_) (fun a w hR => ?_)
      · skip
        have H := Hyj6
        refine L_blk (fun Qb44 hNb44 hXb44 hOb44 => ?_)
        refine L_lp (fun k a w => ∃ (symbol_67 : Int), Is Tryd.f22.ntmps a [(0, .int .i64 dist_0), (6, .int .i64 symbol_67)] ∧ Hp S0 w0 w [] ∧ valiseref10_DistSymbol.l1 k symbol_67 dist_0 = some yj6) FU (fun a ha => ⟨_, Is.cons ha (Is.cons ha (Is.nil ha) rfl) rfl, HS0.sel [] rfl, H⟩) (fun kp66 a w68 hI Qp66 hNp66 hOp66 => ?_)
        obtain ⟨symbol_67, ha, HS69, HAp66⟩ := hI
        cases kp66 with
        | zero => cases (show (none : Option _) = some _ from HAp66)
        | succ kp66 =>
          have H := (valiseref10_DistSymbol.l1.eq_2 ..).symm.trans HAp66
          refine wpLF_app ?_ ha
          refine L_seq ?_
          refine L_seq ?_
          refine L_region ?_
          refine F_val rfl rfl rfl (O_move rfl rfl) ?_
          refine F_val rfl rfl rfl (O_add rfl rfl rfl) ?_
          obtain ⟨z72, h71, H⟩ := of_bind H
          refine F_qcall (v := .int .i64 z72) (xs := [.tmp 14]) rfl rfl rfl rfl Tryd.func51 nm51 rfl rfl ((valiseref10_distBase.calls (HS69.give [] rfl (Lent.nil)) h71).mono (fun e w hc => ?_)) (fun w73 hw74 => ?_)
          · obtain ⟨rfl, h⟩ := hc
            exact ⟨rfl, h.chg0⟩
          have HS75 := HS69.keep hw74
          refine F_val rfl rfl rfl (O_move rfl rfl) ?_
          refine F_val rfl rfl rfl (O_le rfl rfl rfl) ?_
          refine F_nil ?_
          refine L_condP rfl (fun c76 => ?_) (fun c76 => ?_)
          · have H := of_pos H c76
            refine L_skip ?_
            refine L_blk (fun Q77 hN77 hX77 hO77 => ?_)
            refine L_region ?_
            refine F_val rfl rfl rfl (O_move rfl rfl) ?_
            refine F_val rfl rfl rfl (O_add rfl rfl rfl) ?_
            obtain ⟨x78, h79, H⟩ := of_bnd H
            refine F_val rfl rfl rfl (O_assign' rfl rfl (congrArg (Value.int .i64) h79)) ?_
            refine F_nil ?_
            refine L_endB hN77 ?_
            refine L_nil (fun a ha => hNp66 _ a _ (Nat.lt_succ_self _) ⟨_, Is.cons ha (Is.cons ha (Is.nil ha) rfl) rfl, HS75.sel [] rfl, H⟩)
          · have H := of_neg H c76
            refine L_exitB (fun a w h => hOp66 (.exit 0) a w rfl (hXb44 a w h)) ?_
            refine L_nil (fun a ha => hNj6 a _ ⟨_, (Option.some.inj H).symm, Is.cons ha (Is.cons ha (Is.nil ha) rfl) rfl, HS75.sel [] rfl⟩)
      · obtain ⟨symbol_43, ej, ha, HS81⟩ := hR
        obtain rfl := ej.symm
        refine wpLF_app ?_ ha
        refine L_seq ?_
        refine L_region ?_
        refine F_val rfl rfl rfl (O_move rfl rfl) ?_
        refine F_val rfl rfl rfl (O_move rfl rfl) ?_
        obtain ⟨z84, h83, H⟩ := of_bind H
        refine F_qcall (v := .int .i64 z84) (xs := [.tmp 21]) rfl rfl rfl rfl Tryd.func50 nm50 rfl rfl ((valiseref10_distBits.calls (HS81.give [] rfl (Lent.nil)) h83).mono (fun e w hc => ?_)) (fun w85 hw86 => ?_)
        · obtain ⟨rfl, h⟩ := hc
          exact ⟨rfl, h.chg0⟩
        have HS87 := HS81.keep hw86
        refine F_val rfl rfl rfl (O_move rfl rfl) ?_
        refine F_val rfl rfl rfl (O_move rfl rfl) ?_
        obtain ⟨z90, h89, H⟩ := of_bind H
        refine F_qcall (v := .int .i64 z90) (xs := [.tmp 24]) rfl rfl rfl rfl Tryd.func51 nm51 rfl rfl ((valiseref10_distBase.calls (HS87.give [] rfl (Lent.nil)) h89).mono (fun e w hc => ?_)) (fun w91 hw92 => ?_)
        · obtain ⟨rfl, h⟩ := hc
          exact ⟨rfl, h.chg0⟩
        have HS93 := HS87.keep hw92
        refine F_val rfl rfl rfl (O_sub rfl rfl rfl) ?_
        refine F_val rfl rfl rfl (O_assign rfl rfl) ?_
        refine F_val rfl rfl rfl (O_assign rfl rfl) ?_
        refine F_val rfl rfl rfl (O_assign rfl rfl) ?_
        refine F_val rfl rfl rfl (O_assign rfl rfl) ?_
        refine F_nil ?_
        refine L_ret (fun a ha => (post_ret4 ha rfl rfl rfl rfl rfl ?_))
        obtain rfl := Option.some.inj H
        exact ⟨rfl, HS93.sel [] rfl⟩

/-! function 27: valise/valiseref10.Count -/
theorem valiseref10_Count.calls {S0 : Nat → Prop} {w0 : World} {A_tokens_0 : Option Addr} {c_tokens_0 : Nat} {l_tokens_0 : List (Int × Int × Int)} {r : List Int × List Int × Int} (HS0 : Hp S0 w0 w0 [.rd A_tokens_0 (rowC E_api_Token l_tokens_0)]) (hc_tokens_0 : l_tokens_0.length ≤ c_tokens_0) (h : valiseref10_Count.f l_tokens_0 = some r) :
    Calls Tryd.prog 27 ([.slice A_tokens_0 l_tokens_0.length c_tokens_0] : List Value).toArray w0 (fun e w => ∃ (A1 : Option Addr), ∃ (c1 : Nat), ∃ (A2 : Option Addr), ∃ (c2 : Nat), e = .returned (.tuple #[.slice A1 r.1.length c1, .slice A2 r.2.1.length c2, .int .i64 r.2.2]) ∧ Hp S0 w0 w [.own A1 c1 (rowC (Eint .i64) r.1) 3 (Eint .i64).sz, .own A2 c2 (rowC (Eint .i64) r.2.1) 3 (Eint .i64).sz]) := by
  have H : ((if 16777216 < (l_tokens_0.length : Int) then (some (([] : List Int), ([] : List Int), 1)) else ((valiseref10_sound.f l_tokens_0).bind fun z8 => if (!z8) = true then (some (([] : List Int), ([] : List Int), 100)) else (gd ((0 : Int) ≤ 256 ∧ 256 < ((List.replicate (286 : Int).toNat (0 : Int)).length : Int)) (bnd ((List.replicate (286 : Int).toNat (0 : Int)).set (256 : Int).toNat 1) fun l31 => (valiseref10_Count.l1 FU l31 (List.replicate (30 : Int).toNat (0 : Int)) 0 l_tokens_0).bind fun (l216, l217) => some (l216, l217, 0))))) : Option (List Int × List Int × Int)) = some r := h
  refine calls_start Tryd.func27 rfl rfl ?_
  refine L_seq ?_
  refine L_region ?_
  refine F_val rfl rfl rfl (O_assign rfl rfl) ?_
  refine F_val rfl rfl rfl (O_assign rfl rfl) ?_
  refine F_val rfl rfl rfl (O_assign rfl rfl) ?_
  refine F_nil ?_
  refine L_seq ?_
  refine L_seq ?_
  refine L_region ?_
  refine F_val rfl rfl rfl (O_move rfl rfl) ?_
  refine F_val rfl rfl rfl (O_len rfl rfl Tryd.underlying35) ?_
  refine F_val rfl rfl rfl (O_gt rfl rfl rfl) ?_
  refine F_nil ?_
  refine L_condP rfl (fun c1 => ?_) (fun c1 => ?_)
  · have H := of_pos H c1
    refine L_seq ?_
    refine L_region ?_
    refine F_val rfl rfl rfl (O_assign rfl rfl) ?_
    refine F_val rfl rfl rfl (O_assign rfl rfl) ?_
    refine F_val rfl rfl rfl (O_assign rfl rfl) ?_
    refine F_nil ?_
    have HS2 := HS0.addNil 3 (Eint .i64).sz
    have HS4 := HS2.addNil 3 (Eint .i64).sz
    refine L_ret (fun a ha => (post_ret3 ha rfl rfl rfl rfl ?_))
    obtain rfl := Option.some.inj H
    exact ⟨_, _, _, _, rfl, HS4.sel [1, 2] rfl⟩
  · have H := of_neg H c1
    refine L_skip ?_
    refine L_seq ?_
    refine L_region ?_
    refine F_val rfl rfl rfl (O_move rfl rfl) ?_
    obtain ⟨z8, h7, H⟩ := of_bind H
    refine F_qcall (v := .bool z8) (xs := [.tmp 21]) rfl rfl rfl rfl Tryd.func55 nm55 rfl rfl ((valiseref10_sound.calls (HS0.give [] rfl (Lent.rd HS0 (Lent.nil) (i := 0) rfl ((HS0.cells_rd (i := 0) rfl).self))) hc_tokens_0 h7).mono (fun e w hc => ?_)) (fun w9 hw10 => ?_)
    · obtain ⟨rfl, h⟩ := hc
      exact ⟨rfl, h.chg0⟩
    have HS11 := HS0.keep hw10
    refine F_val rfl rfl rfl (O_assign rfl rfl) ?_
    refine F_nil ?_
    refine L_seq ?_
    refine L_seq ?_
    refine L_region ?_
    refine F_val rfl rfl rfl (O_move rfl rfl) ?_
    refine F_val rfl rfl rfl (O_notb rfl rfl) ?_
    refine F_nil ?_
    refine L_cond rfl (fun c12 => ?_) (fun c12 => ?_)
    · have H := of_pos H c12
      refine L_seq ?_
      refine L_region ?_
      refine F_val rfl rfl rfl (O_assign rfl rfl) ?_
      refine F_val rfl rfl rfl (O_assign rfl rfl) ?_
      refine F_val rfl rfl rfl (O_assign rfl rfl) ?_
      refine F_nil ?_
      have HS13 := HS11.addNil 3 (Eint .i64).sz
      have HS15 := HS13.addNil 3 (Eint .i64).sz
      refine L_ret (fun a ha => (post_ret3 ha rfl rfl rfl rfl ?_))
      obtain rfl := Option.some.inj H
      exact ⟨_, _, _, _, rfl, HS15.sel [1, 2] rfl⟩
    · have H := of_neg H (by rw [c12]; exact Bool.false_ne_true)
      refine L_skip ?_
      refine L_seq ?_
      refine L_region ?_
      refine F_makeK (E := (Eint .i64)) rfl rfl rfl rfl rfl rfl Tryd.underlying37 info3 rfl (by decide) (by decide) (by decide) (by decide) HS11 (fun w17 A19 c20 HS18 => ?_)
      have HS18 : Hp S0 w0 w17 [.rd A_tokens_0 (rowC E_api_Token l_tokens_0), .own A19 c20 (rowC (Eint .i64) (List.replicate (286 : Int).toNat (0 : Int))) 3 (Eint .i64).sz] := HS18
      refine F_val rfl rfl rfl (O_assign rfl rfl) ?_
      refine F_nil ?_
      refine L_seq ?_
      refine L_region ?_
      refine F_makeK (E := (Eint .i64)) rfl rfl rfl rfl rfl rfl Tryd.underlying37 info3 rfl (by decide) (by decide) (by decide) (by decide) HS18 (fun w22 A24 c25 HS23 => ?_)
      have HS23 : Hp S0 w0 w22 [.rd A_tokens_0 (rowC E_api_Token l_tokens_0), .own A19 c20 (rowC (Eint .i64) (List.replicate (286 : Int).toNat (0 : Int))) 3 (Eint .i64).sz, .own A24 c25 (rowC (Eint .i64) (List.replicate (30 : Int).toNat (0 : Int))) 3 (Eint .i64).sz] := HS23
      refine F_val rfl rfl rfl (O_assign rfl rfl) ?_
      refine F_nil ?_
      refine L_seq ?_
      refine L_region ?_
      refine F_val rfl rfl rfl (O_move rfl rfl) ?_
      obtain ⟨⟨g27, g28⟩, H⟩ := of_gd H
      refine F_val rfl rfl rfl (O_idx rfl rfl rfl Tryd.underlying37 size3 g27 g28 (Cells.isA (HS23.cells_own (i := 1) rfl) (rowC_ne (E := (Eint .i64)) g27 g28 (by decide)))) ?_
      obtain ⟨l31, h32, H⟩ := of_bnd H
      refine F_setE (E := (Eint .i64)) (i := 1) (a := 1) (q := 256) rfl rfl rfl rfl rfl rfl size3 HS23 rfl (by decide) g27 g28 h32 (fun w29 HS30 => ?_)
      have e33 : (List.replicate (286 : Int).toNat (0 : Int)).length = l31.length := by rw [← h32, List.length_set]
      refine F_know (i := 6) rfl (congrArg (fun n => Value.slice A19 n c20) e33) ?_
      have HS30 : Hp S0 w0 w29 [.rd A_tokens_0 (rowC E_api_Token l_tokens_0), .own A19 c20 (rowC (Eint .i64) l31) 3 (Eint .i64).sz, .own A24 c25 (rowC (Eint .i64) (List.replicate (30 : Int).toNat (0 : Int))) 3 (Eint .i64).sz] := HS30
      refine F_nil ?_
      refine L_seq ?_
      refine L_seq ?_
      refine L_region ?_
      refine F_val rfl rfl rfl (O_assign rfl rfl) ?_
      refine F_nil ?_
      obtain ⟨yj34, Hyj34, H⟩ := of_bind H
      refine L_join (fun a w => ∃ (l216 : List Int), ∃ (l217 : List Int), yj34 = (l216, l217) ∧ Is Tryd.f27.ntmps a [(6, .slice A19 l216.length c20), (7, .slice A24 l217.length c25)] ∧ Hp S0 w0 w [.rd A_tokens_0 (rowC E_api_Token l_tokens_0), .own A19 c20 (rowC (Eint .i64) l216) 3 (Eint .i64).sz, .own A24 c25 (rowC (Eint .i64) l217) 3 (Eint .i64).sz]) (fun Qj34 hNj34 hOj34 => ?_) (fun a w hR => ?_)
      · skip
        have H := Hyj34
        refine L_blk (fun Qb218 hNb218 hXb218 hOb218 => ?_)
        refine L_lp (fun k a w => ∃ (l337 : List Int), ∃ (l338 : List Int), ∃ (i_339 : Int), Is Tryd.f27.ntmps a [(0, .slice A_tokens_0 l_tokens_0.length c_tokens_0), (6, .slice A19 l337.length c20), (7, .slice A24 l338.length c25), (8, .int .i64 i_339)] ∧ Hp S0 w0 w [.rd A_tokens_0 (rowC E_api_Token l_tokens_0), .own A19 c20 (rowC (Eint .i64) l337) 3 (Eint .i64).sz, .own A24 c25 (rowC (Eint .i64) l338) 3 (Eint .i64).sz] ∧ valiseref10_Count.l1 k l337 l338 i_339 l_tokens_0 = some yj34) FU (fun a ha => ⟨_, _, _, Is.cons ha (Is.cons ha (Is.cons ha (Is.cons ha (Is.nil ha) rfl) rfl) rfl) rfl, HS30.sel [0, 1, 2] rfl, H⟩) (fun kp336 a w340 hI Qp336 hNp336 hOp336 => ?_)
        obtain ⟨l337, l338, i_339, ha, HS341, HAp336⟩ := hI
        cases kp336 with
        | zero => cases (show (none : Option _) = some _ from HAp336)
        | succ kp336 =>
          have H := (valiseref10_Count.l1.eq_2 ..).symm.trans HAp336
          refine wpLF_app ?_ ha
          refine L_seq ?_
          refine L_seq ?_
          refine L_region ?_
          refine F_val rfl rfl rfl (O_move rfl rfl) ?_
          refine F_val rfl rfl rfl (O_move rfl rfl) ?_
          refine F_val rfl rfl rfl (O_len rfl rfl Tryd.underlying35) ?_
          refine F_val rfl rfl rfl (O_lt rfl rfl rfl) ?_
          refine F_nil ?_
          refine L_condP rfl (fun c342 => ?_) (fun c342 => ?_)
          · have H := of_pos H c342
            refine L_skip ?_
            refine L_seq ?_
            refine L_blk (fun Q343 hN343 hX343 hO343 => ?_)
            refine L_seq ?_
            refine L_region ?_
            refine F_val rfl rfl rfl (O_move rfl rfl) ?_
            refine F_val rfl rfl rfl (O_move rfl rfl) ?_
            obtain ⟨⟨g344, g345⟩, H⟩ := of_gd H
            refine F_val rfl rfl rfl (O_idx rfl rfl rfl Tryd.underlying35 size50 g344 g345 (Cells.isA (HS341.cells_rd (i := 0) rfl) (rowC_ne (E := E_api_Token) g344 g345 (by decide)))) ?_
            refine F_val rfl rfl rfl (O_loadEl (E := E_api_Token) rfl rfl wide50 (HS341.cells_rd (i := 0) rfl) g344 g345 (by decide)) ?_
            refine F_alloc (C := [.int .i64 0, .int .i64 0, .int .u8 0]) rfl rfl rfl rfl zero50 rfl HS341 (fun w346 g348 HS347 => ?_)
            have HS347 : Hp S0 w0 w346 [.rd A_tokens_0 (rowC E_api_Token l_tokens_0), .own A19 c20 (rowC (Eint .i64) l337) 3 (Eint .i64).sz, .own A24 c25 (rowC (Eint .i64) l338) 3 (Eint .i64).sz, .box g348 [.int .i64 0, .int .i64 0, .int .u8 0] 50] := HS347
            refine F_stB 3 ([.int .i64 ((rdx E_api_Token l_tokens_0 i_339).1), .int .i64 ((rdx E_api_Token l_tokens_0 i_339).2.1), .int .u8 ((rdx E_api_Token l_tokens_0 i_339).2.2)]) rfl rfl rfl rfl rfl size50 HS347 rfl rfl rfl rfl rfl (fun w350 HS351 => ?_)
            have HS351 : Hp S0 w0 w350 [.rd A_tokens_0 (rowC E_api_Token l_tokens_0), .own A19 c20 (rowC (Eint .i64) l337) 3 (Eint .i64).sz, .own A24 c25 (rowC (Eint .i64) l338) 3 (Eint .i64).sz, .box g348 [.int .i64 ((rdx E_api_Token l_tokens_0 i_339).1), .int .i64 ((rdx E_api_Token l_tokens_0 i_339).2.1), .int .u8 ((rdx E_api_Token l_tokens_0 i_339).2.2)] 50] := HS351
            refine F_nil ?_
            refine L_seq ?_
            refine L_seq ?_
            refine L_region ?_
            refine F_val rfl rfl rfl (O_fieldB rfl rfl field50_0) ?_
            refine F_val rfl rfl rfl (O_loadB rfl rfl flat3 (HS351.cells_box (i := 3) rfl) rfl) ?_
            refine F_val rfl rfl rfl (O_eq rfl rfl rfl) ?_
            refine F_nil ?_
            refine L_condP rfl (fun c352 => ?_) (fun c352 => ?_)
            · have H := of_pos H c352
              refine L_seq ?_
              refine L_tail 12 mix (by kernel_rfl) (fun w353 hw354 => ?_)
              have HS355 := HS351.keep hw354
              refine S_val rfl rfl rfl (O_move rfl rfl) ?_
              refine S_val rfl rfl rfl (O_fieldB rfl rfl field50_2) ?_
              refine S_val rfl rfl rfl (O_loadB rfl rfl flat5 (HS355.cells_box (i := 3) rfl) rfl) ?_
              refine S_val rfl rfl rfl (O_conv rfl rfl ⟨_, Tryd.underlying5⟩ Tryd.underlying3) ?_
              refine S_val rfl rfl rfl (O_move rfl rfl) ?_
              refine S_val rfl rfl rfl (O_fieldB rfl rfl field50_2) ?_
              refine S_val rfl rfl rfl (O_loadB rfl rfl flat5 (HS355.cells_box (i := 3) rfl) rfl) ?_
              refine S_val rfl rfl rfl (O_conv rfl rfl ⟨_, Tryd.underlying5⟩ Tryd.underlying3) ?_
              obtain ⟨⟨g356, g357⟩, H⟩ := of_gd H
              refine S_val rfl rfl rfl (O_idx rfl rfl rfl Tryd.underlying37 size3 g356 g357 (Cells.isA (HS355.cells_own (i := 1) rfl) (rowC_ne (E := (Eint .i64)) g356 g357 (by decide)))) ?_
              refine S_val rfl rfl rfl (O_loadC rfl rfl flat3 (HS355.cells_own (i := 1) rfl) (int_cell g356 g357)) ?_
              refine S_val rfl rfl rfl (O_add rfl rfl rfl) ?_
              refine S_val rfl rfl rfl (O_idx rfl rfl rfl Tryd.underlying37 size3 g356 g357 (Cells.isA (HS355.cells_own (i := 1) rfl) (rowC_ne (E := (Eint .i64)) g356 g357 (by decide)))) ?_
              refine S_nil ?_
              obtain ⟨l360, h361, H⟩ := of_bnd H
              refine F_setE (E := (Eint .i64)) (i := 1) (a := IntKind.i64.wrap ((rd l337 (IntKind.i64.wrap ((rdx E_api_Token l_tokens_0 i_339).2.2))) + 1)) (q := IntKind.i64.wrap ((rdx E_api_Token l_tokens_0 i_339).2.2)) rfl rfl rfl rfl rfl rfl size3 HS355 rfl (by decide) g356 g357 h361 (fun w358 HS359 => ?_)
              have e362 : l337.length = l360.length := by rw [← h361, List.length_set]
              refine F_know (i := 6) rfl (congrArg (fun n => Value.slice A19 n c20) e362) ?_
              have HS359 : Hp S0 w0 w358 [.rd A_tokens_0 (rowC E_api_Token l_tokens_0), .own A19 c20 (rowC (Eint .i64) l360) 3 (Eint .i64).sz, .own A24 c25 (rowC (Eint .i64) l338) 3 (Eint .i64).sz, .box g348 [.int .i64 ((rdx E_api_Token l_tokens_0 i_339).1), .int .i64 ((rdx E_api_Token l_tokens_0 i_339).2.1), .int .u8 ((rdx E_api_Token l_tokens_0 i_339).2.2)] 50] := HS359
              refine F_nil ?_
              refine L_exitB hX343 ?_
              refine L_region ?_
              refine F_val rfl rfl rfl (O_move rfl rfl) ?_
              refine F_val rfl rfl rfl (O_add rfl rfl rfl) ?_
              obtain ⟨x363, h364, H⟩ := of_bnd H
              refine F_val rfl rfl rfl (O_assign' rfl rfl (congrArg (Value.int .i64) h364)) ?_
              refine F_nil ?_
              refine L_nil (fun a ha => hNp336 _ a _ (Nat.lt_succ_self _) ⟨_, _, _, Is.cons ha (Is.cons ha (Is.cons ha (Is.cons ha (Is.nil ha) rfl) rfl) rfl) rfl, HS359.sel [0, 1, 2] rfl, H⟩)
            · have H := of_neg H c352
              refine L_skip ?_
              refine L_seq ?_
              refine L_region ?_
              refine F_val rfl rfl rfl (O_fieldB rfl rfl field50_0) ?_
              refine F_val rfl rfl rfl (O_loadB rfl rfl flat3 (HS351.cells_box (i := 3) rfl) rfl) ?_
              obtain ⟨⟨z367, z368, z369, z370⟩, h366, H⟩ := of_bind H
              refine F_qcall (v := .tuple #[.int .i64 z367, .int .i64 z368, .int .i64 z369, .int .i64 z370]) (xs := [.tmp 56]) rfl rfl rfl rfl Tryd.func20 nm20 rfl rfl ((valiseref10_LengthSymbol.calls (HS351.give [] rfl (Lent.nil)) h366).mono (fun e w hc => ?_)) (fun w371 hw372 => ?_)
              · obtain ⟨rfl, h⟩ := hc
                exact ⟨rfl, h.chg0⟩
              have HS373 := HS351.keep hw372
              refine F_val rfl rfl rfl (O_move rfl rfl) ?_
              refine F_val rfl rfl rfl (O_extract (v := .int .i64 z367) rfl rfl rfl) ?_
              refine F_val rfl rfl rfl (O_extract (v := .int .i64 z368) rfl rfl rfl) ?_
              refine F_val rfl rfl rfl (O_extract (v := .int .i64 z369) rfl rfl rfl) ?_
              refine F_val rfl rfl rfl (O_extract (v := .int .i64 z370) rfl rfl rfl) ?_
              refine F_val rfl rfl rfl (O_assign rfl rfl) ?_
              refine F_val rfl rfl rfl (O_assign rfl rfl) ?_
              refine F_val rfl rfl rfl (O_assign rfl rfl) ?_
              refine F_val rfl rfl rfl (O_assign rfl rfl) ?_
              refine F_nil ?_
              refine L_seq ?_
              refine L_region ?_
              refine F_val rfl rfl rfl (O_fieldB rfl rfl field50_1) ?_
              refine F_val rfl rfl rfl (O_loadB rfl rfl flat3 (HS373.cells_box (i := 3) rfl) rfl) ?_
              obtain ⟨⟨z376, z377, z378, z379⟩, h375, H⟩ := of_bind H
              refine F_qcall (v := .tuple #[.int .i64 z376, .int .i64 z377, .int .i64 z378, .int .i64 z379]) (xs := [.tmp 64]) rfl rfl rfl rfl Tryd.func22 nm22 rfl rfl ((valiseref10_DistSymbol.calls (HS373.give [] rfl (Lent.nil)) h375).mono (fun e w hc => ?_)) (fun w380 hw381 => ?_)
              · obtain ⟨rfl, h⟩ := hc
                exact ⟨rfl, h.chg0⟩
              have HS382 := HS373.keep hw381
              refine F_val rfl rfl rfl (O_move rfl rfl) ?_
              refine F_val rfl rfl rfl (O_extract (v := .int .i64 z376) rfl rfl rfl) ?_
              refine F_val rfl rfl rfl (O_extract (v := .int .i64 z377) rfl rfl rfl) ?_
              refine F_val rfl rfl rfl (O_extract (v := .int .i64 z378) rfl rfl rfl) ?_
              refine F_val rfl rfl rfl (O_extract (v := .int .i64 z379) rfl rfl rfl) ?_
              refine F_val rfl rfl rfl (O_assign rfl rfl) ?_
              refine F_val rfl rfl rfl (O_assign rfl rfl) ?_
              refine F_val rfl rfl rfl (O_assign rfl rfl) ?_
              refine F_val rfl rfl rfl (O_assign rfl rfl) ?_
              refine F_nil ?_
              refine L_seq ?_
              refine L_region ?_
              refine F_val rfl rfl rfl (O_move rfl rfl) ?_
              refine F_val rfl rfl rfl (O_move rfl rfl) ?_
              refine F_val rfl rfl rfl (O_move rfl rfl) ?_
              refine F_val rfl rfl rfl (O_move rfl rfl) ?_
              obtain ⟨⟨g383, g384⟩, H⟩ := of_gd H
              refine F_val rfl rfl rfl (O_idx rfl rfl rfl Tryd.underlying37 size3 g383 g384 (Cells.isA (HS382.cells_own (i := 1) rfl) (rowC_ne (E := (Eint .i64)) g383 g384 (by decide)))) ?_
              refine F_val rfl rfl rfl (O_loadC rfl rfl flat3 (HS382.cells_own (i := 1) rfl) (int_cell g383 g384)) ?_
              refine F_val rfl rfl rfl (O_add rfl rfl rfl) ?_
              refine F_val rfl rfl rfl (O_idx rfl rfl rfl Tryd.underlying37 size3 g383 g384 (Cells.isA (HS382.cells_own (i := 1) rfl) (rowC_ne (E := (Eint .i64)) g383 g384 (by decide)))) ?_
              obtain ⟨l387, h388, H⟩ := of_bnd H
              refine F_setE (E := (Eint .i64)) (i := 1) (a := IntKind.i64.wrap ((rd l337 z367) + 1)) (q := z367) rfl rfl rfl rfl rfl rfl size3 HS382 rfl (by decide) g383 g384 h388 (fun w385 HS386 => ?_)
              have e389 : l337.length = l387.length := by rw [← h388, List.length_set]
              refine F_know (i := 6) rfl (congrArg (fun n => Value.slice A19 n c20) e389) ?_
              have HS386 : Hp S0 w0 w385 [.rd A_tokens_0 (rowC E_api_Token l_tokens_0), .own A19 c20 (rowC (Eint .i64) l387) 3 (Eint .i64).sz, .own A24 c25 (rowC (Eint .i64) l338) 3 (Eint .i64).sz, .box g348 [.int .i64 ((rdx E_api_Token l_tokens_0 i_339).1), .int .i64 ((rdx E_api_Token l_tokens_0 i_339).2.1), .int .u8 ((rdx E_api_Token l_tokens_0 i_339).2.2)] 50] := HS386
              refine F_nil ?_
              refine L_region ?_
              refine F_val rfl rfl rfl (O_move rfl rfl) ?_
              refine F_val rfl rfl rfl (O_move rfl rfl) ?_
              refine F_val rfl rfl rfl (O_move rfl rfl) ?_
              refine F_val rfl rfl rfl (O_move rfl rfl) ?_
              obtain ⟨⟨g390, g391⟩, H⟩ := of_gd H
              refine F_val rfl rfl rfl (O_idx rfl rfl rfl Tryd.underlying37 size3 g390 g391 (Cells.isA (HS386.cells_own (i := 2) rfl) (rowC_ne (E := (Eint .i64)) g390 g391 (by decide)))) ?_
              refine F_val rfl rfl rfl (O_loadC rfl rfl flat3 (HS386.cells_own (i := 2) rfl) (int_cell g390 g391)) ?_
              refine F_val rfl rfl rfl (O_add rfl rfl rfl) ?_
              refine F_val rfl rfl rfl (O_idx rfl rfl rfl Tryd.underlying37 size3 g390 g391 (Cells.isA (HS386.cells_own (i := 2) rfl) (rowC_ne (E := (Eint .i64)) g390 g391 (by decide)))) ?_
              obtain ⟨l394, h395, H⟩ := of_bnd H
              refine F_setE (E := (Eint .i64)) (i := 2) (a := IntKind.i64.wrap ((rd l338 z376) + 1)) (q := z376) rfl rfl rfl rfl rfl rfl size3 HS386 rfl (by decide) g390 g391 h395 (fun w392 HS393 => ?_)
              have e396 : l338.length = l394.length := by rw [← h395, List.length_set]
              refine F_know (i := 7) rfl (congrArg (fun n => Value.slice A24 n c25) e396) ?_
              have HS393 : Hp S0 w0 w392 [.rd A_tokens_0 (rowC E_api_Token l_tokens_0), .own A19 c20 (rowC (Eint .i64) l387) 3 (Eint .i64).sz, .own A24 c25 (rowC (Eint .i64) l394) 3 (Eint .i64).sz, .box g348 [.int .i64 ((rdx E_api_Token l_tokens_0 i_339).1), .int .i64 ((rdx E_api_Token l_tokens_0 i_339).2.1), .int .u8 ((rdx E_api_Token l_tokens_0 i_339).2.2)] 50] := HS393
              refine F_nil ?_
              refine L_endB hN343 ?_
              refine L_region ?_
              refine F_val rfl rfl rfl (O_move rfl rfl) ?_
              refine F_val rfl rfl rfl (O_add rfl rfl rfl) ?_
              obtain ⟨x397, h398, H⟩ := of_bnd H
              refine F_val rfl rfl rfl (O_assign' rfl rfl (congrArg (Value.int .i64) h398)) ?_
              refine F_nil ?_
              refine L_nil (fun a ha => hNp336 _ a _ (Nat.lt_succ_self _) ⟨_, _, _, Is.cons ha (Is.cons ha (Is.cons ha (Is.cons ha (Is.nil ha) rfl) rfl) rfl) rfl, HS393.sel [0, 1, 2] rfl, H⟩)
          · have H := of_neg H c342
            refine L_exitB (fun a w h => hOp336 (.exit 0) a w rfl (hXb218 a w h)) ?_
            refine L_nil (fun a ha => hNj34 a _ ⟨_, _, (Option.some.inj H).symm, Is.cons ha (Is.cons ha (Is.nil ha) rfl) rfl, HS341.sel [0, 1, 2] rfl⟩)
      · obtain ⟨l216, l217, rfl, ha, HS400⟩ := hR
        refine wpLF_app ?_ ha
        refine L_seq ?_
        refine L_region ?_
        refine F_val rfl rfl rfl (O_move rfl rfl) ?_
        refine F_val rfl rfl rfl (O_move rfl rfl) ?_
        refine F_val rfl rfl rfl (O_assign rfl rfl) ?_
        refine F_val rfl rfl rfl (O_assign rfl rfl) ?_
        refine F_val rfl rfl rfl (O_assign rfl rfl) ?_
        refine F_nil ?_
        refine L_ret (fun a ha => (post_ret3 ha rfl rfl rfl rfl ?_))
        obtain rfl := Option.some.inj H
        exact ⟨_, _, _, _, rfl, HS400.sel [1, 2] rfl⟩

/-! function 18: valise/valiselaw10.num -/
theorem valiselaw10_num.calls {S0 : Nat → Prop} {w0 : World} {e_0 : Int} {r : Int} (HS0 : Hp S0 w0 w0 []) (h : valiselaw10_num.f e_0 = some r) :
    Calls Tryd.prog 18 ([.int .i64 e_0] : List Value).toArray w0 (fun e w => e = .returned (.int .i64 r) ∧ Hp S0 w0 w []) := by
  have H : ((some e_0) : Option (Int)) = some r := h
  refine calls_start Tryd.func18 rfl rfl ?_
  refine L_seq ?_
  refine L_region ?_
  refine F_val rfl rfl rfl (O_assign rfl rfl) ?_
  refine F_nil ?_
  refine L_seq ?_
  refine L_region ?_
  refine F_val rfl rfl rfl (O_move rfl rfl) ?_
  refine F_val rfl rfl rfl (O_assign rfl rfl) ?_
  refine F_nil ?_
  refine L_ret (fun a ha => (post_ret1 ha rfl rfl ?_))
  obtain rfl := Option.some.inj H
  exact ⟨rfl, HS0.sel [] rfl⟩

/-! function 28: valise/valiselaw10.equal -/
theorem valiselaw10_equal.calls {S0 : Nat → Prop} {w0 : World} {A_a_0 : Option Addr} {c_a_0 : Nat} {A_b_1 : Option Addr} {c_b_1 : Nat} {l_a_0 : List Int} {l_b_1 : List Int} {r : Bool} (HS0 : Hp S0 w0 w0 [.rd A_a_0 (rowC (Eint .i64) l_a_0), .rd A_b_1 (rowC (Eint .i64) l_b_1)]) (hc_a_0 : l_a_0.length ≤ c_a_0) (hc_b_1 : l_b_1.length ≤ c_b_1) (h : valiselaw10_equal.f l_a_0 l_b_1 = some r) :
    Calls Tryd.prog 28 ([.slice A_a_0 l_a_0.length c_a_0, .slice A_b_1 l_b_1.length c_b_1] : List Value).toArray w0 (fun e w => e = .returned (.bool r) ∧ Hp S0 w0 w []) := by
  have H : ((if (l_a_0.length : Int) ≠ (l_b_1.length : Int) then (some false) else ((valiselaw10_equal.l1 FU 0 l_a_0 l_b_1).bind fun (yj2 : Sum (Bool) (Unit)) => onR yj2 (fun r => some r) fun () => some true)) : Option (Bool)) = some r := h
  refine calls_start Tryd.func28 rfl rfl ?_
  refine L_seq ?_
  refine L_region ?_
  refine F_val rfl rfl rfl (O_assign rfl rfl) ?_
  refine F_nil ?_
  refine L_seq ?_
  refine L_seq ?_
  refine L_region ?_
  refine F_val rfl rfl rfl (O_move rfl rfl) ?_
  refine F_val rfl rfl rfl (O_len rfl rfl Tryd.underlying37) ?_
  refine F_val rfl rfl rfl (O_move rfl rfl) ?_
  refine F_val rfl rfl rfl (O_len rfl rfl Tryd.underlying37) ?_
  refine F_val rfl rfl rfl (O_ne rfl rfl rfl) ?_
  refine F_nil ?_
  refine L_condP rfl (fun c1 => ?_) (fun c1 => ?_)
  · have H := of_pos H c1
    refine L_seq ?_
    refine L_region ?_
    refine F_val rfl rfl rfl (O_assign rfl rfl) ?_
    refine F_nil ?_
    refine L_ret (fun a ha => (post_ret1 ha rfl rfl ?_))
    obtain rfl := Option.some.inj H
    exact ⟨rfl, HS0.sel [] rfl⟩
  · have H := of_neg H c1
    refine L_skip ?_
    refine L_seq ?_
    refine L_seq ?_
    refine L_region ?_
    refine F_val rfl rfl rfl (O_assign rfl rfl) ?_
    refine F_nil ?_
    obtain ⟨yj2, Hyj2, H⟩ := of_bind H
    refine L_join (fun a w => yj2 = Sum.inr () ∧ Is Tryd.f28.ntmps a [] ∧ Hp S0 w0 w [.rd A_a_0 (rowC (Eint .i64) l_a_0), .rd A_b_1 (rowC (Eint .i64) l_b_1)]) (fun Qj2 hNj2 hOj2 => ?_) (fun a w hR => ?_)
    · have HOj2 := H
      have H := Hyj2
      refine L_blk (fun Qb45 hNb45 hXb45 hOb45 => ?_)
      refine L_lp (fun k a w => ∃ (i_72 : Int), Is Tryd.f28.ntmps a [(0, .slice A_a_0 l_a_0.length c_a_0), (1, .slice A_b_1 l_b_1.length c_b_1), (5, .int .i64 i_72)] ∧ Hp S0 w0 w [.rd A_a_0 (rowC (Eint .i64) l_a_0), .rd A_b_1 (rowC (Eint .i64) l_b_1)] ∧ valiselaw10_equal.l1 k i_72 l_a_0 l_b_1 = some yj2) FU (fun a ha => ⟨_, Is.cons ha (Is.cons ha (Is.cons ha (Is.nil ha) rfl) rfl) rfl, HS0.sel [0, 1] rfl, H⟩) (fun kp71 a w73 hI Qp71 hNp71 hOp71 => ?_)
      obtain ⟨i_72, ha, HS74, HAp71⟩ := hI
      cases kp71 with
      | zero => cases (show (none : Option _) = some _ from HAp71)
      | succ kp71 =>
        have H := (valiselaw10_equal.l1.eq_2 ..).symm.trans HAp71
        refine wpLF_app ?_ ha
        refine L_seq ?_
        refine L_seq ?_
        refine L_region ?_
        refine F_val rfl rfl rfl (O_move rfl rfl) ?_
        refine F_val rfl rfl rfl (O_move rfl rfl) ?_
        refine F_val rfl rfl rfl (O_len rfl rfl Tryd.underlying37) ?_
        refine F_val rfl rfl rfl (O_lt rfl rfl rfl) ?_
        refine F_nil ?_
        refine L_condP rfl (fun c75 => ?_) (fun c75 => ?_)
        · have H := of_pos H c75
          refine L_skip ?_
          refine L_seq ?_
          refine L_blk (fun Q76 hN76 hX76 hO76 => ?_)
          refine L_seq ?_
          refine L_quiet mix (by kernel_rfl) ?_
          refine Q_val rfl rfl rfl (fun wq hq => O_move rfl rfl) ?_
          refine Q_val rfl rfl rfl (fun wq hq => O_move rfl rfl) ?_
          obtain ⟨⟨g77, g78⟩, H⟩ := of_gd H
          refine Q_val rfl rfl rfl (fun wq hq => O_idx rfl rfl rfl Tryd.underlying37 size3 g77 g78 (Cells.isA ((HS74.keep hq).cells_rd (i := 0) rfl) (rowC_ne (E := (Eint .i64)) g77 g78 (by decide)))) ?_
          refine Q_val rfl rfl rfl (fun wq hq => O_loadC rfl rfl flat3 ((HS74.keep hq).cells_rd (i := 0) rfl) (int_cell g77 g78)) ?_
          refine Q_val rfl rfl rfl (fun wq hq => O_move rfl rfl) ?_
          refine Q_val rfl rfl rfl (fun wq hq => O_move rfl rfl) ?_
          obtain ⟨⟨g79, g80⟩, H⟩ := of_gd H
          refine Q_val rfl rfl rfl (fun wq hq => O_idx rfl rfl rfl Tryd.underlying37 size3 g79 g80 (Cells.isA ((HS74.keep hq).cells_rd (i := 1) rfl) (rowC_ne (E := (Eint .i64)) g79 g80 (by decide)))) ?_
          refine Q_val rfl rfl rfl (fun wq hq => O_loadC rfl rfl flat3 ((HS74.keep hq).cells_rd (i := 1) rfl) (int_cell g79 g80)) ?_
          refine Q_val rfl rfl rfl (fun wq hq => O_ne rfl rfl rfl) ?_
          refine Q_nil (fun w81 hw82 => ?_)
          have HS83 := HS74.keep hw82
          refine L_condP rfl (fun c84 => ?_) (fun c84 => ?_)
          · have H := of_pos H c84
            refine L_seq ?_
            refine L_region ?_
            refine F_val rfl rfl rfl (O_assign rfl rfl) ?_
            refine F_nil ?_
            refine L_ret (fun a ha => (hO76 .ret a _ rfl (hOp71 .ret a _ rfl (hOb45 .ret a _ rfl (hOj2 .ret a _ rfl (post_ret1 ha rfl rfl ?_))))))
            obtain rfl := Option.some.inj H
            obtain rfl := Option.some.inj (show (some false : Option (Bool)) = some _ from HOj2)
            exact ⟨rfl, HS83.sel [] rfl⟩
          · have H := of_neg H c84
            refine L_skip ?_
            refine L_endB hN76 ?_
            refine L_region ?_
            refine F_val rfl rfl rfl (O_move rfl rfl) ?_
            refine F_val rfl rfl rfl (O_add rfl rfl rfl) ?_
            obtain ⟨x85, h86, H⟩ := of_bnd H
            refine F_val rfl rfl rfl (O_assign' rfl rfl (congrArg (Value.int .i64) h86)) ?_
            refine F_nil ?_
            refine L_nil (fun a ha => hNp71 _ a _ (Nat.lt_succ_self _) ⟨_, Is.cons ha (Is.cons ha (Is.cons ha (Is.nil ha) rfl) rfl) rfl, HS83.sel [0, 1] rfl, H⟩)
        · have H := of_neg H c75
          refine L_exitB (fun a w h => hOp71 (.exit 0) a w rfl (hXb45 a w h)) ?_
          refine L_nil (fun a ha => hNj2 a _ ⟨(Option.some.inj H).symm, Is.nil ha, HS74.sel [0, 1] rfl⟩)
    · obtain ⟨rfl, ha, HS88⟩ := hR
      refine wpLF_app ?_ ha
      have H := (onR_inr _ _ _).symm.trans H
      refine L_seq ?_
      refine L_region ?_
      refine F_val rfl rfl rfl (O_assign rfl rfl) ?_
      refine F_nil ?_
      refine L_ret (fun a ha => (post_ret1 ha rfl rfl ?_))
      obtain rfl := Option.some.inj H
      exact ⟨rfl, HS88.sel [] rfl⟩

/-! function 29: valise/valiselaw10.alike -/
theorem valiselaw10_alike.calls {S0 : Nat → Prop} {w0 : World} {A_a_0 : Option Addr} {c_a_0 : Nat} {A_b_1 : Option Addr} {c_b_1 : Nat} {l_a_0 : List (Int × Int × Int)} {l_b_1 : List (Int × Int × Int)} {r : Bool} (HS0 : Hp S0 w0 w0 [.rd A_a_0 (rowC E_api_Token l_a_0), .rd A_b_1 (rowC E_api_Token l_b_1)]) (hc_a_0 : l_a_0.length ≤ c_a_0) (hc_b_1 : l_b_1.length ≤ c_b_1) (h : valiselaw10_alike.f l_a_0 l_b_1 = some r) :
    Calls Tryd.prog 29 ([.slice A_a_0 l_a_0.length c_a_0, .slice A_b_1 l_b_1.length c_b_1] : List Value).toArray w0 (fun e w => e = .returned (.bool r) ∧ Hp S0 w0 w []) := by
  have H : ((if (l_a_0.length : Int) ≠ (l_b_1.length : Int) then (some false) else ((valiselaw10_alike.l1 FU 0 l_a_0 l_b_1).bind fun (yj2 : Sum (Bool) (Unit)) => onR yj2 (fun r => some r) fun () => some true)) : Option (Bool)) = some r := h
  refine calls_start Tryd.func29 rfl rfl ?_
  refine L_seq ?_
  refine L_region ?_
  refine F_val rfl rfl rfl (O_assign rfl rfl) ?_
  refine F_nil ?_
  refine L_seq ?_
  refine L_seq ?_
  refine L_region ?_
  refine F_val rfl rfl rfl (O_move rfl rfl) ?_
  refine F_val rfl rfl rfl (O_len rfl rfl Tryd.underlying35) ?_
  refine F_val rfl rfl rfl (O_move rfl rfl) ?_
  refine F_val rfl rfl rfl (O_len rfl rfl Tryd.underlying35) ?_
  refine F_val rfl rfl rfl (O_ne rfl rfl rfl) ?_
  refine F_nil ?_
  refine L_condP rfl (fun c1 => ?_) (fun c1 => ?_)
  · have H := of_pos H c1
    refine L_seq ?_
    refine L_region ?_
    refine F_val rfl rfl rfl (O_assign rfl rfl) ?_
    refine F_nil ?_
    refine L_ret (fun a ha => (post_ret1 ha rfl rfl ?_))
    obtain rfl := Option.some.inj H
    exact ⟨rfl, HS0.sel [] rfl⟩
  · have H := of_neg H c1
    refine L_skip ?_
    refine L_seq ?_
    refine L_seq ?_
    refine L_region ?_
    refine F_val rfl rfl rfl (O_assign rfl rfl) ?_
    refine F_nil ?_
    obtain ⟨yj2, Hyj2, H⟩ := of_bind H
    refine L_join (fun a w => yj2 = Sum.inr () ∧ Is Tryd.f29.ntmps a [] ∧ Hp S0 w0 w [.rd A_a_0 (rowC E_api_Token l_a_0), .rd A_b_1 (rowC E_api_Token l_b_1)]) (fun Qj2 hNj2 hOj2 => ?_) (fun a w hR => ?_)
    · have HOj2 := H
      have H := Hyj2
      refine L_blk (fun Qb45 hNb45 hXb45 hOb45 => ?_)
      refine L_lp (fun k a w => ∃ (i_72 : Int), Is Tryd.f29.ntmps a [(0, .slice A_a_0 l_a_0.length c_a_0), (1, .slice A_b_1 l_b_1.length c_b_1), (5, .int .i64 i_72)] ∧ Hp S0 w0 w [.rd A_a_0 (rowC E_api_Token l_a_0), .rd A_b_1 (rowC E_api_Token l_b_1)] ∧ valiselaw10_alike.l1 k i_72 l_a_0 l_b_1 = some yj2) FU (fun a ha => ⟨_, Is.cons ha (Is.cons ha (Is.cons ha (Is.nil ha) rfl) rfl) rfl, HS0.sel [0, 1] rfl, H⟩) (fun kp71 a w73 hI Qp71 hNp71 hOp71 => ?_)
      obtain ⟨i_72, ha, HS74, HAp71⟩ := hI
      cases kp71 with
      | zero => cases (show (none : Option _) = some _ from HAp71)
      | succ kp71 =>
        have H := (valiselaw10_alike.l1.eq_2 ..).symm.trans HAp71
        refine wpLF_app ?_ ha
        refine L_seq ?_
        refine L_seq ?_
        refine L_region ?_
        refine F_val rfl rfl rfl (O_move rfl rfl) ?_
        refine F_val rfl rfl rfl (O_move rfl rfl) ?_
        refine F_val rfl rfl rfl (O_len rfl rfl Tryd.underlying35) ?_
        refine F_val rfl rfl rfl (O_lt rfl rfl rfl) ?_
        refine F_nil ?_
        refine L_condP rfl (fun c75 => ?_) (fun c75 => ?_)
        · have H := of_pos H c75
          refine L_skip ?_
          refine L_seq ?_
          refine L_blk (fun Q76 hN76 hX76 hO76 => ?_)
          refine L_seq ?_
          refine L_quiet mix (by kernel_rfl) ?_
          refine Q_val rfl rfl rfl (fun wq hq => O_move rfl rfl) ?_
          refine Q_val rfl rfl rfl (fun wq hq => O_move rfl rfl) ?_
          obtain ⟨⟨g77, g78⟩, H⟩ := of_gd H
          refine Q_val rfl rfl rfl (fun wq hq => O_idx rfl rfl rfl Tryd.underlying35 size50 g77 g78 (Cells.isA ((HS74.keep hq).cells_rd (i := 0) rfl) (rowC_ne (E := E_api_Token) g77 g78 (by decide)))) ?_
          refine Q_val rfl rfl rfl (fun wq hq => O_loadEl (E := E_api_Token) rfl rfl wide50 ((HS74.keep hq).cells_rd (i := 0) rfl) g77 g78 (by decide)) ?_
          refine Q_val rfl rfl rfl (fun wq hq => O_move rfl rfl) ?_
          refine Q_val rfl rfl rfl (fun wq hq => O_move rfl rfl) ?_
          obtain ⟨⟨g79, g80⟩, H⟩ := of_gd H
          refine Q_val rfl rfl rfl (fun wq hq => O_idx rfl rfl rfl Tryd.underlying35 size50 g79 g80 (Cells.isA ((HS74.keep hq).cells_rd (i := 1) rfl) (rowC_ne (E := E_api_Token) g79 g80 (by decide)))) ?_
          refine Q_val rfl rfl rfl (fun wq hq => O_loadEl (E := E_api_Token) rfl rfl wide50 ((HS74.keep hq).cells_rd (i := 1) rfl) g79 g80 (by decide)) ?_
          refine Q_val rfl rfl rfl (fun wq hq => O_ane (p := (((rdx E_api_Token l_a_0 i_72).1) = ((rdx E_api_Token l_b_1 i_72).1)) ∧ (((rdx E_api_Token l_a_0 i_72).2.1) = ((rdx E_api_Token l_b_1 i_72).2.1)) ∧ (((rdx E_api_Token l_a_0 i_72).2.2) = ((rdx E_api_Token l_b_1 i_72).2.2))) rfl rfl rfl Tryd.underlying50 stood50 eqg50 (eqF_int rfl Tryd.underlying3 rfl rfl (eqF_int rfl Tryd.underlying3 rfl rfl (eqF_int1 rfl Tryd.underlying5 rfl rfl)))) ?_
          refine Q_nil (fun w81 hw82 => ?_)
          have HS83 := HS74.keep hw82
          refine L_condP rfl (fun c84 => ?_) (fun c84 => ?_)
          · have H := of_pos H c84
            refine L_seq ?_
            refine L_region ?_
            refine F_val rfl rfl rfl (O_assign rfl rfl) ?_
            refine F_nil ?_
            refine L_ret (fun a ha => (hO76 .ret a _ rfl (hOp71 .ret a _ rfl (hOb45 .ret a _ rfl (hOj2 .ret a _ rfl (post_ret1 ha rfl rfl ?_))))))
            obtain rfl := Option.some.inj H
            obtain rfl := Option.some.inj (show (some false : Option (Bool)) = some _ from HOj2)
            exact ⟨rfl, HS83.sel [] rfl⟩
          · have H := of_neg H c84
            refine L_skip ?_
            refine L_endB hN76 ?_
            refine L_region ?_
            refine F_val rfl rfl rfl (O_move rfl rfl) ?_
            refine F_val rfl rfl rfl (O_add rfl rfl rfl) ?_
            obtain ⟨x85, h86, H⟩ := of_bnd H
            refine F_val rfl rfl rfl (O_assign' rfl rfl (congrArg (Value.int .i64) h86)) ?_
            refine F_nil ?_
            refine L_nil (fun a ha => hNp71 _ a _ (Nat.lt_succ_self _) ⟨_, Is.cons ha (Is.cons ha (Is.cons ha (Is.nil ha) rfl) rfl) rfl, HS83.sel [0, 1] rfl, H⟩)
        · have H := of_neg H c75
          refine L_exitB (fun a w h => hOp71 (.exit 0) a w rfl (hXb45 a w h)) ?_
          refine L_nil (fun a ha => hNj2 a _ ⟨(Option.some.inj H).symm, Is.nil ha, HS74.sel [0, 1] rfl⟩)
    · obtain ⟨rfl, ha, HS88⟩ := hR
      refine wpLF_app ?_ ha
      have H := (onR_inr _ _ _).symm.trans H
      refine L_seq ?_
      refine L_region ?_
      refine F_val rfl rfl rfl (O_assign rfl rfl) ?_
      refine F_nil ?_
      refine L_ret (fun a ha => (post_ret1 ha rfl rfl ?_))
      obtain rfl := Option.some.inj H
      exact ⟨rfl, HS88.sel [] rfl⟩

/-! function 8: valise/valiselaw10.BlockCounts -/
theorem valiselaw10_BlockCounts.calls {S0 : Nat → Prop} {w0 : World} {A_tokens_0 : Option Addr} {c_tokens_0 : Nat} {l_tokens_0 : List (Int × Int × Int)} {r : Bool} (HS0 : Hp S0 w0 w0 [.rd A_tokens_0 (rowC E_api_Token l_tokens_0), .rd (some ⟨0, 0, none⟩) (rowC (Eint .i64) T_block_distBits), .rd (some ⟨1, 0, none⟩) (rowC (Eint .i64) T_block_distBase), .rd (some ⟨2, 0, none⟩) (rowC (Eint .i64) T_block_lengthBase), .rd (some ⟨3, 0, none⟩) (rowC (Eint .i64) T_block_lengthBits)]) (hc_tokens_0 : l_tokens_0.length ≤ c_tokens_0) (h : valiselaw10_BlockCounts.f l_tokens_0 = some r) :
    Calls Tryd.prog 8 ([.slice A_tokens_0 l_tokens_0.length c_tokens_0] : List Value).toArray w0 (fun e w => e = .returned (.bool r) ∧ Hp S0 w0 w []) := by
  have H : (((valiselaw10_list.f l_tokens_0).bind fun z5 => (block_Count.f z5).bind fun (z15, z16, z17) => (valiseref10_Count.f l_tokens_0).bind fun (z30, z31, z32) => (if z17 = z32 then ((valiselaw10_equal.f z15 z30).bind fun z60 => some z60) else (some false)).bind fun b53 => (if b53 = true then ((valiselaw10_equal.f z16 z31).bind fun z77 => some z77) else (some false)).bind fun b70 => (if b70 = true then ((valiselaw10_alike.f z5 l_tokens_0).bind fun z94 => some z94) else (some false)).bind fun b87 => some b87) : Option (Bool)) = some r := h
  refine calls_start Tryd.func8 rfl rfl ?_
  refine L_seq ?_
  refine L_region ?_
  refine F_val rfl rfl rfl (O_assign rfl rfl) ?_
  refine F_nil ?_
  refine L_seq ?_
  refine L_region ?_
  refine F_val rfl rfl rfl (O_move rfl rfl) ?_
  obtain ⟨z5, h4, H⟩ := of_bind H
  refine F_call (xs := [.tmp 10]) rfl rfl rfl rfl Tryd.func25 nm25 rfl rfl ((valiselaw10_list.calls (HS0.give [] rfl (Lent.rd HS0 (Lent.nil) (i := 0) rfl ((HS0.cells_rd (i := 0) rfl).self))) hc_tokens_0 h4).mono (fun e w hc => ?_))
  obtain ⟨A8, c9, rfl, HSo⟩ := hc
  refine ⟨.slice A8 z5.length c9, rfl, ?_⟩
  have HS7 : Hp S0 w0 w [.rd A_tokens_0 (rowC E_api_Token l_tokens_0), .rd (some ⟨0, 0, none⟩) (rowC (Eint .i64) T_block_distBits), .rd (some ⟨1, 0, none⟩) (rowC (Eint .i64) T_block_distBase), .rd (some ⟨2, 0, none⟩) (rowC (Eint .i64) T_block_lengthBase), .rd (some ⟨3, 0, none⟩) (rowC (Eint .i64) T_block_lengthBits), .own A8 c9 (rowC E_api_Token z5) 50 E_api_Token.sz] := (HS0.back [] HSo rfl).sel [0, 1, 2, 3, 4, 5] rfl
  refine F_val rfl rfl rfl (O_assign rfl rfl) ?_
  refine F_nil ?_
  refine L_seq ?_
  refine L_region ?_
  refine F_val rfl rfl rfl (O_move rfl rfl) ?_
  obtain ⟨⟨z15, z16, z17⟩, h14, H⟩ := of_bind H
  refine F_call (xs := [.tmp 13]) rfl rfl rfl rfl Tryd.func26 nm26 rfl rfl ((block_Count.calls (HS7.give [] rfl (Lent.own HS7 (Lent.rd HS7 (Lent.rd HS7 (Lent.rd HS7 (Lent.rd HS7 (Lent.nil) (i := 4) rfl (HS7.cells_rd (i := 4) rfl).self) (i := 3) rfl (HS7.cells_rd (i := 3) rfl).self) (i := 2) rfl (HS7.cells_rd (i := 2) rfl).self) (i := 1) rfl (HS7.cells_rd (i := 1) rfl).self) (i := 5) rfl rfl ((HS7.cells_own (i := 5) rfl).self))) (HS7.own_capE (i := 5) rfl (by decide)) h14).mono (fun e w hc => ?_))
  obtain ⟨A20, c21, A23, c24, rfl, HSo⟩ := hc
  refine ⟨.tuple #[.slice A20 z15.length c21, .slice A23 z16.length c24, .int .i64 z17], rfl, ?_⟩
  have HS19 : Hp S0 w0 w [.rd A_tokens_0 (rowC E_api_Token l_tokens_0), .rd (some ⟨0, 0, none⟩) (rowC (Eint .i64) T_block_distBits), .rd (some ⟨1, 0, none⟩) (rowC (Eint .i64) T_block_distBase), .rd (some ⟨2, 0, none⟩) (rowC (Eint .i64) T_block_lengthBase), .rd (some ⟨3, 0, none⟩) (rowC (Eint .i64) T_block_lengthBits), .own A8 c9 (rowC E_api_Token z5) 50 E_api_Token.sz, .own A20 c21 (rowC (Eint .i64) z15) 3 (Eint .i64).sz, .own A23 c24 (rowC (Eint .i64) z16) 3 (Eint .i64).sz] := (HS7.back [] HSo rfl).sel [0, 1, 2, 3, 4, 5, 6, 7] rfl
  refine F_val rfl rfl rfl (O_move rfl rfl) ?_
  refine F_val rfl rfl rfl (O_extract (v := .slice A20 z15.length c21) rfl rfl rfl) ?_
  refine F_val rfl rfl rfl (O_extract (v := .slice A23 z16.length c24) rfl rfl rfl) ?_
  refine F_val rfl rfl rfl (O_extract (v := .int .i64 z17) rfl rfl rfl) ?_
  refine F_val rfl rfl rfl (O_assign rfl rfl) ?_
  refine F_val rfl rfl rfl (O_assign rfl rfl) ?_
  refine F_val rfl rfl rfl (O_assign rfl rfl) ?_
  refine F_nil ?_
  refine L_seq ?_
  refine L_region ?_
  refine F_val rfl rfl rfl (O_move rfl rfl) ?_
  obtain ⟨⟨z30, z31, z32⟩, h29, H⟩ := of_bind H
  refine F_call (xs := [.tmp 19]) rfl rfl rfl rfl Tryd.func27 nm27 rfl rfl ((valiseref10_Count.calls (HS19.give [] rfl (Lent.rd HS19 (Lent.nil) (i := 0) rfl ((HS19.cells_rd (i := 0) rfl).self))) hc_tokens_0 h29).mono (fun e w hc => ?_))
  obtain ⟨A35, c36, A38, c39, rfl, HSo⟩ := hc
  refine ⟨.tuple #[.slice A35 z30.length c36, .slice A38 z31.length c39, .int .i64 z32], rfl, ?_⟩
  have HS34 : Hp S0 w0 w [.rd A_tokens_0 (rowC E_api_Token l_tokens_0), .rd (some ⟨0, 0, none⟩) (rowC (Eint .i64) T_block_distBits), .rd (some ⟨1, 0, none⟩) (rowC (Eint .i64) T_block_distBase), .rd (some ⟨2, 0, none⟩) (rowC (Eint .i64) T_block_lengthBase), .rd (some ⟨3, 0, none⟩) (rowC (Eint .i64) T_block_lengthBits), .own A8 c9 (rowC E_api_Token z5) 50 E_api_Token.sz, .own A20 c21 (rowC (Eint .i64) z15) 3 (Eint .i64).sz, .own A23 c24 (rowC (Eint .i64) z16) 3 (Eint .i64).sz, .own A35 c36 (rowC (Eint .i64) z30) 3 (Eint .i64).sz, .own A38 c39 (rowC (Eint .i64) z31) 3 (Eint .i64).sz] := (HS19.back [] HSo rfl).sel [0, 1, 2, 3, 4, 5, 6, 7, 8, 9] rfl
  refine F_val rfl rfl rfl (O_move rfl rfl) ?_
  refine F_val rfl rfl rfl (O_extract (v := .slice A35 z30.length c36) rfl rfl rfl) ?_
  refine F_val rfl rfl rfl (O_extract (v := .slice A38 z31.length c39) rfl rfl rfl) ?_
  refine F_val rfl rfl rfl (O_extract (v := .int .i64 z32) rfl rfl rfl) ?_
  refine F_val rfl rfl rfl (O_assign rfl rfl) ?_
  refine F_val rfl rfl rfl (O_assign rfl rfl) ?_
  refine F_val rfl rfl rfl (O_assign rfl rfl) ?_
  refine F_nil ?_
  refine L_seq ?_
  refine L_region ?_
  refine F_val rfl rfl rfl (O_move rfl rfl) ?_
  refine F_qcall (v := .int .i64 z17) (xs := [.tmp 24]) rfl rfl rfl rfl Tryd.func18 nm18 rfl rfl ((valiselaw10_num.calls (HS34.give [] rfl (Lent.nil)) (rfl : valiselaw10_num.f z17 = some z17)).mono (fun e w hc => ?_)) (fun w44 hw45 => ?_)
  · obtain ⟨rfl, h⟩ := hc
    exact ⟨rfl, h.chg0⟩
  have HS46 := HS34.keep hw45
  refine F_val rfl rfl rfl (O_move rfl rfl) ?_
  refine F_val rfl rfl rfl (O_eq rfl rfl rfl) ?_
  refine F_val rfl rfl rfl (O_move rfl rfl) ?_
  obtain ⟨b53, Hb53, H⟩ := of_bind H
  refine F_grpQ 4 [(32, .bool b53), (0, .slice A_tokens_0 l_tokens_0.length c_tokens_0), (3, .slice A8 z5.length c9), (5, .slice A23 z16.length c24), (8, .slice A38 z31.length c39)] ?_ (fun w54 hw55 => ?_)
  · rcases Decidable.em (z17 = z32) with c57 | c57
    · refine F_know (i := 28) rfl (dec_t c57) ?_
      have H := of_pos Hb53 c57
      refine F_gval rfl rfl rfl rfl rfl rfl (O_move rfl rfl) ?_
      refine F_gval rfl rfl rfl rfl rfl rfl (O_move rfl rfl) ?_
      obtain ⟨z60, h59, H⟩ := of_bind H
      refine F_gqcall (v := .bool z60) (xs := [.tmp 29, .tmp 30]) rfl rfl rfl rfl rfl rfl rfl Tryd.func28 nm28 rfl rfl ((valiselaw10_equal.calls (HS46.give [] rfl (Lent.own HS46 (Lent.own HS46 (Lent.nil) (i := 8) rfl rfl ((HS46.cells_own (i := 8) rfl).self)) (i := 6) rfl rfl ((HS46.cells_own (i := 6) rfl).self))) (HS46.own_capE (i := 6) rfl (by decide)) (HS46.own_capE (i := 8) rfl (by decide)) h59).mono (fun e w hc => ?_)) (fun w61 hw62 => ?_)
      · obtain ⟨rfl, h⟩ := hc
        exact ⟨rfl, h.chg0⟩
      have HS63 := HS46.keep hw62
      refine F_val rfl rfl rfl (O_pickT rfl rfl rfl) ?_
      refine F_know (i := 32) rfl (congrArg Value.bool (Option.some.inj H)) ?_
      exact F_grpQE ((Chg.refl NoB _).trans hw62) (fun a ha => Is.cons ha (Is.cons ha (Is.cons ha (Is.cons ha (Is.cons ha (Is.nil ha) rfl) rfl) rfl) rfl) rfl)
    · refine F_know (i := 28) rfl (dec_f c57) ?_
      have H := of_neg Hb53 c57
      refine F_gskip rfl rfl rfl rfl rfl rfl rfl ?_
      refine F_gskip rfl rfl rfl rfl rfl rfl rfl ?_
      refine F_gskip rfl rfl rfl rfl rfl rfl rfl ?_
      refine F_val rfl rfl rfl (O_pickF rfl rfl rfl) ?_
      refine F_know (i := 32) rfl (congrArg Value.bool (Option.some.inj H)) ?_
      exact F_grpQE (Chg.refl NoB _) (fun a ha => Is.cons ha (Is.cons ha (Is.cons ha (Is.cons ha (Is.cons ha (Is.nil ha) rfl) rfl) rfl) rfl) rfl)
  · have HS56 := HS46.keep hw55
    refine F_val rfl rfl rfl (O_move rfl rfl) ?_
    obtain ⟨b70, Hb70, H⟩ := of_bind H
    refine F_grpQ 4 [(37, .bool b70), (0, .slice A_tokens_0 l_tokens_0.length c_tokens_0), (3, .slice A8 z5.length c9)] ?_ (fun w71 hw72 => ?_)
    · rcases Decidable.em (b53 = true) with c74 | c74
      · refine F_know (i := 33) rfl (congrArg Value.bool c74) ?_
        have H := of_pos Hb70 c74
        refine F_gval rfl rfl rfl rfl rfl rfl (O_move rfl rfl) ?_
        refine F_gval rfl rfl rfl rfl rfl rfl (O_move rfl rfl) ?_
        obtain ⟨z77, h76, H⟩ := of_bind H
        refine F_gqcall (v := .bool z77) (xs := [.tmp 34, .tmp 35]) rfl rfl rfl rfl rfl rfl rfl Tryd.func28 nm28 rfl rfl ((valiselaw10_equal.calls (HS56.give [] rfl (Lent.own HS56 (Lent.own HS56 (Lent.nil) (i := 9) rfl rfl ((HS56.cells_own (i := 9) rfl).self)) (i := 7) rfl rfl ((HS56.cells_own (i := 7) rfl).self))) (HS56.own_capE (i := 7) rfl (by decide)) (HS56.own_capE (i := 9) rfl (by decide)) h76).mono (fun e w hc => ?_)) (fun w78 hw79 => ?_)
        · obtain ⟨rfl, h⟩ := hc
          exact ⟨rfl, h.chg0⟩
        have HS80 := HS56.keep hw79
        refine F_val rfl rfl rfl (O_pickT rfl rfl rfl) ?_
        refine F_know (i := 37) rfl (congrArg Value.bool (Option.some.inj H)) ?_
        exact F_grpQE ((Chg.refl NoB _).trans hw79) (fun a ha => Is.cons ha (Is.cons ha (Is.cons ha (Is.nil ha) rfl) rfl) rfl)
      · refine F_know (i := 33) rfl (congrArg Value.bool (Bool.eq_false_iff.mpr c74)) ?_
        have H := of_neg Hb70 c74
        refine F_gskip rfl rfl rfl rfl rfl rfl rfl ?_
        refine F_gskip rfl rfl rfl rfl rfl rfl rfl ?_
        refine F_gskip rfl rfl rfl rfl rfl rfl rfl ?_
        refine F_val rfl rfl rfl (O_pickF rfl rfl rfl) ?_
        refine F_know (i := 37) rfl (congrArg Value.bool (Option.some.inj H)) ?_
        exact F_grpQE (Chg.refl NoB _) (fun a ha => Is.cons ha (Is.cons ha (Is.cons ha (Is.nil ha) rfl) rfl) rfl)
    · have HS73 := HS56.keep hw72
      refine F_val rfl rfl rfl (O_move rfl rfl) ?_
      obtain ⟨b87, Hb87, H⟩ := of_bind H
      refine F_grpQ 4 [(42, .bool b87)] ?_ (fun w88 hw89 => ?_)
      · rcases Decidable.em (b70 = true) with c91 | c91
        · refine F_know (i := 38) rfl (congrArg Value.bool c91) ?_
          have H := of_pos Hb87 c91
          refine F_gval rfl rfl rfl rfl rfl rfl (O_move rfl rfl) ?_
          refine F_gval rfl rfl rfl rfl rfl rfl (O_move rfl rfl) ?_
          obtain ⟨z94, h93, H⟩ := of_bind H
          refine F_gqcall (v := .bool z94) (xs := [.tmp 39, .tmp 40]) rfl rfl rfl rfl rfl rfl rfl Tryd.func29 nm29 rfl rfl ((valiselaw10_alike.calls (HS73.give [] rfl (Lent.own HS73 (Lent.rd HS73 (Lent.nil) (i := 0) rfl ((HS73.cells_rd (i := 0) rfl).self)) (i := 5) rfl rfl ((HS73.cells_own (i := 5) rfl).self))) (HS73.own_capE (i := 5) rfl (by decide)) hc_tokens_0 h93).mono (fun e w hc => ?_)) (fun w95 hw96 => ?_)
          · obtain ⟨rfl, h⟩ := hc
            exact ⟨rfl, h.chg0⟩
          have HS97 := HS73.keep hw96
          refine F_val rfl rfl rfl (O_pickT rfl rfl rfl) ?_
          refine F_know (i := 42) rfl (congrArg Value.bool (Option.some.inj H)) ?_
          exact F_grpQE ((Chg.refl NoB _).trans hw96) (fun a ha => Is.cons ha (Is.nil ha) rfl)
        · refine F_know (i := 38) rfl (congrArg Value.bool (Bool.eq_false_iff.mpr c91)) ?_
          have H := of_neg Hb87 c91
          refine F_gskip rfl rfl rfl rfl rfl rfl rfl ?_
          refine F_gskip rfl rfl rfl rfl rfl rfl rfl ?_
          refine F_gskip rfl rfl rfl rfl rfl rfl rfl ?_
          refine F_val rfl rfl rfl (O_pickF rfl rfl rfl) ?_
          refine F_know (i := 42) rfl (congrArg Value.bool (Option.some.inj H)) ?_
          exact F_grpQE (Chg.refl NoB _) (fun a ha => Is.cons ha (Is.nil ha) rfl)
      · have HS90 := HS73.keep hw89
        refine F_val rfl rfl rfl (O_assign rfl rfl) ?_
        refine F_nil ?_
        refine L_ret (fun a ha => (post_ret1 ha rfl rfl ?_))
        obtain rfl := Option.some.inj H
        exact ⟨rfl, HS90.sel [] rfl⟩

end Go.Proofs.YtpkgngaohnblkaaDoor
