import Derived.Test.YtmbcoaiaeeckiaaChecked
import Derived.Test.YtmbcoaiaeeckiaaGBitsPlacesPure
set_option linter.unusedVariables false
set_option linter.unusedSimpArgs false
set_option maxRecDepth 10000
namespace Go.Proofs.Ytmbcoaiaeeckiaa
open Go Go.V Go.V.Pu
theorem mix : Try.prog.follows .mixedOrders = true := by kernel_rfl
theorem nm18 : (Try.f18.name == "runtime.NumGoroutine") = false := by kernel_rfl
theorem size5 : (Try.prog.info? 5).map (·.size) = some 1 := by kernel_rfl
theorem flat5 : Flat Try.prog 5 := Flat.of Try.underlying5 rfl
theorem info5 : (Try.prog.info? 5).map (fun i => (i.zero, i.size, i.bytes)) = some (some (.int .u8 0), 1, 1) := by kernel_rfl
theorem nm26 : (Try.f26.name == "runtime.NumGoroutine") = false := by kernel_rfl
theorem nm25 : (Try.f25.name == "runtime.NumGoroutine") = false := by kernel_rfl
theorem field102_0 : FieldAt Try.prog 102 0 0 := fun w a => by kernel_rfl
theorem flat35 : Flat Try.prog 35 := Flat.of Try.underlying35 rfl
theorem field102_1 : FieldAt Try.prog 102 1 1 := fun w a => by kernel_rfl
theorem flat3 : Flat Try.prog 3 := Flat.of Try.underlying3 rfl
theorem nm30 : (Try.f30.name == "runtime.NumGoroutine") = false := by kernel_rfl
theorem nm57 : (Try.f57.name == "runtime.NumGoroutine") = false := by kernel_rfl
theorem size3 : (Try.prog.info? 3).map (·.size) = some 1 := by kernel_rfl
theorem nm31 : (Try.f31.name == "runtime.NumGoroutine") = false := by kernel_rfl
theorem field99_1 : FieldAt Try.prog 99 1 1 := fun w a => by kernel_rfl
theorem field99_0 : FieldAt Try.prog 99 0 0 := fun w a => by kernel_rfl
theorem size35 : (Try.prog.info? 35).map (·.size) = some 1 := by kernel_rfl
theorem nm56 : (Try.f56.name == "runtime.NumGoroutine") = false := by kernel_rfl
theorem nm19 : (Try.f19.name == "runtime.NumGoroutine") = false := by kernel_rfl
theorem nm37 : (Try.f37.name == "runtime.NumGoroutine") = false := by kernel_rfl
theorem nm23 : (Try.f23.name == "runtime.NumGoroutine") = false := by kernel_rfl
theorem nm21 : (Try.f21.name == "runtime.NumGoroutine") = false := by kernel_rfl
theorem nm24 : (Try.f24.name == "runtime.NumGoroutine") = false := by kernel_rfl
/-! function 18: valise/bits.NewWriter -/
theorem bits_NewWriter.calls {S0 : Nat → Prop} {w0 : World} {r : (List Int × Int)} (HS0 : Hp S0 w0 w0 []) (h : bits_NewWriter.f = some r) :
    Calls Try.prog 18 ([] : List Value).toArray w0 (fun e w => ∃ (g1 : Nat), ∃ (A1_0 : Option Addr), ∃ (c1_0 : Nat), e = .returned (.pointer (some ⟨g1, 0, none⟩)) ∧ Hp S0 w0 w [.box g1 [.slice A1_0 r.1.length c1_0, .int .i64 r.2] 99, .own A1_0 c1_0 (rowC (Eint .u8) r.1) 5 (Eint .u8).sz]) := by
  have H : ((some (([] : List Int), 0)) : Option ((List Int × Int))) = some r := h
  refine calls_start Try.func18 rfl rfl ?_
  refine L_seq ?_
  refine L_region ?_
  refine F_val rfl rfl rfl (O_assign rfl rfl) ?_
  refine F_nil ?_
  refine L_seq ?_
  refine L_region ?_
  refine F_val rfl rfl rfl (O_build (vs := []) (v := .agg #[.slice none 0 0, .int .i64 0]) rfl rfl rfl (fun w => by kernel_rfl)) ?_
  have HS5 := HS0.addNil 5 (Eint .u8).sz
  have HS5 : Hp S0 w0 w0 [.own none 0 (rowC (Eint .u8) ([] : List Int)) 5 (Eint .u8).sz] := HS5
  refine F_box (C := [.slice none ([] : List Int).length 0, .int .i64 0]) rfl rfl rfl rfl rfl rfl HS5 (fun w1 g3 HS2 => ?_)
  have HS2 : Hp S0 w0 w1 [.own none 0 (rowC (Eint .u8) ([] : List Int)) 5 (Eint .u8).sz, .box g3 ([.slice none ([] : List Int).length 0, .int .i64 0]) 99] := HS2
  refine F_val rfl rfl rfl (O_assign rfl rfl) ?_
  refine F_nil ?_
  refine L_ret (fun a ha => (post_ret1 ha rfl rfl ?_))
  obtain rfl := Option.some.inj H
  exact ⟨_, _, _, rfl, HS2.sel [1, 0] rfl⟩

/-! function 26: valise/valiselaw3.copied -/
theorem valiselaw3_copied.calls {S0 : Nat → Prop} {w0 : World} {A_a_0 : Option Addr} {c_a_0 : Nat} {l_a_0 : List Int} {r : List Int} (HS0 : Hp S0 w0 w0 [.rd A_a_0 (rowC (Eint .u8) l_a_0)]) (hc_a_0 : l_a_0.length ≤ c_a_0) (h : valiselaw3_copied.f l_a_0 = some r) :
    Calls Try.prog 26 ([.slice A_a_0 l_a_0.length c_a_0] : List Value).toArray w0 (fun e w => ∃ (A1 : Option Addr), ∃ (c1 : Nat), e = .returned (.slice A1 r.length c1) ∧ Hp S0 w0 w [.own A1 c1 (rowC (Eint .u8) r) 5 (Eint .u8).sz]) := by
  have H : (((valiselaw3_copied.l1 FU ([] : List Int) 0 l_a_0).bind fun l72 => some l72) : Option (List Int)) = some r := h
  refine calls_start Try.func26 rfl rfl ?_
  refine L_seq ?_
  refine L_region ?_
  refine F_val rfl rfl rfl (O_assign rfl rfl) ?_
  refine F_nil ?_
  refine L_seq ?_
  refine L_region ?_
  refine F_val rfl rfl rfl (O_assign rfl rfl) ?_
  have HS1 := HS0.addNil 5 (Eint .u8).sz
  have HS1 : Hp S0 w0 w0 [.rd A_a_0 (rowC (Eint .u8) l_a_0), .own none 0 (rowC (Eint .u8) ([] : List Int)) 5 (Eint .u8).sz] := HS1
  refine F_nil ?_
  refine L_seq ?_
  refine L_seq ?_
  refine L_region ?_
  refine F_val rfl rfl rfl (O_assign rfl rfl) ?_
  refine F_nil ?_
  obtain ⟨yj3, Hyj3, H⟩ := of_bind H
  refine L_join (fun a w => ∃ (l72 : List Int), ∃ (A70 : Option Addr), ∃ (c71 : Nat), yj3 = l72 ∧ Is Try.f26.ntmps a [(3, .slice A70 l72.length c71)] ∧ Hp S0 w0 w [.rd A_a_0 (rowC (Eint .u8) l_a_0), .own A70 c71 (rowC (Eint .u8) l72) 5 (Eint .u8).sz]) (fun Qj3 hNj3 hOj3 => ?_) (fun a w hR => ?_)
  · skip
    have H := Hyj3
    refine L_blk (fun Qb73 hNb73 hXb73 hOb73 => ?_)
    refine L_lp (fun k a w => ∃ (l117 : List Int), ∃ (i_118 : Int), ∃ (A115 : Option Addr), ∃ (c116 : Nat), Is Try.f26.ntmps a [(0, .slice A_a_0 l_a_0.length c_a_0), (3, .slice A115 l117.length c116), (4, .int .i64 i_118)] ∧ Hp S0 w0 w [.rd A_a_0 (rowC (Eint .u8) l_a_0), .own A115 c116 (rowC (Eint .u8) l117) 5 (Eint .u8).sz] ∧ valiselaw3_copied.l1 k l117 i_118 l_a_0 = some yj3) FU (fun a ha => ⟨_, _, _, _, Is.cons ha (Is.cons ha (Is.cons ha (Is.nil ha) rfl) rfl) rfl, HS1.sel [0, 1] rfl, H⟩) (fun kp114 a w119 hI Qp114 hNp114 hOp114 => ?_)
    obtain ⟨l117, i_118, A115, c116, ha, HS120, HAp114⟩ := hI
    cases kp114 with
    | zero => cases (show (none : Option _) = some _ from HAp114)
    | succ kp114 =>
      have H := (valiselaw3_copied.l1.eq_2 ..).symm.trans HAp114
      refine wpLF_app ?_ ha
      refine L_seq ?_
      refine L_seq ?_
      refine L_region ?_
      refine F_val rfl rfl rfl (O_move rfl rfl) ?_
      refine F_val rfl rfl rfl (O_move rfl rfl) ?_
      refine F_val rfl rfl rfl (O_len rfl rfl Try.underlying35) ?_
      refine F_val rfl rfl rfl (O_lt rfl rfl rfl) ?_
      refine F_nil ?_
      refine L_condP rfl (fun c121 => ?_) (fun c121 => ?_)
      · have H := of_pos H c121
        refine L_skip ?_
        refine L_seq ?_
        refine L_blk (fun Q122 hN122 hX122 hO122 => ?_)
        refine L_region ?_
        refine F_val rfl rfl rfl (O_move rfl rfl) ?_
        refine F_val rfl rfl rfl (O_move rfl rfl) ?_
        refine F_val rfl rfl rfl (O_move rfl rfl) ?_
        obtain ⟨⟨g123, g124⟩, H⟩ := of_gd H
        refine F_val rfl rfl rfl (O_idx rfl rfl rfl Try.underlying35 size5 g123 g124 (Cells.isA (HS120.cells_rd (i := 0) rfl) (rowC_ne (E := (Eint .u8)) g123 g124 (by decide)))) ?_
        refine F_val rfl rfl rfl (O_loadC rfl rfl flat5 (HS120.cells_rd (i := 0) rfl) (int_cell g123 g124)) ?_
        refine F_litE (E := (Eint .u8)) (e := 5) [(0, .int .u8 (rd l_a_0 i_118))] [rd l_a_0 i_118] rfl rfl rfl rfl rfl rfl rfl (by decide) (fun w => by kernel_rfl) HS120 (fun w125 A127 c128 HS126 => ?_)
        have HS126 : Hp S0 w0 w125 [.rd A_a_0 (rowC (Eint .u8) l_a_0), .own A115 c116 (rowC (Eint .u8) l117) 5 (Eint .u8).sz, .own A127 c128 (rowC (Eint .u8) [rd l_a_0 i_118]) 5 (Eint .u8).sz] := HS126
        obtain ⟨l132, h133, H⟩ := of_bnd H
        obtain ⟨g134, H⟩ := of_gd H
        refine F_appE (E := (Eint .u8)) (xs := l117) (ys := [rd l_a_0 i_118]) (i := 1) rfl rfl rfl rfl Try.underlying35 info5 rfl (by decide) (by decide) rfl rfl HS126 rfl (HS126.cells_own (i := 2) rfl) h133 g134 (fun w130 A135 c136 HS131 => ?_)
        have HS131 : Hp S0 w0 w130 [.rd A_a_0 (rowC (Eint .u8) l_a_0), .own A135 c136 (rowC (Eint .u8) l132) 5 (Eint .u8).sz, .own A127 c128 (rowC (Eint .u8) [rd l_a_0 i_118]) 5 (Eint .u8).sz] := HS131
        refine F_val rfl rfl rfl (O_assign rfl rfl) ?_
        refine F_nil ?_
        refine L_endB hN122 ?_
        refine L_region ?_
        refine F_val rfl rfl rfl (O_move rfl rfl) ?_
        refine F_val rfl rfl rfl (O_add rfl rfl rfl) ?_
        obtain ⟨x137, h138, H⟩ := of_bnd H
        refine F_val rfl rfl rfl (O_assign' rfl rfl (congrArg (Value.int .i64) h138)) ?_
        refine F_nil ?_
        refine L_nil (fun a ha => hNp114 _ a _ (Nat.lt_succ_self _) ⟨_, _, _, _, Is.cons ha (Is.cons ha (Is.cons ha (Is.nil ha) rfl) rfl) rfl, HS131.sel [0, 1] rfl, H⟩)
      · have H := of_neg H c121
        refine L_exitB (fun a w h => hOp114 (.exit 0) a w rfl (hXb73 a w h)) ?_
        refine L_nil (fun a ha => hNj3 a _ ⟨_, _, _, (Option.some.inj H).symm, Is.cons ha (Is.nil ha) rfl, HS120.sel [0, 1] rfl⟩)
  · obtain ⟨l72, A70, c71, ej, ha, HS140⟩ := hR
    obtain rfl := ej.symm
    refine wpLF_app ?_ ha
    refine L_seq ?_
    refine L_region ?_
    refine F_val rfl rfl rfl (O_move rfl rfl) ?_
    refine F_val rfl rfl rfl (O_assign rfl rfl) ?_
    refine F_nil ?_
    refine L_ret (fun a ha => (post_ret1 ha rfl rfl ?_))
    obtain rfl := Option.some.inj H
    exact ⟨_, _, rfl, HS140.sel [1] rfl⟩

/-! function 25: valise/bits.NewReader -/
theorem bits_NewReader.calls {S0 : Nat → Prop} {w0 : World} {A_data_0 : Option Addr} {c_data_0 : Nat} {l_data_0 : List Int} {r : Option (List Int × Int)} (HS0 : Hp S0 w0 w0 [.rd A_data_0 (rowC (Eint .u8) l_data_0)]) (hc_data_0 : l_data_0.length ≤ c_data_0) (h : bits_NewReader.f l_data_0 = some r) :
    Calls Try.prog 25 ([.slice A_data_0 l_data_0.length c_data_0] : List Value).toArray w0 (fun e w => match r with | none => e = .returned (.pointer none) ∧ Hp S0 w0 w [] | some x => ∃ (g0 : Nat), ∃ (A0_0 : Option Addr), ∃ (c0_0 : Nat), e = .returned (.pointer (some ⟨g0, 0, none⟩)) ∧ Hp S0 w0 w [.box g0 [.slice A0_0 x.1.length c0_0, .int .i64 x.2] 102, .own A0_0 c0_0 (rowC (Eint .u8) x.1) 5 (Eint .u8).sz]) := by
  have H : ((if 33554432 < (l_data_0.length : Int) then (some none) else (gd ((0 : Int) ≤ (l_data_0.length : Int) ∧ (l_data_0.length : Int) * 1 ≤ 281474976710656) (bnd (List.replicate ((l_data_0.length : Int) : Int).toNat (0 : Int)) fun l6 => bnd (cpy l6 l_data_0) fun l13 => some (some (l13, 0))))) : Option (Option (List Int × Int))) = some r := h
  refine calls_start Try.func25 rfl rfl ?_
  refine L_seq ?_
  refine L_region ?_
  refine F_val rfl rfl rfl (O_assign rfl rfl) ?_
  refine F_nil ?_
  refine L_seq ?_
  refine L_seq ?_
  refine L_region ?_
  refine F_val rfl rfl rfl (O_move rfl rfl) ?_
  refine F_val rfl rfl rfl (O_len rfl rfl Try.underlying35) ?_
  refine F_val rfl rfl rfl (O_gt rfl rfl rfl) ?_
  refine F_nil ?_
  refine L_condP rfl (fun c1 => ?_) (fun c1 => ?_)
  · have H := of_pos H c1
    refine L_seq ?_
    refine L_region ?_
    refine F_val rfl rfl rfl (O_assign rfl rfl) ?_
    refine F_nil ?_
    refine L_ret (fun a ha => (post_ret1 ha rfl rfl ?_))
    obtain rfl := Option.some.inj H
    exact ⟨rfl, HS0.sel [] rfl⟩
  · have H := of_neg H c1
    refine L_skip ?_
    refine L_seq ?_
    refine L_region ?_
    refine F_val rfl rfl rfl (O_move rfl rfl) ?_
    refine F_val rfl rfl rfl (O_len rfl rfl Try.underlying35) ?_
    obtain ⟨⟨g4, g5⟩, H⟩ := of_gd H
    obtain ⟨l6, h7, H⟩ := of_bnd H
    refine F_makeE (E := (Eint .u8)) rfl rfl rfl rfl rfl rfl Try.underlying35 info5 rfl (by decide) (by decide) g4 g5 HS0 h7 (fun w2 A8 c9 HS3 => ?_)
    have HS3 : Hp S0 w0 w2 [.rd A_data_0 (rowC (Eint .u8) l_data_0), .own A8 c9 (rowC (Eint .u8) l6) 5 (Eint .u8).sz] := HS3
    refine F_val rfl rfl rfl (O_assign rfl rfl) ?_
    refine F_nil ?_
    refine L_seq ?_
    refine L_region ?_
    refine F_val rfl rfl rfl (O_move rfl rfl) ?_
    refine F_val rfl rfl rfl (O_move rfl rfl) ?_
    obtain ⟨l13, h14, H⟩ := of_bnd H
    refine F_copyE (E := (Eint .u8)) (xs := l6) (ys := l_data_0) (i := 1) rfl rfl rfl rfl Try.underlying35 size5 rfl rfl HS3 rfl (HS3.cells_rd (i := 0) rfl) h14 (fun w11 HS12 => ?_)
    have e15 : l6.length = l13.length := by rw [← h14, cpy_length]
    refine F_know (i := 3) rfl (congrArg (fun n => Value.slice A8 n c9) e15) ?_
    have HS12 : Hp S0 w0 w11 [.rd A_data_0 (rowC (Eint .u8) l_data_0), .own A8 c9 (rowC (Eint .u8) l13) 5 (Eint .u8).sz] := HS12
    refine F_nil ?_
    refine L_seq ?_
    refine L_region ?_
    refine F_val rfl rfl rfl (O_move rfl rfl) ?_
    refine F_val rfl rfl rfl (O_build (vs := [(0, .slice A8 l13.length c9)]) (v := .agg #[.slice A8 l13.length c9, .int .i64 0]) rfl rfl rfl (fun w => by kernel_rfl)) ?_
    refine F_box (C := [.slice A8 l13.length c9, .int .i64 0]) rfl rfl rfl rfl rfl rfl HS12 (fun w16 g18 HS17 => ?_)
    have HS17 : Hp S0 w0 w16 [.rd A_data_0 (rowC (Eint .u8) l_data_0), .own A8 c9 (rowC (Eint .u8) l13) 5 (Eint .u8).sz, .box g18 [.slice A8 l13.length c9, .int .i64 0] 102] := HS17
    refine F_val rfl rfl rfl (O_assign rfl rfl) ?_
    refine F_nil ?_
    refine L_ret (fun a ha => (post_ret1 ha rfl rfl ?_))
    obtain rfl := Option.some.inj H
    exact ⟨_, _, _, rfl, HS17.sel [2, 1] rfl⟩

/-! function 30: (*valise/bits.Reader).Left -/
theorem bits_Reader_Left.calls {S0 : Nat → Prop} {w0 : World} {g_r_0 : Nat} {A_r_0_data : Option Addr} {c_r_0_data : Nat} {r_0_data : List Int} {r_0_at : Int} {r : Int} (HS0 : Hp S0 w0 w0 [.rd (some ⟨g_r_0, 0, none⟩) [.slice A_r_0_data r_0_data.length c_r_0_data, .int .i64 r_0_at], .rd A_r_0_data (rowC (Eint .u8) r_0_data)]) (h : bits_Reader_Left.f r_0_data r_0_at = some r) :
    Calls Try.prog 30 ([.pointer (some ⟨g_r_0, 0, none⟩)] : List Value).toArray w0 (fun e w => e = .returned (.int .i64 r) ∧ Hp S0 w0 w []) := by
  have H : ((some (IntKind.i64.wrap ((IntKind.i64.wrap (8 * (r_0_data.length : Int))) - r_0_at))) : Option (Int)) = some r := h
  refine calls_start Try.func30 rfl rfl ?_
  refine L_seq ?_
  refine L_region ?_
  refine F_val rfl rfl rfl (O_assign rfl rfl) ?_
  refine F_nil ?_
  refine L_seq ?_
  refine L_seq ?_
  refine L_region ?_
  refine F_val rfl rfl rfl (O_move rfl rfl) ?_
  refine F_val rfl rfl rfl (O_peq rfl rfl rfl Try.underlying42) ?_
  refine F_nil ?_
  refine L_cond rfl (fun hx => by cases hx) (fun _ => ?_)
  refine L_skip ?_
  refine L_seq ?_
  refine L_quiet mix (by kernel_rfl) ?_
  refine Q_val rfl rfl rfl (fun wq hq => O_move rfl rfl) ?_
  refine Q_val rfl rfl rfl (fun wq hq => O_nilCheck rfl rfl) ?_
  refine Q_val rfl rfl rfl (fun wq hq => O_fieldB rfl rfl field102_0) ?_
  refine Q_val rfl rfl rfl (fun wq hq => O_loadB rfl rfl flat35 ((HS0.keep hq).cells_rd (i := 0) rfl) rfl) ?_
  refine Q_val rfl rfl rfl (fun wq hq => O_len rfl rfl Try.underlying35) ?_
  refine Q_val rfl rfl rfl (fun wq hq => O_mul rfl rfl rfl) ?_
  refine Q_val rfl rfl rfl (fun wq hq => O_move rfl rfl) ?_
  refine Q_val rfl rfl rfl (fun wq hq => O_nilCheck rfl rfl) ?_
  refine Q_val rfl rfl rfl (fun wq hq => O_fieldB rfl rfl field102_1) ?_
  refine Q_val rfl rfl rfl (fun wq hq => O_loadB rfl rfl flat3 ((HS0.keep hq).cells_rd (i := 0) rfl) rfl) ?_
  refine Q_val rfl rfl rfl (fun wq hq => O_sub rfl rfl rfl) ?_
  refine Q_val rfl rfl rfl (fun wq hq => O_assign rfl rfl) ?_
  refine Q_nil (fun w1 hw2 => ?_)
  have HS3 := HS0.keep hw2
  refine L_ret (fun a ha => (post_ret1 ha rfl rfl ?_))
  obtain rfl := Option.some.inj H
  exact ⟨rfl, HS3.sel [] rfl⟩

/-! function 57: (*valise/bits.Reader).ahead -/
theorem bits_Reader_ahead.calls {S0 : Nat → Prop} {w0 : World} {g_r_0 : Nat} {A_r_0_data : Option Addr} {c_r_0_data : Nat} {r_0_data : List Int} {r_0_at : Int} {n_1 : Int} {r : Int} (HS0 : Hp S0 w0 w0 [.rd (some ⟨g_r_0, 0, none⟩) [.slice A_r_0_data r_0_data.length c_r_0_data, .int .i64 r_0_at], .rd A_r_0_data (rowC (Eint .u8) r_0_data)]) (h : bits_Reader_ahead.f r_0_data r_0_at n_1 = some r) :
    Calls Try.prog 57 ([.pointer (some ⟨g_r_0, 0, none⟩), .int .i64 n_1] : List Value).toArray w0 (fun e w => e = .returned (.int .u32 r) ∧ Hp S0 w0 w []) := by
  have H : (((bits_Reader_ahead.l1 FU 0 0 r_0_at r_0_data n_1).bind fun v_72 => some (IntKind.u32.wrap v_72)) : Option (Int)) = some r := h
  refine calls_start Try.func57 rfl rfl ?_
  refine L_seq ?_
  refine L_region ?_
  refine F_val rfl rfl rfl (O_assign rfl rfl) ?_
  refine F_nil ?_
  refine L_seq ?_
  refine L_region ?_
  refine F_val rfl rfl rfl (O_assign rfl rfl) ?_
  refine F_nil ?_
  refine L_seq ?_
  refine L_region ?_
  refine F_val rfl rfl rfl (O_assign rfl rfl) ?_
  refine F_nil ?_
  refine L_seq ?_
  refine L_seq ?_
  refine L_region ?_
  refine F_val rfl rfl rfl (O_move rfl rfl) ?_
  refine F_val rfl rfl rfl (O_nilCheck rfl rfl) ?_
  refine F_val rfl rfl rfl (O_fieldB rfl rfl field102_1) ?_
  refine F_val rfl rfl rfl (O_loadB rfl rfl flat3 (HS0.cells_rd (i := 0) rfl) rfl) ?_
  refine F_val rfl rfl rfl (O_assign rfl rfl) ?_
  refine F_nil ?_
  obtain ⟨yj1, Hyj1, H⟩ := of_bind H
  refine L_join (fun a w => ∃ (v_72 : Int), yj1 = v_72 ∧ Is Try.f57.ntmps a [(5, .int .u64 v_72)] ∧ Hp S0 w0 w [.rd (some ⟨g_r_0, 0, none⟩) [.slice A_r_0_data r_0_data.length c_r_0_data, .int .i64 r_0_at], .rd A_r_0_data (rowC (Eint .u8) r_0_data)]) (fun Qj1 hNj1 hOj1 => ?_) (fun a w hR => ?_)
  · skip
    have H := Hyj1
    refine L_blk (fun Qb73 hNb73 hXb73 hOb73 => ?_)
    refine L_lp (fun k a w => ∃ (v_118 : Int), ∃ (got_119 : Int), ∃ (at_120 : Int), Is Try.f57.ntmps a [(0, .pointer (some ⟨g_r_0, 0, none⟩)), (1, .int .i64 n_1), (5, .int .u64 v_118), (6, .int .i64 got_119), (7, .int .i64 at_120)] ∧ Hp S0 w0 w [.rd (some ⟨g_r_0, 0, none⟩) [.slice A_r_0_data r_0_data.length c_r_0_data, .int .i64 r_0_at], .rd A_r_0_data (rowC (Eint .u8) r_0_data)] ∧ bits_Reader_ahead.l1 k v_118 got_119 at_120 r_0_data n_1 = some yj1) FU (fun a ha => ⟨_, _, _, Is.cons ha (Is.cons ha (Is.cons ha (Is.cons ha (Is.cons ha (Is.nil ha) rfl) rfl) rfl) rfl) rfl, HS0.sel [0, 1] rfl, H⟩) (fun kp117 a w121 hI Qp117 hNp117 hOp117 => ?_)
    obtain ⟨v_118, got_119, at_120, ha, HS122, HAp117⟩ := hI
    cases kp117 with
    | zero => cases (show (none : Option _) = some _ from HAp117)
    | succ kp117 =>
      have H := (bits_Reader_ahead.l1.eq_2 ..).symm.trans HAp117
      refine wpLF_app ?_ ha
      refine L_seq ?_
      refine L_seq ?_
      refine L_region ?_
      refine F_val rfl rfl rfl (O_move rfl rfl) ?_
      refine F_val rfl rfl rfl (O_move rfl rfl) ?_
      refine F_val rfl rfl rfl (O_lt rfl rfl rfl) ?_
      refine F_val rfl rfl rfl (O_move rfl rfl) ?_
      refine F_grp 9 [(27, .bool (decide ((got_119 < n_1) ∧ (at_120 < IntKind.i64.wrap (8 * (r_0_data.length : Int)))))), (0, .pointer (some ⟨g_r_0, 0, none⟩)), (1, .int .i64 n_1), (5, .int .u64 v_118), (6, .int .i64 got_119), (7, .int .i64 at_120)] ?_ ?_
      · rcases Decidable.em (got_119 < n_1) with c123 | c123
        · refine F_know (i := 18) rfl (dec_t c123) ?_
          refine F_gval rfl rfl rfl rfl rfl rfl (O_move rfl rfl) ?_
          refine F_gval rfl rfl rfl rfl rfl rfl (O_move rfl rfl) ?_
          refine F_gval rfl rfl rfl rfl rfl rfl (O_nilCheck rfl rfl) ?_
          refine F_gval rfl rfl rfl rfl rfl rfl (O_fieldB rfl rfl field102_0) ?_
          refine F_gval rfl rfl rfl rfl rfl rfl (O_loadB rfl rfl flat35 (HS122.cells_rd (i := 0) rfl) rfl) ?_
          refine F_gval rfl rfl rfl rfl rfl rfl (O_len rfl rfl Try.underlying35) ?_
          refine F_gval rfl rfl rfl rfl rfl rfl (O_mul rfl rfl rfl) ?_
          refine F_gval rfl rfl rfl rfl rfl rfl (O_lt rfl rfl rfl) ?_
          refine F_val rfl rfl rfl (O_pickT rfl rfl rfl) ?_
          refine F_know (i := 27) rfl (dec_and_t (q := at_120 < IntKind.i64.wrap (8 * (r_0_data.length : Int))) c123) ?_
          exact F_grpE (fun a ha => Is.cons ha (Is.cons ha (Is.cons ha (Is.cons ha (Is.cons ha (Is.cons ha (Is.nil ha) rfl) rfl) rfl) rfl) rfl) rfl)
        · refine F_know (i := 18) rfl (dec_f c123) ?_
          refine F_gskip rfl rfl rfl rfl rfl rfl rfl ?_
          refine F_gskip rfl rfl rfl rfl rfl rfl rfl ?_
          refine F_gskip rfl rfl rfl rfl rfl rfl rfl ?_
          refine F_gskip rfl rfl rfl rfl rfl rfl rfl ?_
          refine F_gskip rfl rfl rfl rfl rfl rfl rfl ?_
          refine F_gskip rfl rfl rfl rfl rfl rfl rfl ?_
          refine F_gskip rfl rfl rfl rfl rfl rfl rfl ?_
          refine F_gskip rfl rfl rfl rfl rfl rfl rfl ?_
          refine F_val rfl rfl rfl (O_pickF rfl rfl rfl) ?_
          refine F_know (i := 27) rfl (dec_and_f (q := at_120 < IntKind.i64.wrap (8 * (r_0_data.length : Int))) c123) ?_
          exact F_grpE (fun a ha => Is.cons ha (Is.cons ha (Is.cons ha (Is.cons ha (Is.cons ha (Is.cons ha (Is.nil ha) rfl) rfl) rfl) rfl) rfl) rfl)
      · skip
        refine F_nil ?_
        refine L_condP rfl (fun c124 => ?_) (fun c124 => ?_)
        · have H := of_pos H c124
          refine L_skip ?_
          refine L_blk (fun Q125 hN125 hX125 hO125 => ?_)
          refine L_seq ?_
          refine L_region ?_
          refine F_val rfl rfl rfl (O_move rfl rfl) ?_
          refine F_val rfl rfl rfl (O_rem rfl rfl rfl (by decide)) ?_
          obtain ⟨x126, h127, H⟩ := of_bnd H
          refine F_val rfl rfl rfl (O_assign' rfl rfl (congrArg (Value.int .i64) h127)) ?_
          refine F_nil ?_
          refine L_seq ?_
          refine L_region ?_
          refine F_val rfl rfl rfl (O_move rfl rfl) ?_
          refine F_val rfl rfl rfl (O_sub rfl rfl rfl) ?_
          refine F_val rfl rfl rfl (O_move rfl rfl) ?_
          refine F_val rfl rfl rfl (O_move rfl rfl) ?_
          refine F_val rfl rfl rfl (O_sub rfl rfl rfl) ?_
          refine F_val rfl rfl rfl (O_min rfl rfl rfl) ?_
          obtain ⟨x128, h129, H⟩ := of_bnd H
          refine F_val rfl rfl rfl (O_assign' rfl rfl (congrArg (Value.int .i64) h129)) ?_
          refine F_nil ?_
          refine L_seq ?_
          refine L_region ?_
          refine F_val rfl rfl rfl (O_move rfl rfl) ?_
          refine F_val rfl rfl rfl (O_nilCheck rfl rfl) ?_
          refine F_val rfl rfl rfl (O_fieldB rfl rfl field102_0) ?_
          refine F_val rfl rfl rfl (O_loadB rfl rfl flat35 (HS122.cells_rd (i := 0) rfl) rfl) ?_
          refine F_val rfl rfl rfl (O_move rfl rfl) ?_
          refine F_val rfl rfl rfl (O_quo rfl rfl rfl (by decide)) ?_
          obtain ⟨⟨g130, g131⟩, H⟩ := of_gd H
          refine F_val rfl rfl rfl (O_idx rfl rfl rfl Try.underlying35 size5 g130 g131 (Cells.isA (HS122.cells_rd (i := 1) rfl) (rowC_ne (E := (Eint .u8)) g130 g131 (by decide)))) ?_
          refine F_val rfl rfl rfl (O_loadC rfl rfl flat5 (HS122.cells_rd (i := 1) rfl) (int_cell g130 g131)) ?_
          refine F_val rfl rfl rfl (O_move rfl rfl) ?_
          refine F_val rfl rfl rfl (O_conv rfl rfl ⟨_, Try.underlying3⟩ Try.underlying75) ?_
          obtain ⟨g132, H⟩ := of_gd H
          refine F_val rfl rfl rfl (O_shr rfl rfl rfl g132) ?_
          refine F_val rfl rfl rfl (O_conv rfl rfl ⟨_, Try.underlying5⟩ Try.underlying87) ?_
          refine F_val rfl rfl rfl (O_move rfl rfl) ?_
          refine F_val rfl rfl rfl (O_conv rfl rfl ⟨_, Try.underlying3⟩ Try.underlying75) ?_
          obtain ⟨g133, H⟩ := of_gd H
          refine F_val rfl rfl rfl (O_shl rfl rfl rfl g133) ?_
          refine F_val rfl rfl rfl (O_sub rfl rfl rfl) ?_
          refine F_val rfl rfl rfl (O_and rfl rfl rfl) ?_
          obtain ⟨x134, h135, H⟩ := of_bnd H
          refine F_val rfl rfl rfl (O_assign' rfl rfl (congrArg (Value.int .u64) h135)) ?_
          refine F_nil ?_
          refine L_seq ?_
          refine L_region ?_
          refine F_val rfl rfl rfl (O_move rfl rfl) ?_
          refine F_val rfl rfl rfl (O_move rfl rfl) ?_
          refine F_val rfl rfl rfl (O_move rfl rfl) ?_
          refine F_val rfl rfl rfl (O_conv rfl rfl ⟨_, Try.underlying3⟩ Try.underlying75) ?_
          obtain ⟨g136, H⟩ := of_gd H
          refine F_val rfl rfl rfl (O_shl rfl rfl rfl g136) ?_
          refine F_val rfl rfl rfl (O_or rfl rfl rfl) ?_
          obtain ⟨x137, h138, H⟩ := of_bnd H
          refine F_val rfl rfl rfl (O_assign' rfl rfl (congrArg (Value.int .u64) h138)) ?_
          refine F_nil ?_
          refine L_seq ?_
          refine L_region ?_
          refine F_val rfl rfl rfl (O_move rfl rfl) ?_
          refine F_val rfl rfl rfl (O_move rfl rfl) ?_
          refine F_val rfl rfl rfl (O_add rfl rfl rfl) ?_
          obtain ⟨x139, h140, H⟩ := of_bnd H
          refine F_val rfl rfl rfl (O_assign' rfl rfl (congrArg (Value.int .i64) h140)) ?_
          refine F_nil ?_
          refine L_region ?_
          refine F_val rfl rfl rfl (O_move rfl rfl) ?_
          refine F_val rfl rfl rfl (O_move rfl rfl) ?_
          refine F_val rfl rfl rfl (O_add rfl rfl rfl) ?_
          obtain ⟨x141, h142, H⟩ := of_bnd H
          refine F_val rfl rfl rfl (O_assign' rfl rfl (congrArg (Value.int .i64) h142)) ?_
          refine F_nil ?_
          refine L_endB hN125 ?_
          refine L_nil (fun a ha => hNp117 _ a _ (Nat.lt_succ_self _) ⟨_, _, _, Is.cons ha (Is.cons ha (Is.cons ha (Is.cons ha (Is.cons ha (Is.nil ha) rfl) rfl) rfl) rfl) rfl, HS122.sel [0, 1] rfl, H⟩)
        · have H := of_neg H c124
          refine L_exitB (fun a w h => hOp117 (.exit 0) a w rfl (hXb73 a w h)) ?_
          refine L_nil (fun a ha => hNj1 a _ ⟨_, (Option.some.inj H).symm, Is.cons ha (Is.nil ha) rfl, HS122.sel [0, 1] rfl⟩)
  · obtain ⟨v_72, ej, ha, HS144⟩ := hR
    obtain rfl := ej.symm
    refine wpLF_app ?_ ha
    refine L_seq ?_
    refine L_region ?_
    refine F_val rfl rfl rfl (O_move rfl rfl) ?_
    refine F_val rfl rfl rfl (O_conv rfl rfl ⟨_, Try.underlying87⟩ Try.underlying22) ?_
    refine F_val rfl rfl rfl (O_assign rfl rfl) ?_
    refine F_nil ?_
    refine L_ret (fun a ha => (post_ret1 ha rfl rfl ?_))
    obtain rfl := Option.some.inj H
    exact ⟨rfl, HS144.sel [] rfl⟩

/-! function 31: (*valise/bits.Reader).Take -/
theorem bits_Reader_Take.calls {S0 : Nat → Prop} {w0 : World} {g_r_0 : Nat} {A_r_0_data : Option Addr} {c_r_0_data : Nat} {r_0_data : List Int} {r_0_at : Int} {n_1 : Int} {r : Int × Int × List Int × Int} (HS0 : Hp S0 w0 w0 [.box g_r_0 [.slice A_r_0_data r_0_data.length c_r_0_data, .int .i64 r_0_at] 102, .own A_r_0_data c_r_0_data (rowC (Eint .u8) r_0_data) 5 (Eint .u8).sz]) (h : bits_Reader_Take.f r_0_data r_0_at n_1 = some r) :
    Calls Try.prog 31 ([.pointer (some ⟨g_r_0, 0, none⟩), .int .i64 n_1] : List Value).toArray w0 (fun e w => ∃ (A_r_0_data' : Option Addr), ∃ (c_r_0_data' : Nat), e = .returned (.tuple #[.int .u32 r.1, .int .i64 r.2.1]) ∧ Hp S0 w0 w [.box g_r_0 [.slice A_r_0_data' r.2.2.1.length c_r_0_data', .int .i64 r.2.2.2] 102, .own A_r_0_data' c_r_0_data' (rowC (Eint .u8) r.2.2.1) 5 (Eint .u8).sz]) := by
  have H : ((if (n_1 < 0) ∨ (32 < n_1) then (some (0, 1, r_0_data, r_0_at)) else ((bits_Reader_Left.f r_0_data r_0_at).bind fun z7 => if z7 < n_1 then (some (0, 30, r_0_data, r_0_at)) else ((bits_Reader_ahead.f r_0_data r_0_at n_1).bind fun z15 => some (z15, 0, r_0_data, IntKind.i64.wrap (r_0_at + n_1))))) : Option (Int × Int × List Int × Int)) = some r := h
  refine calls_start Try.func31 rfl rfl ?_
  refine L_seq ?_
  refine L_region ?_
  refine F_val rfl rfl rfl (O_assign rfl rfl) ?_
  refine F_val rfl rfl rfl (O_assign rfl rfl) ?_
  refine F_nil ?_
  refine L_seq ?_
  refine L_seq ?_
  refine L_region ?_
  refine F_val rfl rfl rfl (O_move rfl rfl) ?_
  refine F_val rfl rfl rfl (O_peq rfl rfl rfl Try.underlying42) ?_
  refine F_val rfl rfl rfl (O_move rfl rfl) ?_
  refine F_gval rfl rfl rfl rfl rfl rfl (O_move rfl rfl) ?_
  refine F_gval rfl rfl rfl rfl rfl rfl (O_lt rfl rfl rfl) ?_
  refine F_val rfl rfl rfl (O_pickF rfl rfl rfl) ?_
  refine F_val rfl rfl rfl (O_move rfl rfl) ?_
  refine F_grp 3 [(16, .bool (decide ((n_1 < 0) ∨ (32 < n_1)))), (0, .pointer (some ⟨g_r_0, 0, none⟩)), (1, .int .i64 n_1)] ?_ ?_
  · rcases Decidable.em (n_1 < 0) with c1 | c1
    · refine F_know (i := 13) rfl (dec_t c1) ?_
      refine F_gskip rfl rfl rfl rfl rfl rfl rfl ?_
      refine F_gskip rfl rfl rfl rfl rfl rfl rfl ?_
      refine F_val rfl rfl rfl (O_pickT rfl rfl rfl) ?_
      refine F_know (i := 16) rfl (dec_or_t (q := 32 < n_1) c1) ?_
      exact F_grpE (fun a ha => Is.cons ha (Is.cons ha (Is.cons ha (Is.nil ha) rfl) rfl) rfl)
    · refine F_know (i := 13) rfl (dec_f c1) ?_
      refine F_gval rfl rfl rfl rfl rfl rfl (O_move rfl rfl) ?_
      refine F_gval rfl rfl rfl rfl rfl rfl (O_gt rfl rfl rfl) ?_
      refine F_val rfl rfl rfl (O_pickF rfl rfl rfl) ?_
      refine F_know (i := 16) rfl (dec_or_f (q := 32 < n_1) c1) ?_
      exact F_grpE (fun a ha => Is.cons ha (Is.cons ha (Is.cons ha (Is.nil ha) rfl) rfl) rfl)
  · skip
    refine F_nil ?_
    refine L_condP rfl (fun c2 => ?_) (fun c2 => ?_)
    · have H := of_pos H c2
      refine L_seq ?_
      refine L_region ?_
      refine F_val rfl rfl rfl (O_assign rfl rfl) ?_
      refine F_val rfl rfl rfl (O_assign rfl rfl) ?_
      refine F_nil ?_
      refine L_ret (fun a ha => (post_ret2 ha rfl rfl rfl ?_))
      obtain rfl := Option.some.inj H
      exact ⟨_, _, rfl, HS0.sel [0, 1] rfl⟩
    · have H := of_neg H c2
      refine L_skip ?_
      refine L_seq ?_
      refine L_seq ?_
      refine L_region ?_
      refine F_val rfl rfl rfl (O_move rfl rfl) ?_
      refine F_val rfl rfl rfl (O_move rfl rfl) ?_
      obtain ⟨z7, h6, H⟩ := of_bind H
      refine F_call (xs := [.tmp 18]) rfl rfl rfl rfl Try.func30 nm30 rfl rfl ((bits_Reader_Left.calls (HS0.give [] rfl (Lent.box HS0 (Lent.own HS0 (Lent.nil) (i := 1) rfl rfl ((HS0.cells_own (i := 1) rfl).self)) (i := 0) rfl rfl (HS0.cells_box (i := 0) rfl).self)) h6).mono (fun e w hc => ?_))
      obtain ⟨rfl, HSo⟩ := hc
      refine ⟨.int .i64 z7, rfl, ?_⟩
      have HS9 : Hp S0 w0 w [.box g_r_0 [.slice A_r_0_data r_0_data.length c_r_0_data, .int .i64 r_0_at] 102, .own A_r_0_data c_r_0_data (rowC (Eint .u8) r_0_data) 5 (Eint .u8).sz] := (HS0.back [] HSo rfl).sel [0, 1] rfl
      refine F_val rfl rfl rfl (O_gt rfl rfl rfl) ?_
      refine F_nil ?_
      refine L_condP rfl (fun c10 => ?_) (fun c10 => ?_)
      · have H := of_pos H c10
        refine L_seq ?_
        refine L_region ?_
        refine F_val rfl rfl rfl (O_assign rfl rfl) ?_
        refine F_val rfl rfl rfl (O_assign rfl rfl) ?_
        refine F_nil ?_
        refine L_ret (fun a ha => (post_ret2 ha rfl rfl rfl ?_))
        obtain rfl := Option.some.inj H
        exact ⟨_, _, rfl, HS9.sel [0, 1] rfl⟩
      · have H := of_neg H c10
        refine L_skip ?_
        refine L_seq ?_
        refine L_region ?_
        refine F_val rfl rfl rfl (O_move rfl rfl) ?_
        refine F_val rfl rfl rfl (O_move rfl rfl) ?_
        obtain ⟨z15, h14, H⟩ := of_bind H
        refine F_call (xs := [.tmp 21, .tmp 22]) rfl rfl rfl rfl Try.func57 nm57 rfl rfl ((bits_Reader_ahead.calls (HS9.give [] rfl (Lent.box HS9 (Lent.own HS9 (Lent.nil) (i := 1) rfl rfl ((HS9.cells_own (i := 1) rfl).self)) (i := 0) rfl rfl (HS9.cells_box (i := 0) rfl).self)) h14).mono (fun e w hc => ?_))
        obtain ⟨rfl, HSo⟩ := hc
        refine ⟨.int .u32 z15, rfl, ?_⟩
        have HS17 : Hp S0 w0 w [.box g_r_0 [.slice A_r_0_data r_0_data.length c_r_0_data, .int .i64 r_0_at] 102, .own A_r_0_data c_r_0_data (rowC (Eint .u8) r_0_data) 5 (Eint .u8).sz] := (HS9.back [] HSo rfl).sel [0, 1] rfl
        refine F_val rfl rfl rfl (O_assign rfl rfl) ?_
        refine F_nil ?_
        refine L_seq ?_
        refine L_region ?_
        refine F_val rfl rfl rfl (O_move rfl rfl) ?_
        refine F_val rfl rfl rfl (O_nilCheck rfl rfl) ?_
        refine F_val rfl rfl rfl (O_fieldB rfl rfl field102_1) ?_
        refine F_val rfl rfl rfl (O_loadB rfl rfl flat3 (HS17.cells_box (i := 0) rfl) rfl) ?_
        refine F_val rfl rfl rfl (O_move rfl rfl) ?_
        refine F_val rfl rfl rfl (O_add rfl rfl rfl) ?_
        refine F_val rfl rfl rfl (O_nilCheck rfl rfl) ?_
        refine F_val rfl rfl rfl (O_fieldB rfl rfl field102_1) ?_
        refine F_stB 0 ([.slice A_r_0_data r_0_data.length c_r_0_data, .int .i64 (IntKind.i64.wrap (r_0_at + n_1))]) rfl rfl rfl rfl rfl size3 HS17 rfl rfl rfl rfl rfl (fun w18 HS19 => ?_)
        have HS19 : Hp S0 w0 w18 [.box g_r_0 [.slice A_r_0_data r_0_data.length c_r_0_data, .int .i64 (IntKind.i64.wrap (r_0_at + n_1))] 102, .own A_r_0_data c_r_0_data (rowC (Eint .u8) r_0_data) 5 (Eint .u8).sz] := HS19
        refine F_nil ?_
        refine L_seq ?_
        refine L_region ?_
        refine F_val rfl rfl rfl (O_move rfl rfl) ?_
        refine F_val rfl rfl rfl (O_assign rfl rfl) ?_
        refine F_val rfl rfl rfl (O_assign rfl rfl) ?_
        refine F_nil ?_
        refine L_ret (fun a ha => (post_ret2 ha rfl rfl rfl ?_))
        obtain rfl := Option.some.inj H
        exact ⟨_, _, rfl, HS19.sel [0, 1] rfl⟩

/-! function 56: (*valise/bits.Writer).lay -/
theorem bits_Writer_lay.calls {S0 : Nat → Prop} {w0 : World} {g_w_0 : Nat} {A_w_0_bytes : Option Addr} {c_w_0_bytes : Nat} {w_0_bytes : List Int} {w_0_count : Int} {v_1 : Int} {n_2 : Int} {r : List Int × Int} (HS0 : Hp S0 w0 w0 [.box g_w_0 [.slice A_w_0_bytes w_0_bytes.length c_w_0_bytes, .int .i64 w_0_count] 99, .own A_w_0_bytes c_w_0_bytes (rowC (Eint .u8) w_0_bytes) 5 (Eint .u8).sz]) (h : bits_Writer_lay.f w_0_bytes w_0_count v_1 n_2 = some r) :
    Calls Try.prog 56 ([.pointer (some ⟨g_w_0, 0, none⟩), .int .u64 v_1, .int .i64 n_2] : List Value).toArray w0 (fun e w => ∃ (A_w_0_bytes' : Option Addr), ∃ (c_w_0_bytes' : Nat), e = .returned (.tuple #[]) ∧ Hp S0 w0 w [.box g_w_0 [.slice A_w_0_bytes' r.1.length c_w_0_bytes', .int .i64 r.2] 99, .own A_w_0_bytes' c_w_0_bytes' (rowC (Eint .u8) r.1) 5 (Eint .u8).sz]) := by
  have H : (((bits_Writer_lay.l1 FU w_0_bytes w_0_count v_1 n_2 ).bind fun (l206, y207) => some (l206, y207)) : Option (List Int × Int)) = some r := h
  refine calls_start Try.func56 rfl rfl ?_
  obtain ⟨yj1, Hyj1, H⟩ := of_bind H
  refine L_join (fun a w => ∃ (l206 : List Int), ∃ (y207 : Int), ∃ (A204 : Option Addr), ∃ (c205 : Nat), yj1 = (l206, y207) ∧ Is Try.f56.ntmps a [] ∧ Hp S0 w0 w [.box g_w_0 [.slice A204 l206.length c205, .int .i64 y207] 99, .own A204 c205 (rowC (Eint .u8) l206) 5 (Eint .u8).sz]) (fun Qj1 hNj1 hOj1 => ?_) (fun a w hR => ?_)
  · skip
    have H := Hyj1
    refine L_blk (fun Qb208 hNb208 hXb208 hOb208 => ?_)
    refine L_lp (fun k a w => ∃ (l342 : List Int), ∃ (y343 : Int), ∃ (v_344 : Int), ∃ (n_345 : Int), ∃ (A340 : Option Addr), ∃ (c341 : Nat), Is Try.f56.ntmps a [(0, .pointer (some ⟨g_w_0, 0, none⟩)), (1, .int .u64 v_344), (2, .int .i64 n_345)] ∧ Hp S0 w0 w [.box g_w_0 [.slice A340 l342.length c341, .int .i64 y343] 99, .own A340 c341 (rowC (Eint .u8) l342) 5 (Eint .u8).sz] ∧ bits_Writer_lay.l1 k l342 y343 v_344 n_345  = some yj1) FU (fun a ha => ⟨_, _, _, _, _, _, Is.cons ha (Is.cons ha (Is.cons ha (Is.nil ha) rfl) rfl) rfl, HS0.sel [0, 1] rfl, H⟩) (fun kp339 a w346 hI Qp339 hNp339 hOp339 => ?_)
    obtain ⟨l342, y343, v_344, n_345, A340, c341, ha, HS347, HAp339⟩ := hI
    cases kp339 with
    | zero => cases (show (none : Option _) = some _ from HAp339)
    | succ kp339 =>
      have H := (bits_Writer_lay.l1.eq_2 ..).symm.trans HAp339
      refine wpLF_app ?_ ha
      refine L_seq ?_
      refine L_seq ?_
      refine L_region ?_
      refine F_val rfl rfl rfl (O_move rfl rfl) ?_
      refine F_val rfl rfl rfl (O_gt rfl rfl rfl) ?_
      refine F_nil ?_
      refine L_condP rfl (fun c348 => ?_) (fun c348 => ?_)
      · have H := of_pos H c348
        refine L_skip ?_
        refine L_blk (fun Q349 hN349 hX349 hO349 => ?_)
        refine L_seq ?_
        refine L_region ?_
        refine F_val rfl rfl rfl (O_move rfl rfl) ?_
        refine F_val rfl rfl rfl (O_nilCheck rfl rfl) ?_
        refine F_val rfl rfl rfl (O_fieldB rfl rfl field99_1) ?_
        refine F_val rfl rfl rfl (O_loadB rfl rfl flat3 (HS347.cells_box (i := 0) rfl) rfl) ?_
        refine F_val rfl rfl rfl (O_rem rfl rfl rfl (by decide)) ?_
        obtain ⟨x350, h351, H⟩ := of_bnd H
        refine F_val rfl rfl rfl (O_assign' rfl rfl (congrArg (Value.int .i64) h351)) ?_
        refine F_nil ?_
        refine L_seq ?_
        refine L_seq ?_
        refine L_region ?_
        refine F_val rfl rfl rfl (O_move rfl rfl) ?_
        refine F_val rfl rfl rfl (O_eq rfl rfl rfl) ?_
        refine F_nil ?_
        obtain ⟨yj352, Hyj352, H⟩ := of_bind H
        refine L_join (fun a w => ∃ (l370 : List Int), ∃ (A368 : Option Addr), ∃ (c369 : Nat), yj352 = l370 ∧ Is Try.f56.ntmps a [(0, .pointer (some ⟨g_w_0, 0, none⟩)), (1, .int .u64 v_344), (2, .int .i64 n_345), (6, .int .i64 x350)] ∧ Hp S0 w0 w [.box g_w_0 [.slice A368 l370.length c369, .int .i64 y343] 99, .own A368 c369 (rowC (Eint .u8) l370) 5 (Eint .u8).sz]) (fun Qj352 hNj352 hOj352 => ?_) (fun a w hR => ?_)
        · skip
          have H := Hyj352
          refine L_condP rfl (fun c371 => ?_) (fun c371 => ?_)
          · have H := of_pos H c371
            refine L_region ?_
            refine F_val rfl rfl rfl (O_move rfl rfl) ?_
            refine F_val rfl rfl rfl (O_move rfl rfl) ?_
            refine F_val rfl rfl rfl (O_nilCheck rfl rfl) ?_
            refine F_val rfl rfl rfl (O_fieldB rfl rfl field99_0) ?_
            refine F_val rfl rfl rfl (O_loadB rfl rfl flat35 (HS347.cells_box (i := 0) rfl) rfl) ?_
            refine F_litE (E := (Eint .u8)) (e := 5) [(0, .int .u8 0)] [0] rfl rfl rfl rfl rfl rfl rfl (by decide) (fun w => by kernel_rfl) HS347 (fun w372 A374 c375 HS373 => ?_)
            have HS373 : Hp S0 w0 w372 [.box g_w_0 [.slice A340 l342.length c341, .int .i64 y343] 99, .own A340 c341 (rowC (Eint .u8) l342) 5 (Eint .u8).sz, .own A374 c375 (rowC (Eint .u8) [0]) 5 (Eint .u8).sz] := HS373
            obtain ⟨l379, h380, H⟩ := of_bnd H
            obtain ⟨g381, H⟩ := of_gd H
            refine F_appE (E := (Eint .u8)) (xs := l342) (ys := [0]) (i := 1) rfl rfl rfl rfl Try.underlying35 info5 rfl (by decide) (by decide) rfl rfl HS373 rfl (HS373.cells_own (i := 2) rfl) h380 g381 (fun w377 A382 c383 HS378 => ?_)
            have HS378 : Hp S0 w0 w377 [.box g_w_0 [.slice A340 l342.length c341, .int .i64 y343] 99, .own A382 c383 (rowC (Eint .u8) l379) 5 (Eint .u8).sz, .own A374 c375 (rowC (Eint .u8) [0]) 5 (Eint .u8).sz] := HS378
            refine F_val rfl rfl rfl (O_nilCheck rfl rfl) ?_
            refine F_val rfl rfl rfl (O_fieldB rfl rfl field99_0) ?_
            refine F_stB 0 ([.slice A382 l379.length c383, .int .i64 y343]) rfl rfl rfl rfl rfl size35 HS378 rfl rfl rfl rfl rfl (fun w384 HS385 => ?_)
            have HS385 : Hp S0 w0 w384 [.box g_w_0 [.slice A382 l379.length c383, .int .i64 y343] 99, .own A382 c383 (rowC (Eint .u8) l379) 5 (Eint .u8).sz, .own A374 c375 (rowC (Eint .u8) [0]) 5 (Eint .u8).sz] := HS385
            refine F_nil ?_
            refine L_nil (fun a ha => hNj352 a _ ⟨_, _, _, (Option.some.inj H).symm, Is.cons ha (Is.cons ha (Is.cons ha (Is.cons ha (Is.nil ha) rfl) rfl) rfl) rfl, HS385.sel [0, 1] rfl⟩)
          · have H := of_neg H c371
            refine L_skip ?_
            refine L_nil (fun a ha => hNj352 a _ ⟨_, _, _, (Option.some.inj H).symm, Is.cons ha (Is.cons ha (Is.cons ha (Is.cons ha (Is.nil ha) rfl) rfl) rfl) rfl, HS347.sel [0, 1] rfl⟩)
        · obtain ⟨l370, A368, c369, ej, ha, HS387⟩ := hR
          obtain rfl := ej.symm
          refine wpLF_app ?_ ha
          refine L_seq ?_
          refine L_region ?_
          refine F_val rfl rfl rfl (O_move rfl rfl) ?_
          refine F_val rfl rfl rfl (O_sub rfl rfl rfl) ?_
          refine F_val rfl rfl rfl (O_move rfl rfl) ?_
          refine F_val rfl rfl rfl (O_min rfl rfl rfl) ?_
          obtain ⟨x388, h389, H⟩ := of_bnd H
          refine F_val rfl rfl rfl (O_assign' rfl rfl (congrArg (Value.int .i64) h389)) ?_
          refine F_nil ?_
          refine L_seq ?_
          refine L_region ?_
          refine F_val rfl rfl rfl (O_move rfl rfl) ?_
          refine F_val rfl rfl rfl (O_move rfl rfl) ?_
          refine F_val rfl rfl rfl (O_conv rfl rfl ⟨_, Try.underlying3⟩ Try.underlying75) ?_
          obtain ⟨g390, H⟩ := of_gd H
          refine F_val rfl rfl rfl (O_shl rfl rfl rfl g390) ?_
          refine F_val rfl rfl rfl (O_sub rfl rfl rfl) ?_
          refine F_val rfl rfl rfl (O_and rfl rfl rfl) ?_
          obtain ⟨x391, h392, H⟩ := of_bnd H
          refine F_val rfl rfl rfl (O_assign' rfl rfl (congrArg (Value.int .u64) h392)) ?_
          refine F_nil ?_
          refine L_seq ?_
          refine L_tail 19 mix (by kernel_rfl) (fun w393 hw394 => ?_)
          have HS395 := HS387.keep hw394
          refine S_val rfl rfl rfl (O_move rfl rfl) ?_
          refine S_val rfl rfl rfl (O_nilCheck rfl rfl) ?_
          refine S_val rfl rfl rfl (O_fieldB rfl rfl field99_0) ?_
          refine S_val rfl rfl rfl (O_loadB rfl rfl flat35 (HS395.cells_box (i := 0) rfl) rfl) ?_
          refine S_val rfl rfl rfl (O_move rfl rfl) ?_
          refine S_val rfl rfl rfl (O_nilCheck rfl rfl) ?_
          refine S_val rfl rfl rfl (O_fieldB rfl rfl field99_0) ?_
          refine S_val rfl rfl rfl (O_loadB rfl rfl flat35 (HS395.cells_box (i := 0) rfl) rfl) ?_
          refine S_val rfl rfl rfl (O_len rfl rfl Try.underlying35) ?_
          refine S_val rfl rfl rfl (O_sub rfl rfl rfl) ?_
          obtain ⟨⟨g396, g397⟩, H⟩ := of_gd H
          refine S_val rfl rfl rfl (O_idx rfl rfl rfl Try.underlying35 size5 g396 g397 (Cells.isA (HS395.cells_own (i := 1) rfl) (rowC_ne (E := (Eint .u8)) g396 g397 (by decide)))) ?_
          refine S_val rfl rfl rfl (O_loadC rfl rfl flat5 (HS395.cells_own (i := 1) rfl) (int_cell g396 g397)) ?_
          refine S_val rfl rfl rfl (O_move rfl rfl) ?_
          refine S_val rfl rfl rfl (O_move rfl rfl) ?_
          refine S_val rfl rfl rfl (O_conv rfl rfl ⟨_, Try.underlying3⟩ Try.underlying75) ?_
          obtain ⟨g398, H⟩ := of_gd H
          refine S_val rfl rfl rfl (O_shl rfl rfl rfl g398) ?_
          refine S_val rfl rfl rfl (O_conv rfl rfl ⟨_, Try.underlying87⟩ Try.underlying5) ?_
          refine S_val rfl rfl rfl (O_or rfl rfl rfl) ?_
          refine S_val rfl rfl rfl (O_idx rfl rfl rfl Try.underlying35 size5 g396 g397 (Cells.isA (HS395.cells_own (i := 1) rfl) (rowC_ne (E := (Eint .u8)) g396 g397 (by decide)))) ?_
          refine S_nil ?_
          obtain ⟨l401, h402, H⟩ := of_bnd H
          refine F_setE (E := (Eint .u8)) (i := 1) (a := bor .u8 (rd l370 (IntKind.i64.wrap ((l370.length : Int) - 1))) (IntKind.u8.wrap (shl .u64 x391 (IntKind.u64.wrap x350)))) (q := IntKind.i64.wrap ((l370.length : Int) - 1)) rfl rfl rfl rfl rfl rfl size5 HS395 rfl (by decide) g396 g397 h402 (fun w399 HS400 => ?_)
          have e403 : l370.length = l401.length := by rw [← h402, List.length_set]
          have HS400 : Hp S0 w0 w399 [.box g_w_0 [.slice A368 l401.length c369, .int .i64 y343] 99, .own A368 c369 (rowC (Eint .u8) l401) 5 (Eint .u8).sz] := (by rw [← e403]; exact HS400)
          refine F_nil ?_
          refine L_seq ?_
          refine L_region ?_
          refine F_val rfl rfl rfl (O_move rfl rfl) ?_
          refine F_val rfl rfl rfl (O_move rfl rfl) ?_
          refine F_val rfl rfl rfl (O_conv rfl rfl ⟨_, Try.underlying3⟩ Try.underlying75) ?_
          refine F_val rfl rfl rfl (O_shr rfl rfl rfl g390) ?_
          obtain ⟨x404, h405, H⟩ := of_bnd H
          refine F_val rfl rfl rfl (O_assign' rfl rfl (congrArg (Value.int .u64) h405)) ?_
          refine F_nil ?_
          refine L_seq ?_
          refine L_region ?_
          refine F_val rfl rfl rfl (O_move rfl rfl) ?_
          refine F_val rfl rfl rfl (O_move rfl rfl) ?_
          refine F_val rfl rfl rfl (O_sub rfl rfl rfl) ?_
          obtain ⟨x406, h407, H⟩ := of_bnd H
          refine F_val rfl rfl rfl (O_assign' rfl rfl (congrArg (Value.int .i64) h407)) ?_
          refine F_nil ?_
          refine L_region ?_
          refine F_val rfl rfl rfl (O_move rfl rfl) ?_
          refine F_val rfl rfl rfl (O_nilCheck rfl rfl) ?_
          refine F_val rfl rfl rfl (O_fieldB rfl rfl field99_1) ?_
          refine F_val rfl rfl rfl (O_loadB rfl rfl flat3 (HS400.cells_box (i := 0) rfl) rfl) ?_
          refine F_val rfl rfl rfl (O_move rfl rfl) ?_
          refine F_val rfl rfl rfl (O_add rfl rfl rfl) ?_
          refine F_val rfl rfl rfl (O_nilCheck rfl rfl) ?_
          refine F_val rfl rfl rfl (O_fieldB rfl rfl field99_1) ?_
          refine F_stB 0 ([.slice A368 l401.length c369, .int .i64 (IntKind.i64.wrap (y343 + x388))]) rfl rfl rfl rfl rfl size3 HS400 rfl rfl rfl rfl rfl (fun w408 HS409 => ?_)
          have HS409 : Hp S0 w0 w408 [.box g_w_0 [.slice A368 l401.length c369, .int .i64 (IntKind.i64.wrap (y343 + x388))] 99, .own A368 c369 (rowC (Eint .u8) l401) 5 (Eint .u8).sz] := HS409
          refine F_nil ?_
          refine L_endB hN349 ?_
          refine L_nil (fun a ha => hNp339 _ a _ (Nat.lt_succ_self _) ⟨_, _, _, _, _, _, Is.cons ha (Is.cons ha (Is.cons ha (Is.nil ha) rfl) rfl) rfl, HS409.sel [0, 1] rfl, H⟩)
      · have H := of_neg H c348
        refine L_exitB (fun a w h => hOp339 (.exit 0) a w rfl (hXb208 a w h)) ?_
        refine L_nil (fun a ha => hNj1 a _ ⟨_, _, _, _, (Option.some.inj H).symm, Is.nil ha, HS347.sel [0, 1] rfl⟩)
  · obtain ⟨l206, y207, A204, c205, rfl, ha, HS411⟩ := hR
    refine wpLF_app ?_ ha
    refine L_nil (fun a ha => (post_end0 ha rfl ?_))
    obtain rfl := Option.some.inj H
    exact ⟨_, _, rfl, HS411.sel [0, 1] rfl⟩

/-! function 19: (*valise/bits.Writer).Put -/
theorem bits_Writer_Put.calls {S0 : Nat → Prop} {w0 : World} {g_w_0 : Nat} {A_w_0_bytes : Option Addr} {c_w_0_bytes : Nat} {w_0_bytes : List Int} {w_0_count : Int} {v_1 : Int} {n_2 : Int} {r : Int × List Int × Int} (HS0 : Hp S0 w0 w0 [.box g_w_0 [.slice A_w_0_bytes w_0_bytes.length c_w_0_bytes, .int .i64 w_0_count] 99, .own A_w_0_bytes c_w_0_bytes (rowC (Eint .u8) w_0_bytes) 5 (Eint .u8).sz]) (h : bits_Writer_Put.f w_0_bytes w_0_count v_1 n_2 = some r) :
    Calls Try.prog 19 ([.pointer (some ⟨g_w_0, 0, none⟩), .int .u32 v_1, .int .i64 n_2] : List Value).toArray w0 (fun e w => ∃ (A_w_0_bytes' : Option Addr), ∃ (c_w_0_bytes' : Nat), e = .returned (.int .i64 r.1) ∧ Hp S0 w0 w [.box g_w_0 [.slice A_w_0_bytes' r.2.1.length c_w_0_bytes', .int .i64 r.2.2] 99, .own A_w_0_bytes' c_w_0_bytes' (rowC (Eint .u8) r.2.1) 5 (Eint .u8).sz]) := by
  have H : (((if (n_2 < 0) ∨ (32 < n_2) then (some true) else (gd (¬ (IntKind.u64.wrap n_2) < 0) (some (decide (shr .u64 (IntKind.u64.wrap v_1) (IntKind.u64.wrap n_2) ≠ 0))))).bind fun b3 => if (b3 = true) ∨ (268435456 < IntKind.i64.wrap (w_0_count + n_2)) then (some (1, w_0_bytes, w_0_count)) else ((bits_Writer_lay.f w_0_bytes w_0_count (IntKind.u64.wrap v_1) n_2).bind fun (z12, z13) => some (0, z12, z13))) : Option (Int × List Int × Int)) = some r := h
  refine calls_start Try.func19 rfl rfl ?_
  refine L_seq ?_
  refine L_region ?_
  refine F_val rfl rfl rfl (O_assign rfl rfl) ?_
  refine F_nil ?_
  refine L_seq ?_
  refine L_seq ?_
  refine L_region ?_
  refine F_val rfl rfl rfl (O_move rfl rfl) ?_
  refine F_val rfl rfl rfl (O_peq rfl rfl rfl Try.underlying31) ?_
  refine F_val rfl rfl rfl (O_move rfl rfl) ?_
  refine F_gval rfl rfl rfl rfl rfl rfl (O_move rfl rfl) ?_
  refine F_gval rfl rfl rfl rfl rfl rfl (O_lt rfl rfl rfl) ?_
  refine F_val rfl rfl rfl (O_pickF rfl rfl rfl) ?_
  refine F_val rfl rfl rfl (O_move rfl rfl) ?_
  refine F_grp 3 [(16, .bool (decide ((n_2 < 0) ∨ (32 < n_2)))), (0, .pointer (some ⟨g_w_0, 0, none⟩)), (1, .int .u32 v_1), (2, .int .i64 n_2)] ?_ ?_
  · rcases Decidable.em (n_2 < 0) with c1 | c1
    · refine F_know (i := 13) rfl (dec_t c1) ?_
      refine F_gskip rfl rfl rfl rfl rfl rfl rfl ?_
      refine F_gskip rfl rfl rfl rfl rfl rfl rfl ?_
      refine F_val rfl rfl rfl (O_pickT rfl rfl rfl) ?_
      refine F_know (i := 16) rfl (dec_or_t (q := 32 < n_2) c1) ?_
      exact F_grpE (fun a ha => Is.cons ha (Is.cons ha (Is.cons ha (Is.cons ha (Is.nil ha) rfl) rfl) rfl) rfl)
    · refine F_know (i := 13) rfl (dec_f c1) ?_
      refine F_gval rfl rfl rfl rfl rfl rfl (O_move rfl rfl) ?_
      refine F_gval rfl rfl rfl rfl rfl rfl (O_gt rfl rfl rfl) ?_
      refine F_val rfl rfl rfl (O_pickF rfl rfl rfl) ?_
      refine F_know (i := 16) rfl (dec_or_f (q := 32 < n_2) c1) ?_
      exact F_grpE (fun a ha => Is.cons ha (Is.cons ha (Is.cons ha (Is.cons ha (Is.nil ha) rfl) rfl) rfl) rfl)
  · skip
    refine F_val rfl rfl rfl (O_move rfl rfl) ?_
    obtain ⟨b3, Hb3, H⟩ := of_bind H
    refine F_grp 7 [(24, .bool b3), (0, .pointer (some ⟨g_w_0, 0, none⟩)), (1, .int .u32 v_1), (2, .int .i64 n_2)] ?_ ?_
    · rcases Decidable.em ((n_2 < 0) ∨ (32 < n_2)) with c4 | c4
      · refine F_know (i := 17) rfl (dec_t c4) ?_
        have H := of_pos Hb3 c4
        refine F_gskip rfl rfl rfl rfl rfl rfl rfl ?_
        refine F_gskip rfl rfl rfl rfl rfl rfl rfl ?_
        refine F_gskip rfl rfl rfl rfl rfl rfl rfl ?_
        refine F_gskip rfl rfl rfl rfl rfl rfl rfl ?_
        refine F_gskip rfl rfl rfl rfl rfl rfl rfl ?_
        refine F_gskip rfl rfl rfl rfl rfl rfl rfl ?_
        refine F_val rfl rfl rfl (O_pickT rfl rfl rfl) ?_
        refine F_know (i := 24) rfl (congrArg Value.bool (Option.some.inj H)) ?_
        exact F_grpE (fun a ha => Is.cons ha (Is.cons ha (Is.cons ha (Is.cons ha (Is.nil ha) rfl) rfl) rfl) rfl)
      · refine F_know (i := 17) rfl (dec_f c4) ?_
        have H := of_neg Hb3 c4
        refine F_gval rfl rfl rfl rfl rfl rfl (O_move rfl rfl) ?_
        refine F_gval rfl rfl rfl rfl rfl rfl (O_conv rfl rfl ⟨_, Try.underlying22⟩ Try.underlying87) ?_
        refine F_gval rfl rfl rfl rfl rfl rfl (O_move rfl rfl) ?_
        refine F_gval rfl rfl rfl rfl rfl rfl (O_conv rfl rfl ⟨_, Try.underlying3⟩ Try.underlying75) ?_
        obtain ⟨g5, H⟩ := of_gd H
        refine F_gval rfl rfl rfl rfl rfl rfl (O_shr rfl rfl rfl g5) ?_
        refine F_gval rfl rfl rfl rfl rfl rfl (O_ne rfl rfl rfl) ?_
        refine F_val rfl rfl rfl (O_pickF rfl rfl rfl) ?_
        refine F_know (i := 24) rfl (congrArg Value.bool (Option.some.inj H)) ?_
        exact F_grpE (fun a ha => Is.cons ha (Is.cons ha (Is.cons ha (Is.cons ha (Is.nil ha) rfl) rfl) rfl) rfl)
    · skip
      refine F_val rfl rfl rfl (O_move rfl rfl) ?_
      refine F_grp 8 [(33, .bool (decide ((b3 = true) ∨ (268435456 < IntKind.i64.wrap (w_0_count + n_2))))), (0, .pointer (some ⟨g_w_0, 0, none⟩)), (1, .int .u32 v_1), (2, .int .i64 n_2)] ?_ ?_
      · rcases Decidable.em (b3 = true) with c6 | c6
        · refine F_know (i := 25) rfl (congrArg Value.bool c6) ?_
          refine F_gskip rfl rfl rfl rfl rfl rfl rfl ?_
          refine F_gskip rfl rfl rfl rfl rfl rfl rfl ?_
          refine F_gskip rfl rfl rfl rfl rfl rfl rfl ?_
          refine F_gskip rfl rfl rfl rfl rfl rfl rfl ?_
          refine F_gskip rfl rfl rfl rfl rfl rfl rfl ?_
          refine F_gskip rfl rfl rfl rfl rfl rfl rfl ?_
          refine F_gskip rfl rfl rfl rfl rfl rfl rfl ?_
          refine F_val rfl rfl rfl (O_pickT rfl rfl rfl) ?_
          refine F_know (i := 33) rfl (dec_or_t (q := 268435456 < IntKind.i64.wrap (w_0_count + n_2)) c6) ?_
          exact F_grpE (fun a ha => Is.cons ha (Is.cons ha (Is.cons ha (Is.cons ha (Is.nil ha) rfl) rfl) rfl) rfl)
        · refine F_know (i := 25) rfl (congrArg Value.bool (Bool.eq_false_iff.mpr c6)) ?_
          refine F_gval rfl rfl rfl rfl rfl rfl (O_move rfl rfl) ?_
          refine F_gval rfl rfl rfl rfl rfl rfl (O_nilCheck rfl rfl) ?_
          refine F_gval rfl rfl rfl rfl rfl rfl (O_fieldB rfl rfl field99_1) ?_
          refine F_gval rfl rfl rfl rfl rfl rfl (O_loadB rfl rfl flat3 (HS0.cells_box (i := 0) rfl) rfl) ?_
          refine F_gval rfl rfl rfl rfl rfl rfl (O_move rfl rfl) ?_
          refine F_gval rfl rfl rfl rfl rfl rfl (O_add rfl rfl rfl) ?_
          refine F_gval rfl rfl rfl rfl rfl rfl (O_gt rfl rfl rfl) ?_
          refine F_val rfl rfl rfl (O_pickF rfl rfl rfl) ?_
          refine F_know (i := 33) rfl (dec_or_f (q := 268435456 < IntKind.i64.wrap (w_0_count + n_2)) c6) ?_
          exact F_grpE (fun a ha => Is.cons ha (Is.cons ha (Is.cons ha (Is.cons ha (Is.nil ha) rfl) rfl) rfl) rfl)
      · skip
        refine F_nil ?_
        refine L_condP rfl (fun c7 => ?_) (fun c7 => ?_)
        · have H := of_pos H c7
          refine L_seq ?_
          refine L_region ?_
          refine F_val rfl rfl rfl (O_assign rfl rfl) ?_
          refine F_nil ?_
          refine L_ret (fun a ha => (post_ret1 ha rfl rfl ?_))
          obtain rfl := Option.some.inj H
          exact ⟨_, _, rfl, HS0.sel [0, 1] rfl⟩
        · have H := of_neg H c7
          refine L_skip ?_
          refine L_seq ?_
          refine L_region ?_
          refine F_val rfl rfl rfl (O_move rfl rfl) ?_
          refine F_val rfl rfl rfl (O_move rfl rfl) ?_
          refine F_val rfl rfl rfl (O_conv rfl rfl ⟨_, Try.underlying22⟩ Try.underlying87) ?_
          refine F_val rfl rfl rfl (O_move rfl rfl) ?_
          obtain ⟨⟨z12, z13⟩, h11, H⟩ := of_bind H
          refine F_call (xs := [.tmp 34, .tmp 36, .tmp 37]) rfl rfl rfl rfl Try.func56 nm56 rfl rfl ((bits_Writer_lay.calls (HS0.give [0, 1] rfl (Lent.nil)) h11).mono (fun e w hc => ?_))
          obtain ⟨A16, c17, rfl, HSo⟩ := hc
          refine ⟨.tuple #[], rfl, ?_⟩
          have HS15 : Hp S0 w0 w [.box g_w_0 [.slice A16 z12.length c17, .int .i64 z13] 99, .own A16 c17 (rowC (Eint .u8) z12) 5 (Eint .u8).sz] := (HS0.back [0, 1] HSo rfl).sel [2, 3] rfl
          refine F_nil ?_
          refine L_seq ?_
          refine L_region ?_
          refine F_val rfl rfl rfl (O_assign rfl rfl) ?_
          refine F_nil ?_
          refine L_ret (fun a ha => (post_ret1 ha rfl rfl ?_))
          obtain rfl := Option.some.inj H
          exact ⟨_, _, rfl, HS15.sel [0, 1] rfl⟩

/-! function 37: (*valise/bits.Writer).Raw -/
theorem bits_Writer_Raw.calls {S0 : Nat → Prop} {w0 : World} {g_w_0 : Nat} {A_w_0_bytes : Option Addr} {c_w_0_bytes : Nat} {A_data_1 : Option Addr} {c_data_1 : Nat} {w_0_bytes : List Int} {w_0_count : Int} {l_data_1 : List Int} {r : Int × List Int × Int} (HS0 : Hp S0 w0 w0 [.box g_w_0 [.slice A_w_0_bytes w_0_bytes.length c_w_0_bytes, .int .i64 w_0_count] 99, .own A_w_0_bytes c_w_0_bytes (rowC (Eint .u8) w_0_bytes) 5 (Eint .u8).sz, .rd A_data_1 (rowC (Eint .u8) l_data_1)]) (hc_data_1 : l_data_1.length ≤ c_data_1) (h : bits_Writer_Raw.f w_0_bytes w_0_count l_data_1 = some r) :
    Calls Try.prog 37 ([.pointer (some ⟨g_w_0, 0, none⟩), .slice A_data_1 l_data_1.length c_data_1] : List Value).toArray w0 (fun e w => ∃ (A_w_0_bytes' : Option Addr), ∃ (c_w_0_bytes' : Nat), e = .returned (.int .i64 r.1) ∧ Hp S0 w0 w [.box g_w_0 [.slice A_w_0_bytes' r.2.1.length c_w_0_bytes', .int .i64 r.2.2] 99, .own A_w_0_bytes' c_w_0_bytes' (rowC (Eint .u8) r.2.1) 5 (Eint .u8).sz]) := by
  have H : ((if (33554432 < (l_data_1.length : Int)) ∨ (268435456 < IntKind.i64.wrap (w_0_count + (IntKind.i64.wrap (8 * (l_data_1.length : Int))))) then (some (1, w_0_bytes, w_0_count)) else (if Int.tmod w_0_count 8 ≠ 0 then (some (31, w_0_bytes, w_0_count)) else (bnd (w_0_bytes ++ l_data_1) fun l6 => gd ((l6.length : Int) * 1 ≤ 140737488355328) (some (0, l6, IntKind.i64.wrap (w_0_count + (IntKind.i64.wrap (8 * (l_data_1.length : Int))))))))) : Option (Int × List Int × Int)) = some r := h
  refine calls_start Try.func37 rfl rfl ?_
  refine L_seq ?_
  refine L_region ?_
  refine F_val rfl rfl rfl (O_assign rfl rfl) ?_
  refine F_nil ?_
  refine L_seq ?_
  refine L_seq ?_
  refine L_region ?_
  refine F_val rfl rfl rfl (O_move rfl rfl) ?_
  refine F_val rfl rfl rfl (O_peq rfl rfl rfl Try.underlying31) ?_
  refine F_val rfl rfl rfl (O_move rfl rfl) ?_
  refine F_gval rfl rfl rfl rfl rfl rfl (O_move rfl rfl) ?_
  refine F_gval rfl rfl rfl rfl rfl rfl (O_len rfl rfl Try.underlying35) ?_
  refine F_gval rfl rfl rfl rfl rfl rfl (O_gt rfl rfl rfl) ?_
  refine F_val rfl rfl rfl (O_pickF rfl rfl rfl) ?_
  refine F_val rfl rfl rfl (O_move rfl rfl) ?_
  refine F_grp 10 [(22, .bool (decide ((33554432 < (l_data_1.length : Int)) ∨ (268435456 < IntKind.i64.wrap (w_0_count + (IntKind.i64.wrap (8 * (l_data_1.length : Int)))))))), (0, .pointer (some ⟨g_w_0, 0, none⟩)), (1, .slice A_data_1 l_data_1.length c_data_1)] ?_ ?_
  · rcases Decidable.em (33554432 < (l_data_1.length : Int)) with c1 | c1
    · refine F_know (i := 12) rfl (dec_t c1) ?_
      refine F_gskip rfl rfl rfl rfl rfl rfl rfl ?_
      refine F_gskip rfl rfl rfl rfl rfl rfl rfl ?_
      refine F_gskip rfl rfl rfl rfl rfl rfl rfl ?_
      refine F_gskip rfl rfl rfl rfl rfl rfl rfl ?_
      refine F_gskip rfl rfl rfl rfl rfl rfl rfl ?_
      refine F_gskip rfl rfl rfl rfl rfl rfl rfl ?_
      refine F_gskip rfl rfl rfl rfl rfl rfl rfl ?_
      refine F_gskip rfl rfl rfl rfl rfl rfl rfl ?_
      refine F_gskip rfl rfl rfl rfl rfl rfl rfl ?_
      refine F_val rfl rfl rfl (O_pickT rfl rfl rfl) ?_
      refine F_know (i := 22) rfl (dec_or_t (q := 268435456 < IntKind.i64.wrap (w_0_count + (IntKind.i64.wrap (8 * (l_data_1.length : Int))))) c1) ?_
      exact F_grpE (fun a ha => Is.cons ha (Is.cons ha (Is.cons ha (Is.nil ha) rfl) rfl) rfl)
    · refine F_know (i := 12) rfl (dec_f c1) ?_
      refine F_gval rfl rfl rfl rfl rfl rfl (O_move rfl rfl) ?_
      refine F_gval rfl rfl rfl rfl rfl rfl (O_nilCheck rfl rfl) ?_
      refine F_gval rfl rfl rfl rfl rfl rfl (O_fieldB rfl rfl field99_1) ?_
      refine F_gval rfl rfl rfl rfl rfl rfl (O_loadB rfl rfl flat3 (HS0.cells_box (i := 0) rfl) rfl) ?_
      refine F_gval rfl rfl rfl rfl rfl rfl (O_move rfl rfl) ?_
      refine F_gval rfl rfl rfl rfl rfl rfl (O_len rfl rfl Try.underlying35) ?_
      refine F_gval rfl rfl rfl rfl rfl rfl (O_mul rfl rfl rfl) ?_
      refine F_gval rfl rfl rfl rfl rfl rfl (O_add rfl rfl rfl) ?_
      refine F_gval rfl rfl rfl rfl rfl rfl (O_gt rfl rfl rfl) ?_
      refine F_val rfl rfl rfl (O_pickF rfl rfl rfl) ?_
      refine F_know (i := 22) rfl (dec_or_f (q := 268435456 < IntKind.i64.wrap (w_0_count + (IntKind.i64.wrap (8 * (l_data_1.length : Int))))) c1) ?_
      exact F_grpE (fun a ha => Is.cons ha (Is.cons ha (Is.cons ha (Is.nil ha) rfl) rfl) rfl)
  · skip
    refine F_nil ?_
    refine L_condP rfl (fun c2 => ?_) (fun c2 => ?_)
    · have H := of_pos H c2
      refine L_seq ?_
      refine L_region ?_
      refine F_val rfl rfl rfl (O_assign rfl rfl) ?_
      refine F_nil ?_
      refine L_ret (fun a ha => (post_ret1 ha rfl rfl ?_))
      obtain rfl := Option.some.inj H
      exact ⟨_, _, rfl, HS0.sel [0, 1] rfl⟩
    · have H := of_neg H c2
      refine L_skip ?_
      refine L_seq ?_
      refine L_seq ?_
      refine L_region ?_
      refine F_val rfl rfl rfl (O_move rfl rfl) ?_
      refine F_val rfl rfl rfl (O_nilCheck rfl rfl) ?_
      refine F_val rfl rfl rfl (O_fieldB rfl rfl field99_1) ?_
      refine F_val rfl rfl rfl (O_loadB rfl rfl flat3 (HS0.cells_box (i := 0) rfl) rfl) ?_
      refine F_val rfl rfl rfl (O_rem rfl rfl rfl (by decide)) ?_
      refine F_val rfl rfl rfl (O_ne rfl rfl rfl) ?_
      refine F_nil ?_
      refine L_condP rfl (fun c3 => ?_) (fun c3 => ?_)
      · have H := of_pos H c3
        refine L_seq ?_
        refine L_region ?_
        refine F_val rfl rfl rfl (O_assign rfl rfl) ?_
        refine F_nil ?_
        refine L_ret (fun a ha => (post_ret1 ha rfl rfl ?_))
        obtain rfl := Option.some.inj H
        exact ⟨_, _, rfl, HS0.sel [0, 1] rfl⟩
      · have H := of_neg H c3
        refine L_skip ?_
        refine L_seq ?_
        refine L_region ?_
        refine F_val rfl rfl rfl (O_move rfl rfl) ?_
        refine F_val rfl rfl rfl (O_move rfl rfl) ?_
        refine F_val rfl rfl rfl (O_nilCheck rfl rfl) ?_
        refine F_val rfl rfl rfl (O_fieldB rfl rfl field99_0) ?_
        refine F_val rfl rfl rfl (O_loadB rfl rfl flat35 (HS0.cells_box (i := 0) rfl) rfl) ?_
        refine F_val rfl rfl rfl (O_move rfl rfl) ?_
        obtain ⟨l6, h7, H⟩ := of_bnd H
        obtain ⟨g8, H⟩ := of_gd H
        refine F_appE (E := (Eint .u8)) (xs := w_0_bytes) (ys := l_data_1) (i := 1) rfl rfl rfl rfl Try.underlying35 info5 rfl (by decide) (by decide) rfl rfl HS0 rfl (HS0.cells_rd (i := 2) rfl) h7 g8 (fun w4 A9 c10 HS5 => ?_)
        have HS5 : Hp S0 w0 w4 [.box g_w_0 [.slice A_w_0_bytes w_0_bytes.length c_w_0_bytes, .int .i64 w_0_count] 99, .own A9 c10 (rowC (Eint .u8) l6) 5 (Eint .u8).sz, .rd A_data_1 (rowC (Eint .u8) l_data_1)] := HS5
        refine F_val rfl rfl rfl (O_nilCheck rfl rfl) ?_
        refine F_val rfl rfl rfl (O_fieldB rfl rfl field99_0) ?_
        refine F_stB 0 ([.slice A9 l6.length c10, .int .i64 w_0_count]) rfl rfl rfl rfl rfl size35 HS5 rfl rfl rfl rfl rfl (fun w11 HS12 => ?_)
        have HS12 : Hp S0 w0 w11 [.box g_w_0 [.slice A9 l6.length c10, .int .i64 w_0_count] 99, .own A9 c10 (rowC (Eint .u8) l6) 5 (Eint .u8).sz, .rd A_data_1 (rowC (Eint .u8) l_data_1)] := HS12
        refine F_nil ?_
        refine L_seq ?_
        refine L_region ?_
        refine F_val rfl rfl rfl (O_move rfl rfl) ?_
        refine F_val rfl rfl rfl (O_nilCheck rfl rfl) ?_
        refine F_val rfl rfl rfl (O_fieldB rfl rfl field99_1) ?_
        refine F_val rfl rfl rfl (O_loadB rfl rfl flat3 (HS12.cells_box (i := 0) rfl) rfl) ?_
        refine F_val rfl rfl rfl (O_move rfl rfl) ?_
        refine F_val rfl rfl rfl (O_len rfl rfl Try.underlying35) ?_
        refine F_val rfl rfl rfl (O_mul rfl rfl rfl) ?_
        refine F_val rfl rfl rfl (O_add rfl rfl rfl) ?_
        refine F_val rfl rfl rfl (O_nilCheck rfl rfl) ?_
        refine F_val rfl rfl rfl (O_fieldB rfl rfl field99_1) ?_
        refine F_stB 0 ([.slice A9 l6.length c10, .int .i64 (IntKind.i64.wrap (w_0_count + (IntKind.i64.wrap (8 * (l_data_1.length : Int)))))]) rfl rfl rfl rfl rfl size3 HS12 rfl rfl rfl rfl rfl (fun w13 HS14 => ?_)
        have HS14 : Hp S0 w0 w13 [.box g_w_0 [.slice A9 l6.length c10, .int .i64 (IntKind.i64.wrap (w_0_count + (IntKind.i64.wrap (8 * (l_data_1.length : Int)))))] 99, .own A9 c10 (rowC (Eint .u8) l6) 5 (Eint .u8).sz, .rd A_data_1 (rowC (Eint .u8) l_data_1)] := HS14
        refine F_nil ?_
        refine L_seq ?_
        refine L_region ?_
        refine F_val rfl rfl rfl (O_assign rfl rfl) ?_
        refine F_nil ?_
        refine L_ret (fun a ha => (post_ret1 ha rfl rfl ?_))
        obtain rfl := Option.some.inj H
        exact ⟨_, _, rfl, HS14.sel [0, 1] rfl⟩

/-! function 23: (*valise/bits.Writer).Len -/
theorem bits_Writer_Len.calls {S0 : Nat → Prop} {w0 : World} {g_w_0 : Nat} {A_w_0_bytes : Option Addr} {c_w_0_bytes : Nat} {w_0_bytes : List Int} {w_0_count : Int} {r : Int} (HS0 : Hp S0 w0 w0 [.rd (some ⟨g_w_0, 0, none⟩) [.slice A_w_0_bytes w_0_bytes.length c_w_0_bytes, .int .i64 w_0_count], .rd A_w_0_bytes (rowC (Eint .u8) w_0_bytes)]) (h : bits_Writer_Len.f w_0_bytes w_0_count = some r) :
    Calls Try.prog 23 ([.pointer (some ⟨g_w_0, 0, none⟩)] : List Value).toArray w0 (fun e w => e = .returned (.int .i64 r) ∧ Hp S0 w0 w []) := by
  have H : ((some w_0_count) : Option (Int)) = some r := h
  refine calls_start Try.func23 rfl rfl ?_
  refine L_seq ?_
  refine L_region ?_
  refine F_val rfl rfl rfl (O_assign rfl rfl) ?_
  refine F_nil ?_
  refine L_seq ?_
  refine L_seq ?_
  refine L_region ?_
  refine F_val rfl rfl rfl (O_move rfl rfl) ?_
  refine F_val rfl rfl rfl (O_peq rfl rfl rfl Try.underlying31) ?_
  refine F_nil ?_
  refine L_cond rfl (fun hx => by cases hx) (fun _ => ?_)
  refine L_skip ?_
  refine L_seq ?_
  refine L_region ?_
  refine F_val rfl rfl rfl (O_move rfl rfl) ?_
  refine F_val rfl rfl rfl (O_nilCheck rfl rfl) ?_
  refine F_val rfl rfl rfl (O_fieldB rfl rfl field99_1) ?_
  refine F_val rfl rfl rfl (O_loadB rfl rfl flat3 (HS0.cells_rd (i := 0) rfl) rfl) ?_
  refine F_val rfl rfl rfl (O_assign rfl rfl) ?_
  refine F_nil ?_
  refine L_ret (fun a ha => (post_ret1 ha rfl rfl ?_))
  obtain rfl := Option.some.inj H
  exact ⟨rfl, HS0.sel [] rfl⟩

/-! function 21: (*valise/bits.Writer).Bytes -/
theorem bits_Writer_Bytes.calls {S0 : Nat → Prop} {w0 : World} {g_w_0 : Nat} {A_w_0_bytes : Option Addr} {c_w_0_bytes : Nat} {w_0_bytes : List Int} {w_0_count : Int} {r : List Int} (HS0 : Hp S0 w0 w0 [.rd (some ⟨g_w_0, 0, none⟩) [.slice A_w_0_bytes w_0_bytes.length c_w_0_bytes, .int .i64 w_0_count], .rd A_w_0_bytes (rowC (Eint .u8) w_0_bytes)]) (h : bits_Writer_Bytes.f w_0_bytes w_0_count = some r) :
    Calls Try.prog 21 ([.pointer (some ⟨g_w_0, 0, none⟩)] : List Value).toArray w0 (fun e w => ∃ (A1 : Option Addr), ∃ (c1 : Nat), e = .returned (.slice A1 r.length c1) ∧ Hp S0 w0 w [.own A1 c1 (rowC (Eint .u8) r) 5 (Eint .u8).sz]) := by
  have H : ((if (w_0_bytes.length : Int) = 0 then (some ([] : List Int)) else (gd ((0 : Int) ≤ (w_0_bytes.length : Int) ∧ (w_0_bytes.length : Int) * 1 ≤ 281474976710656) (bnd (List.replicate ((w_0_bytes.length : Int) : Int).toNat (0 : Int)) fun l8 => bnd (cpy l8 w_0_bytes) fun l15 => some l15))) : Option (List Int)) = some r := h
  refine calls_start Try.func21 rfl rfl ?_
  refine L_seq ?_
  refine L_region ?_
  refine F_val rfl rfl rfl (O_assign rfl rfl) ?_
  refine F_nil ?_
  refine L_seq ?_
  refine L_seq ?_
  refine L_region ?_
  refine F_val rfl rfl rfl (O_move rfl rfl) ?_
  refine F_val rfl rfl rfl (O_peq rfl rfl rfl Try.underlying31) ?_
  refine F_val rfl rfl rfl (O_move rfl rfl) ?_
  refine F_gval rfl rfl rfl rfl rfl rfl (O_move rfl rfl) ?_
  refine F_gval rfl rfl rfl rfl rfl rfl (O_nilCheck rfl rfl) ?_
  refine F_gval rfl rfl rfl rfl rfl rfl (O_fieldB rfl rfl field99_0) ?_
  refine F_gval rfl rfl rfl rfl rfl rfl (O_loadB rfl rfl flat35 (HS0.cells_rd (i := 0) rfl) rfl) ?_
  refine F_gval rfl rfl rfl rfl rfl rfl (O_len rfl rfl Try.underlying35) ?_
  refine F_gval rfl rfl rfl rfl rfl rfl (O_eq rfl rfl rfl) ?_
  refine F_val rfl rfl rfl (O_pickF rfl rfl rfl) ?_
  refine F_nil ?_
  refine L_condP rfl (fun c1 => ?_) (fun c1 => ?_)
  · have H := of_pos H c1
    refine L_seq ?_
    refine L_region ?_
    refine F_val rfl rfl rfl (O_assign rfl rfl) ?_
    refine F_nil ?_
    have HS2 := HS0.addNil 5 (Eint .u8).sz
    refine L_ret (fun a ha => (post_ret1 ha rfl rfl ?_))
    obtain rfl := Option.some.inj H
    exact ⟨_, _, rfl, HS2.sel [2] rfl⟩
  · have H := of_neg H c1
    refine L_skip ?_
    refine L_seq ?_
    refine L_region ?_
    refine F_val rfl rfl rfl (O_move rfl rfl) ?_
    refine F_val rfl rfl rfl (O_nilCheck rfl rfl) ?_
    refine F_val rfl rfl rfl (O_fieldB rfl rfl field99_0) ?_
    refine F_val rfl rfl rfl (O_loadB rfl rfl flat35 (HS0.cells_rd (i := 0) rfl) rfl) ?_
    refine F_val rfl rfl rfl (O_len rfl rfl Try.underlying35) ?_
    obtain ⟨⟨g6, g7⟩, H⟩ := of_gd H
    obtain ⟨l8, h9, H⟩ := of_bnd H
    refine F_makeE (E := (Eint .u8)) rfl rfl rfl rfl rfl rfl Try.underlying35 info5 rfl (by decide) (by decide) g6 g7 HS0 h9 (fun w4 A10 c11 HS5 => ?_)
    have HS5 : Hp S0 w0 w4 [.rd (some ⟨g_w_0, 0, none⟩) [.slice A_w_0_bytes w_0_bytes.length c_w_0_bytes, .int .i64 w_0_count], .rd A_w_0_bytes (rowC (Eint .u8) w_0_bytes), .own A10 c11 (rowC (Eint .u8) l8) 5 (Eint .u8).sz] := HS5
    refine F_val rfl rfl rfl (O_assign rfl rfl) ?_
    refine F_nil ?_
    refine L_seq ?_
    refine L_region ?_
    refine F_val rfl rfl rfl (O_move rfl rfl) ?_
    refine F_val rfl rfl rfl (O_move rfl rfl) ?_
    refine F_val rfl rfl rfl (O_nilCheck rfl rfl) ?_
    refine F_val rfl rfl rfl (O_fieldB rfl rfl field99_0) ?_
    refine F_val rfl rfl rfl (O_loadB rfl rfl flat35 (HS5.cells_rd (i := 0) rfl) rfl) ?_
    obtain ⟨l15, h16, H⟩ := of_bnd H
    refine F_copyE (E := (Eint .u8)) (xs := l8) (ys := w_0_bytes) (i := 2) rfl rfl rfl rfl Try.underlying35 size5 rfl rfl HS5 rfl (HS5.cells_rd (i := 1) rfl) h16 (fun w13 HS14 => ?_)
    have e17 : l8.length = l15.length := by rw [← h16, cpy_length]
    refine F_know (i := 3) rfl (congrArg (fun n => Value.slice A10 n c11) e17) ?_
    have HS14 : Hp S0 w0 w13 [.rd (some ⟨g_w_0, 0, none⟩) [.slice A_w_0_bytes w_0_bytes.length c_w_0_bytes, .int .i64 w_0_count], .rd A_w_0_bytes (rowC (Eint .u8) w_0_bytes), .own A10 c11 (rowC (Eint .u8) l15) 5 (Eint .u8).sz] := HS14
    refine F_nil ?_
    refine L_seq ?_
    refine L_region ?_
    refine F_val rfl rfl rfl (O_move rfl rfl) ?_
    refine F_val rfl rfl rfl (O_assign rfl rfl) ?_
    refine F_nil ?_
    refine L_ret (fun a ha => (post_ret1 ha rfl rfl ?_))
    obtain rfl := Option.some.inj H
    exact ⟨_, _, rfl, HS14.sel [2] rfl⟩

/-! function 24: valise/valiselaw3.same -/
theorem valiselaw3_same.calls {S0 : Nat → Prop} {w0 : World} {A_a_0 : Option Addr} {c_a_0 : Nat} {A_b_1 : Option Addr} {c_b_1 : Nat} {l_a_0 : List Int} {l_b_1 : List Int} {r : Bool} (HS0 : Hp S0 w0 w0 [.rd A_a_0 (rowC (Eint .u8) l_a_0), .rd A_b_1 (rowC (Eint .u8) l_b_1)]) (hc_a_0 : l_a_0.length ≤ c_a_0) (hc_b_1 : l_b_1.length ≤ c_b_1) (h : valiselaw3_same.f l_a_0 l_b_1 = some r) :
    Calls Try.prog 24 ([.slice A_a_0 l_a_0.length c_a_0, .slice A_b_1 l_b_1.length c_b_1] : List Value).toArray w0 (fun e w => e = .returned (.bool r) ∧ Hp S0 w0 w []) := by
  have H : ((if (l_a_0.length : Int) ≠ (l_b_1.length : Int) then (some false) else ((valiselaw3_same.l1 FU 0 l_a_0 l_b_1).bind fun (yj2 : Sum (Bool) (Unit)) => onR yj2 (fun r => some r) fun () => some true)) : Option (Bool)) = some r := h
  refine calls_start Try.func24 rfl rfl ?_
  refine L_seq ?_
  refine L_region ?_
  refine F_val rfl rfl rfl (O_assign rfl rfl) ?_
  refine F_nil ?_
  refine L_seq ?_
  refine L_seq ?_
  refine L_region ?_
  refine F_val rfl rfl rfl (O_move rfl rfl) ?_
  refine F_val rfl rfl rfl (O_len rfl rfl Try.underlying35) ?_
  refine F_val rfl rfl rfl (O_move rfl rfl) ?_
  refine F_val rfl rfl rfl (O_len rfl rfl Try.underlying35) ?_
  refine F_val rfl rfl rfl (O_ne rfl rfl rfl) ?_
  refine F_nil ?_
  refine L_condP rfl (fun c1 => ?_) (fun c1 => ?_)
  · have H := of_pos H c1
    refine L_seq ?_
    refine L_region ?_
    refine F_val rfl rfl rfl (O_assign rfl rfl) ?_
    refine F_nil ?_
    refine L_ret (fun a ha => (post_ret1 ha rfl rfl ?_))
    obtain rfl := Option.some.inj H
    exact ⟨rfl, HS0.sel [] rfl⟩
  · have H := of_neg H c1
    refine L_skip ?_
    refine L_seq ?_
    refine L_seq ?_
    refine L_region ?_
    refine F_val rfl rfl rfl (O_assign rfl rfl) ?_
    refine F_nil ?_
    obtain ⟨yj2, Hyj2, H⟩ := of_bind H
    refine L_join (fun a w => yj2 = Sum.inr () ∧ Is Try.f24.ntmps a [] ∧ Hp S0 w0 w [.rd A_a_0 (rowC (Eint .u8) l_a_0), .rd A_b_1 (rowC (Eint .u8) l_b_1)]) (fun Qj2 hNj2 hOj2 => ?_) (fun a w hR => ?_)
    · have HOj2 := H
      have H := Hyj2
      refine L_blk (fun Qb45 hNb45 hXb45 hOb45 => ?_)
      refine L_lp (fun k a w => ∃ (i_72 : Int), Is Try.f24.ntmps a [(0, .slice A_a_0 l_a_0.length c_a_0), (1, .slice A_b_1 l_b_1.length c_b_1), (5, .int .i64 i_72)] ∧ Hp S0 w0 w [.rd A_a_0 (rowC (Eint .u8) l_a_0), .rd A_b_1 (rowC (Eint .u8) l_b_1)] ∧ valiselaw3_same.l1 k i_72 l_a_0 l_b_1 = some yj2) FU (fun a ha => ⟨_, Is.cons ha (Is.cons ha (Is.cons ha (Is.nil ha) rfl) rfl) rfl, HS0.sel [0, 1] rfl, H⟩) (fun kp71 a w73 hI Qp71 hNp71 hOp71 => ?_)
      obtain ⟨i_72, ha, HS74, HAp71⟩ := hI
      cases kp71 with
      | zero => cases (show (none : Option _) = some _ from HAp71)
      | succ kp71 =>
        have H := (valiselaw3_same.l1.eq_2 ..).symm.trans HAp71
        refine wpLF_app ?_ ha
        refine L_seq ?_
        refine L_seq ?_
        refine L_region ?_
        refine F_val rfl rfl rfl (O_move rfl rfl) ?_
        refine F_val rfl rfl rfl (O_move rfl rfl) ?_
        refine F_val rfl rfl rfl (O_len rfl rfl Try.underlying35) ?_
        refine F_val rfl rfl rfl (O_lt rfl rfl rfl) ?_
        refine F_nil ?_
        refine L_condP rfl (fun c75 => ?_) (fun c75 => ?_)
        · have H := of_pos H c75
          refine L_skip ?_
          refine L_seq ?_
          refine L_blk (fun Q76 hN76 hX76 hO76 => ?_)
          refine L_seq ?_
          refine L_quiet mix (by kernel_rfl) ?_
          refine Q_val rfl rfl rfl (fun wq hq => O_move rfl rfl) ?_
          refine Q_val rfl rfl rfl (fun wq hq => O_move rfl rfl) ?_
          obtain ⟨⟨g77, g78⟩, H⟩ := of_gd H
          refine Q_val rfl rfl rfl (fun wq hq => O_idx rfl rfl rfl Try.underlying35 size5 g77 g78 (Cells.isA ((HS74.keep hq).cells_rd (i := 0) rfl) (rowC_ne (E := (Eint .u8)) g77 g78 (by decide)))) ?_
          refine Q_val rfl rfl rfl (fun wq hq => O_loadC rfl rfl flat5 ((HS74.keep hq).cells_rd (i := 0) rfl) (int_cell g77 g78)) ?_
          refine Q_val rfl rfl rfl (fun wq hq => O_move rfl rfl) ?_
          refine Q_val rfl rfl rfl (fun wq hq => O_move rfl rfl) ?_
          obtain ⟨⟨g79, g80⟩, H⟩ := of_gd H
          refine Q_val rfl rfl rfl (fun wq hq => O_idx rfl rfl rfl Try.underlying35 size5 g79 g80 (Cells.isA ((HS74.keep hq).cells_rd (i := 1) rfl) (rowC_ne (E := (Eint .u8)) g79 g80 (by decide)))) ?_
          refine Q_val rfl rfl rfl (fun wq hq => O_loadC rfl rfl flat5 ((HS74.keep hq).cells_rd (i := 1) rfl) (int_cell g79 g80)) ?_
          refine Q_val rfl rfl rfl (fun wq hq => O_ne rfl rfl rfl) ?_
          refine Q_nil (fun w81 hw82 => ?_)
          have HS83 := HS74.keep hw82
          refine L_condP rfl (fun c84 => ?_) (fun c84 => ?_)
          · have H := of_pos H c84
            refine L_seq ?_
            refine L_region ?_
            refine F_val rfl rfl rfl (O_assign rfl rfl) ?_
            refine F_nil ?_
            refine L_ret (fun a ha => (hO76 .ret a _ rfl (hOp71 .ret a _ rfl (hOb45 .ret a _ rfl (hOj2 .ret a _ rfl (post_ret1 ha rfl rfl ?_))))))
            obtain rfl := Option.some.inj H
            obtain rfl := Option.some.inj (show (some false : Option (Bool)) = some _ from HOj2)
            exact ⟨rfl, HS83.sel [] rfl⟩
          · have H := of_neg H c84
            refine L_skip ?_
            refine L_endB hN76 ?_
            refine L_region ?_
            refine F_val rfl rfl rfl (O_move rfl rfl) ?_
            refine F_val rfl rfl rfl (O_add rfl rfl rfl) ?_
            obtain ⟨x85, h86, H⟩ := of_bnd H
            refine F_val rfl rfl rfl (O_assign' rfl rfl (congrArg (Value.int .i64) h86)) ?_
            refine F_nil ?_
            refine L_nil (fun a ha => hNp71 _ a _ (Nat.lt_succ_self _) ⟨_, Is.cons ha (Is.cons ha (Is.cons ha (Is.nil ha) rfl) rfl) rfl, HS83.sel [0, 1] rfl, H⟩)
        · have H := of_neg H c75
          refine L_exitB (fun a w h => hOp71 (.exit 0) a w rfl (hXb45 a w h)) ?_
          refine L_nil (fun a ha => hNj2 a _ ⟨(Option.some.inj H).symm, Is.nil ha, HS74.sel [0, 1] rfl⟩)
    · obtain ⟨rfl, ha, HS88⟩ := hR
      refine wpLF_app ?_ ha
      have H := (onR_inr _ _ _).symm.trans H
      refine L_seq ?_
      refine L_region ?_
      refine F_val rfl rfl rfl (O_assign rfl rfl) ?_
      refine F_nil ?_
      refine L_ret (fun a ha => (post_ret1 ha rfl rfl ?_))
      obtain rfl := Option.some.inj H
      exact ⟨rfl, HS88.sel [] rfl⟩

/-! function 10: valise/valiselaw3.BitsPlaces -/
theorem valiselaw3_BitsPlaces.calls {S0 : Nat → Prop} {w0 : World} {A_data_0 : Option Addr} {c_data_0 : Nat} {l_data_0 : List Int} {r : Bool} (HS0 : Hp S0 w0 w0 [.rd A_data_0 (rowC (Eint .u8) l_data_0)]) (hc_data_0 : l_data_0.length ≤ c_data_0) (h : valiselaw3_BitsPlaces.f l_data_0 = some r) :
    Calls Try.prog 10 ([.slice A_data_0 l_data_0.length c_data_0] : List Value).toArray w0 (fun e w => e = .returned (.bool r) ∧ Hp S0 w0 w []) := by
  have H : (((bits_NewWriter.f).bind fun (z5, z6) => (bits_NewWriter.f).bind fun (z18, z19) => if 33554432 < (l_data_0.length : Int) then (some true) else ((valiselaw3_copied.f l_data_0).bind fun z32 => (bits_NewReader.f z32).bind fun z42 => onO z42 (some false) fun (z45, z46) => (valiselaw3_BitsPlaces.l11 FU z5 z45 z6 z46 0 l_data_0).bind fun (yj54 : Sum (Bool) (List Int × List Int × Int × Int)) => onR yj54 (fun r => some r) fun (l886, l889, y890, y891) => (valiselaw3_copied.f l_data_0).bind fun z1727 => (bits_Writer_Raw.f z18 z19 z1727).bind fun (z1737, z1738, z1739) => if z1737 ≠ 0 then (some false) else ((bits_Reader_Left.f l889 y891).bind fun z1749 => if z1749 ≠ 0 then (some false) else ((bits_Writer_Len.f z1738 z1739).bind fun z1757 => if z1757 ≠ IntKind.i64.wrap (8 * (l_data_0.length : Int)) then (some false) else ((bits_Writer_Len.f l886 y890).bind fun z1765 => (bits_Writer_Len.f z1738 z1739).bind fun z1772 => if z1765 ≠ z1772 then (some false) else ((bits_Writer_Bytes.f l886 y890).bind fun z1780 => (valiselaw3_same.f z1780 l_data_0).bind fun z1790 => if z1790 = true then ((bits_Writer_Bytes.f z1738 z1739).bind fun z1798 => (valiselaw3_same.f z1798 l_data_0).bind fun z1808 => some z1808) else (some false))))))) : Option (Bool)) = some r := h
  refine calls_start Try.func10 rfl rfl ?_
  refine L_seq ?_
  refine L_region ?_
  refine F_val rfl rfl rfl (O_assign rfl rfl) ?_
  refine F_nil ?_
  refine L_seq ?_
  refine L_region ?_
  obtain ⟨⟨z5, z6⟩, h4, H⟩ := of_bind H
  refine F_call (xs := []) rfl rfl rfl rfl Try.func18 nm18 rfl rfl ((bits_NewWriter.calls (HS0.give [] rfl (Lent.nil)) h4).mono (fun e w hc => ?_))
  obtain ⟨g9, A11, c12, rfl, HSo⟩ := hc
  refine ⟨.pointer (some ⟨g9, 0, none⟩), rfl, ?_⟩
  have HS8 : Hp S0 w0 w [.rd A_data_0 (rowC (Eint .u8) l_data_0), .box g9 [.slice A11 z5.length c12, .int .i64 z6] 99, .own A11 c12 (rowC (Eint .u8) z5) 5 (Eint .u8).sz] := (HS0.back [] HSo rfl).sel [0, 1, 2] rfl
  refine F_val rfl rfl rfl (O_assign rfl rfl) ?_
  refine F_nil ?_
  refine L_seq ?_
  refine L_region ?_
  obtain ⟨⟨z18, z19⟩, h17, H⟩ := of_bind H
  refine F_call (xs := []) rfl rfl rfl rfl Try.func18 nm18 rfl rfl ((bits_NewWriter.calls (HS8.give [] rfl (Lent.nil)) h17).mono (fun e w hc => ?_))
  obtain ⟨g22, A24, c25, rfl, HSo⟩ := hc
  refine ⟨.pointer (some ⟨g22, 0, none⟩), rfl, ?_⟩
  have HS21 : Hp S0 w0 w [.rd A_data_0 (rowC (Eint .u8) l_data_0), .box g9 [.slice A11 z5.length c12, .int .i64 z6] 99, .own A11 c12 (rowC (Eint .u8) z5) 5 (Eint .u8).sz, .box g22 [.slice A24 z18.length c25, .int .i64 z19] 99, .own A24 c25 (rowC (Eint .u8) z18) 5 (Eint .u8).sz] := (HS8.back [] HSo rfl).sel [0, 1, 2, 3, 4] rfl
  refine F_val rfl rfl rfl (O_assign rfl rfl) ?_
  refine F_nil ?_
  refine L_seq ?_
  refine L_seq ?_
  refine L_region ?_
  refine F_val rfl rfl rfl (O_move rfl rfl) ?_
  refine F_val rfl rfl rfl (O_peq rfl rfl rfl Try.underlying31) ?_
  refine F_val rfl rfl rfl (O_move rfl rfl) ?_
  refine F_gval rfl rfl rfl rfl rfl rfl (O_move rfl rfl) ?_
  refine F_gval rfl rfl rfl rfl rfl rfl (O_peq rfl rfl rfl Try.underlying31) ?_
  refine F_val rfl rfl rfl (O_pickF rfl rfl rfl) ?_
  refine F_nil ?_
  refine L_cond rfl (fun hx => by cases hx) (fun _ => ?_)
  refine L_skip ?_
  refine L_seq ?_
  refine L_seq ?_
  refine L_region ?_
  refine F_val rfl rfl rfl (O_move rfl rfl) ?_
  refine F_val rfl rfl rfl (O_len rfl rfl Try.underlying35) ?_
  refine F_val rfl rfl rfl (O_gt rfl rfl rfl) ?_
  refine F_nil ?_
  refine L_condP rfl (fun c27 => ?_) (fun c27 => ?_)
  · have H := of_pos H c27
    refine L_seq ?_
    refine L_region ?_
    refine F_val rfl rfl rfl (O_assign rfl rfl) ?_
    refine F_nil ?_
    refine L_ret (fun a ha => (post_ret1 ha rfl rfl ?_))
    obtain rfl := Option.some.inj H
    exact ⟨rfl, HS21.sel [] rfl⟩
  · have H := of_neg H c27
    refine L_skip ?_
    refine L_seq ?_
    refine L_region ?_
    refine F_val rfl rfl rfl (O_move rfl rfl) ?_
    obtain ⟨z32, h31, H⟩ := of_bind H
    refine F_call (xs := [.tmp 22]) rfl rfl rfl rfl Try.func26 nm26 rfl rfl ((valiselaw3_copied.calls (HS21.give [] rfl (Lent.rd HS21 (Lent.nil) (i := 0) rfl ((HS21.cells_rd (i := 0) rfl).self))) hc_data_0 h31).mono (fun e w hc => ?_))
    obtain ⟨A35, c36, rfl, HSo⟩ := hc
    refine ⟨.slice A35 z32.length c36, rfl, ?_⟩
    have HS34 : Hp S0 w0 w [.rd A_data_0 (rowC (Eint .u8) l_data_0), .box g9 [.slice A11 z5.length c12, .int .i64 z6] 99, .own A11 c12 (rowC (Eint .u8) z5) 5 (Eint .u8).sz, .box g22 [.slice A24 z18.length c25, .int .i64 z19] 99, .own A24 c25 (rowC (Eint .u8) z18) 5 (Eint .u8).sz, .own A35 c36 (rowC (Eint .u8) z32) 5 (Eint .u8).sz] := (HS21.back [] HSo rfl).sel [0, 1, 2, 3, 4, 5] rfl
    obtain ⟨z42, h41, H⟩ := of_bind H
    rcases z42 with _ | z42
    · refine F_call (xs := [.tmp 23]) rfl rfl rfl rfl Try.func25 nm25 rfl rfl ((bits_NewReader.calls (HS34.give [] rfl (Lent.own HS34 (Lent.nil) (i := 5) rfl rfl ((HS34.cells_own (i := 5) rfl).self))) (HS34.own_capE (i := 5) rfl (by decide)) h41).mono (fun e w hc => ?_))
      have H := (onO_none _ _).symm.trans H
      obtain ⟨rfl, HSo⟩ := hc
      refine ⟨.pointer none, rfl, ?_⟩
      have HS44 : Hp S0 w0 w [.rd A_data_0 (rowC (Eint .u8) l_data_0), .box g9 [.slice A11 z5.length c12, .int .i64 z6] 99, .own A11 c12 (rowC (Eint .u8) z5) 5 (Eint .u8).sz, .box g22 [.slice A24 z18.length c25, .int .i64 z19] 99, .own A24 c25 (rowC (Eint .u8) z18) 5 (Eint .u8).sz, .own A35 c36 (rowC (Eint .u8) z32) 5 (Eint .u8).sz] := (HS34.back [] HSo rfl).sel [0, 1, 2, 3, 4, 5] rfl
      refine F_val rfl rfl rfl (O_assign rfl rfl) ?_
      refine F_nil ?_
      refine L_seq ?_
      refine L_seq ?_
      refine L_region ?_
      refine F_val rfl rfl rfl (O_move rfl rfl) ?_
      refine F_val rfl rfl rfl (O_peq rfl rfl rfl Try.underlying42) ?_
      refine F_nil ?_
      refine L_cond rfl (fun _ => ?_) (fun hx => by cases hx)
      refine L_seq ?_
      refine L_region ?_
      refine F_val rfl rfl rfl (O_assign rfl rfl) ?_
      refine F_nil ?_
      refine L_ret (fun a ha => (post_ret1 ha rfl rfl ?_))
      obtain rfl := Option.some.inj H
      exact ⟨rfl, HS44.sel [] rfl⟩
    · refine F_call (xs := [.tmp 23]) rfl rfl rfl rfl Try.func25 nm25 rfl rfl ((bits_NewReader.calls (HS34.give [] rfl (Lent.own HS34 (Lent.nil) (i := 5) rfl rfl ((HS34.cells_own (i := 5) rfl).self))) (HS34.own_capE (i := 5) rfl (by decide)) h41).mono (fun e w hc => ?_))
      obtain ⟨z45, z46⟩ := z42
      have H := (onO_some _ _ _).symm.trans H
      obtain ⟨g49, A51, c52, rfl, HSo⟩ := hc
      refine ⟨.pointer (some ⟨g49, 0, none⟩), rfl, ?_⟩
      have HS48 : Hp S0 w0 w [.rd A_data_0 (rowC (Eint .u8) l_data_0), .box g9 [.slice A11 z5.length c12, .int .i64 z6] 99, .own A11 c12 (rowC (Eint .u8) z5) 5 (Eint .u8).sz, .box g22 [.slice A24 z18.length c25, .int .i64 z19] 99, .own A24 c25 (rowC (Eint .u8) z18) 5 (Eint .u8).sz, .own A35 c36 (rowC (Eint .u8) z32) 5 (Eint .u8).sz, .box g49 [.slice A51 z45.length c52, .int .i64 z46] 102, .own A51 c52 (rowC (Eint .u8) z45) 5 (Eint .u8).sz] := (HS34.back [] HSo rfl).sel [0, 1, 2, 3, 4, 5, 6, 7] rfl
      refine F_val rfl rfl rfl (O_assign rfl rfl) ?_
      refine F_nil ?_
      refine L_seq ?_
      refine L_seq ?_
      refine L_region ?_
      refine F_val rfl rfl rfl (O_move rfl rfl) ?_
      refine F_val rfl rfl rfl (O_peq rfl rfl rfl Try.underlying42) ?_
      refine F_nil ?_
      refine L_cond rfl (fun hx => by cases hx) (fun _ => ?_)
      refine L_skip ?_
      refine L_seq ?_
      refine L_seq ?_
      refine L_region ?_
      refine F_val rfl rfl rfl (O_assign rfl rfl) ?_
      refine F_nil ?_
      obtain ⟨yj54, Hyj54, H⟩ := of_bind H
      refine L_join (fun a w => ∃ (l886 : List Int), ∃ (l889 : List Int), ∃ (y890 : Int), ∃ (y891 : Int), ∃ (A884 : Option Addr), ∃ (c885 : Nat), ∃ (A887 : Option Addr), ∃ (c888 : Nat), yj54 = Sum.inr (l886, l889, y890, y891) ∧ Is Try.f10.ntmps a [(0, .slice A_data_0 l_data_0.length c_data_0), (3, .pointer (some ⟨g9, 0, none⟩)), (4, .pointer (some ⟨g22, 0, none⟩)), (5, .pointer (some ⟨g49, 0, none⟩))] ∧ Hp S0 w0 w [.rd A_data_0 (rowC (Eint .u8) l_data_0), .box g9 [.slice A884 l886.length c885, .int .i64 y890] 99, .own A884 c885 (rowC (Eint .u8) l886) 5 (Eint .u8).sz, .box g22 [.slice A24 z18.length c25, .int .i64 z19] 99, .own A24 c25 (rowC (Eint .u8) z18) 5 (Eint .u8).sz, .box g49 [.slice A887 l889.length c888, .int .i64 y891] 102, .own A887 c888 (rowC (Eint .u8) l889) 5 (Eint .u8).sz]) (fun Qj54 hNj54 hOj54 => ?_) (fun a w hR => ?_)
      · have HOj54 := H
        have H := Hyj54
        refine L_blk (fun Qb892 hNb892 hXb892 hOb892 => ?_)
        refine L_lp (fun k a w => ∃ (l1443 : List Int), ∃ (l1446 : List Int), ∃ (y1447 : Int), ∃ (y1448 : Int), ∃ (k_1449 : Int), ∃ (A1441 : Option Addr), ∃ (c1442 : Nat), ∃ (A1444 : Option Addr), ∃ (c1445 : Nat), Is Try.f10.ntmps a [(0, .slice A_data_0 l_data_0.length c_data_0), (3, .pointer (some ⟨g9, 0, none⟩)), (4, .pointer (some ⟨g22, 0, none⟩)), (5, .pointer (some ⟨g49, 0, none⟩)), (6, .int .i64 k_1449)] ∧ Hp S0 w0 w [.rd A_data_0 (rowC (Eint .u8) l_data_0), .box g9 [.slice A1441 l1443.length c1442, .int .i64 y1447] 99, .own A1441 c1442 (rowC (Eint .u8) l1443) 5 (Eint .u8).sz, .box g22 [.slice A24 z18.length c25, .int .i64 z19] 99, .own A24 c25 (rowC (Eint .u8) z18) 5 (Eint .u8).sz, .box g49 [.slice A1444 l1446.length c1445, .int .i64 y1448] 102, .own A1444 c1445 (rowC (Eint .u8) l1446) 5 (Eint .u8).sz] ∧ valiselaw3_BitsPlaces.l11 k l1443 l1446 y1447 y1448 k_1449 l_data_0 = some yj54) FU (fun a ha => ⟨_, _, _, _, _, _, _, _, _, Is.cons ha (Is.cons ha (Is.cons ha (Is.cons ha (Is.cons ha (Is.nil ha) rfl) rfl) rfl) rfl) rfl, HS48.sel [0, 1, 2, 3, 4, 6, 7] rfl, H⟩) (fun kp1440 a w1450 hI Qp1440 hNp1440 hOp1440 => ?_)
        obtain ⟨l1443, l1446, y1447, y1448, k_1449, A1441, c1442, A1444, c1445, ha, HS1451, HAp1440⟩ := hI
        cases kp1440 with
        | zero => cases (show (none : Option _) = some _ from HAp1440)
        | succ kp1440 =>
          have H := (valiselaw3_BitsPlaces.l11.eq_2 ..).symm.trans HAp1440
          refine wpLF_app ?_ ha
          refine L_seq ?_
          refine L_seq ?_
          refine L_region ?_
          refine F_val rfl rfl rfl (O_move rfl rfl) ?_
          refine F_val rfl rfl rfl (O_move rfl rfl) ?_
          refine F_val rfl rfl rfl (O_len rfl rfl Try.underlying35) ?_
          refine F_val rfl rfl rfl (O_lt rfl rfl rfl) ?_
          refine F_nil ?_
          refine L_condP rfl (fun c1452 => ?_) (fun c1452 => ?_)
          · have H := of_pos H c1452
            refine L_skip ?_
            refine L_seq ?_
            refine L_blk (fun Q1453 hN1453 hX1453 hO1453 => ?_)
            refine L_seq ?_
            refine L_region ?_
            refine F_val rfl rfl rfl (O_assign rfl rfl) ?_
            refine F_nil ?_
            obtain ⟨yj1454, Hyj1454, H⟩ := of_bind H
            refine L_join (fun a w => ∃ (l1584 : List Int), ∃ (l1587 : List Int), ∃ (y1588 : Int), ∃ (y1589 : Int), ∃ (A1582 : Option Addr), ∃ (c1583 : Nat), ∃ (A1585 : Option Addr), ∃ (c1586 : Nat), yj1454 = Sum.inr (l1584, l1587, y1588, y1589) ∧ Is Try.f10.ntmps a [(0, .slice A_data_0 l_data_0.length c_data_0), (3, .pointer (some ⟨g9, 0, none⟩)), (4, .pointer (some ⟨g22, 0, none⟩)), (5, .pointer (some ⟨g49, 0, none⟩)), (6, .int .i64 k_1449)] ∧ Hp S0 w0 w [.rd A_data_0 (rowC (Eint .u8) l_data_0), .box g9 [.slice A1582 l1584.length c1583, .int .i64 y1588] 99, .own A1582 c1583 (rowC (Eint .u8) l1584) 5 (Eint .u8).sz, .box g22 [.slice A24 z18.length c25, .int .i64 z19] 99, .own A24 c25 (rowC (Eint .u8) z18) 5 (Eint .u8).sz, .box g49 [.slice A1585 l1587.length c1586, .int .i64 y1589] 102, .own A1585 c1586 (rowC (Eint .u8) l1587) 5 (Eint .u8).sz]) (fun Qj1454 hNj1454 hOj1454 => ?_) (fun a w hR => ?_)
            · have HOj1454 := H
              have H := Hyj1454
              refine L_blk (fun Qb1590 hNb1590 hXb1590 hOb1590 => ?_)
              refine L_lp (fun k a w => ∃ (l1673 : List Int), ∃ (l1676 : List Int), ∃ (y1677 : Int), ∃ (y1678 : Int), ∃ (i_1679 : Int), ∃ (A1671 : Option Addr), ∃ (c1672 : Nat), ∃ (A1674 : Option Addr), ∃ (c1675 : Nat), Is Try.f10.ntmps a [(0, .slice A_data_0 l_data_0.length c_data_0), (3, .pointer (some ⟨g9, 0, none⟩)), (4, .pointer (some ⟨g22, 0, none⟩)), (5, .pointer (some ⟨g49, 0, none⟩)), (6, .int .i64 k_1449), (7, .int .i64 i_1679)] ∧ Hp S0 w0 w [.rd A_data_0 (rowC (Eint .u8) l_data_0), .box g9 [.slice A1671 l1673.length c1672, .int .i64 y1677] 99, .own A1671 c1672 (rowC (Eint .u8) l1673) 5 (Eint .u8).sz, .box g22 [.slice A24 z18.length c25, .int .i64 z19] 99, .own A24 c25 (rowC (Eint .u8) z18) 5 (Eint .u8).sz, .box g49 [.slice A1674 l1676.length c1675, .int .i64 y1678] 102, .own A1674 c1675 (rowC (Eint .u8) l1676) 5 (Eint .u8).sz] ∧ valiselaw3_BitsPlaces.l13 k l1673 l1676 y1677 y1678 i_1679 l_data_0 k_1449 = some yj1454) FU (fun a ha => ⟨_, _, _, _, _, _, _, _, _, Is.cons ha (Is.cons ha (Is.cons ha (Is.cons ha (Is.cons ha (Is.cons ha (Is.nil ha) rfl) rfl) rfl) rfl) rfl) rfl, HS1451.sel [0, 1, 2, 3, 4, 5, 6] rfl, H⟩) (fun kp1670 a w1680 hI Qp1670 hNp1670 hOp1670 => ?_)
              obtain ⟨l1673, l1676, y1677, y1678, i_1679, A1671, c1672, A1674, c1675, ha, HS1681, HAp1670⟩ := hI
              cases kp1670 with
              | zero => cases (show (none : Option _) = some _ from HAp1670)
              | succ kp1670 =>
                have H := (valiselaw3_BitsPlaces.l13.eq_2 ..).symm.trans HAp1670
                refine wpLF_app ?_ ha
                refine L_seq ?_
                refine L_seq ?_
                refine L_region ?_
                refine F_val rfl rfl rfl (O_move rfl rfl) ?_
                refine F_val rfl rfl rfl (O_lt rfl rfl rfl) ?_
                refine F_nil ?_
                refine L_condP rfl (fun c1682 => ?_) (fun c1682 => ?_)
                · have H := of_pos H c1682
                  refine L_skip ?_
                  refine L_seq ?_
                  refine L_blk (fun Q1683 hN1683 hX1683 hO1683 => ?_)
                  refine L_seq ?_
                  refine L_region ?_
                  refine F_val rfl rfl rfl (O_move rfl rfl) ?_
                  refine F_val rfl rfl rfl (O_move rfl rfl) ?_
                  obtain ⟨⟨g1684, g1685⟩, H⟩ := of_gd H
                  refine F_val rfl rfl rfl (O_idx rfl rfl rfl Try.underlying35 size5 g1684 g1685 (Cells.isA (HS1681.cells_rd (i := 0) rfl) (rowC_ne (E := (Eint .u8)) g1684 g1685 (by decide)))) ?_
                  refine F_val rfl rfl rfl (O_loadC rfl rfl flat5 (HS1681.cells_rd (i := 0) rfl) (int_cell g1684 g1685)) ?_
                  refine F_val rfl rfl rfl (O_conv rfl rfl ⟨_, Try.underlying5⟩ Try.underlying22) ?_
                  refine F_val rfl rfl rfl (O_move rfl rfl) ?_
                  refine F_val rfl rfl rfl (O_conv rfl rfl ⟨_, Try.underlying3⟩ Try.underlying75) ?_
                  obtain ⟨g1686, H⟩ := of_gd H
                  refine F_val rfl rfl rfl (O_shr rfl rfl rfl g1686) ?_
                  refine F_val rfl rfl rfl (O_and rfl rfl rfl) ?_
                  obtain ⟨x1687, h1688, H⟩ := of_bnd H
                  refine F_val rfl rfl rfl (O_assign' rfl rfl (congrArg (Value.int .u32) h1688)) ?_
                  refine F_nil ?_
                  refine L_seq ?_
                  refine L_region ?_
                  refine F_val rfl rfl rfl (O_move rfl rfl) ?_
                  obtain ⟨⟨z1693, z1694, z1695, z1696⟩, h1692, H⟩ := of_bind H
                  refine F_call (xs := [.tmp 47, .const (.int .i64 1)]) rfl rfl rfl rfl Try.func31 nm31 rfl rfl ((bits_Reader_Take.calls (HS1681.give [5, 6] rfl (Lent.nil)) h1692).mono (fun e w hc => ?_))
                  obtain ⟨A1699, c1700, rfl, HSo⟩ := hc
                  refine ⟨.tuple #[.int .u32 z1693, .int .i64 z1694], rfl, ?_⟩
                  have HS1698 : Hp S0 w0 w [.rd A_data_0 (rowC (Eint .u8) l_data_0), .box g9 [.slice A1671 l1673.length c1672, .int .i64 y1677] 99, .own A1671 c1672 (rowC (Eint .u8) l1673) 5 (Eint .u8).sz, .box g22 [.slice A24 z18.length c25, .int .i64 z19] 99, .own A24 c25 (rowC (Eint .u8) z18) 5 (Eint .u8).sz, .box g49 [.slice A1699 z1695.length c1700, .int .i64 z1696] 102, .own A1699 c1700 (rowC (Eint .u8) z1695) 5 (Eint .u8).sz] := (HS1681.back [5, 6] HSo rfl).sel [0, 1, 2, 3, 4, 7, 8] rfl
                  refine F_val rfl rfl rfl (O_move rfl rfl) ?_
                  refine F_val rfl rfl rfl (O_extract (v := .int .u32 z1693) rfl rfl rfl) ?_
                  refine F_val rfl rfl rfl (O_extract (v := .int .i64 z1694) rfl rfl rfl) ?_
                  refine F_val rfl rfl rfl (O_assign rfl rfl) ?_
                  refine F_val rfl rfl rfl (O_assign rfl rfl) ?_
                  refine F_nil ?_
                  refine L_seq ?_
                  refine L_seq ?_
                  refine L_region ?_
                  refine F_val rfl rfl rfl (O_move rfl rfl) ?_
                  refine F_val rfl rfl rfl (O_ne rfl rfl rfl) ?_
                  refine F_val rfl rfl rfl (O_move rfl rfl) ?_
                  refine F_grp 4 [(57, .bool (decide ((z1694 ≠ 0) ∨ (z1693 ≠ x1687)))), (0, .slice A_data_0 l_data_0.length c_data_0), (3, .pointer (some ⟨g9, 0, none⟩)), (4, .pointer (some ⟨g22, 0, none⟩)), (5, .pointer (some ⟨g49, 0, none⟩)), (6, .int .i64 k_1449), (7, .int .i64 i_1679), (8, .int .u32 x1687)] ?_ ?_
                  · rcases Decidable.em (z1694 ≠ 0) with c1701 | c1701
                    · refine F_know (i := 53) rfl (dec_t c1701) ?_
                      refine F_gskip rfl rfl rfl rfl rfl rfl rfl ?_
                      refine F_gskip rfl rfl rfl rfl rfl rfl rfl ?_
                      refine F_gskip rfl rfl rfl rfl rfl rfl rfl ?_
                      refine F_val rfl rfl rfl (O_pickT rfl rfl rfl) ?_
                      refine F_know (i := 57) rfl (dec_or_t (q := z1693 ≠ x1687) c1701) ?_
                      exact F_grpE (fun a ha => Is.cons ha (Is.cons ha (Is.cons ha (Is.cons ha (Is.cons ha (Is.cons ha (Is.cons ha (Is.cons ha (Is.nil ha) rfl) rfl) rfl) rfl) rfl) rfl) rfl) rfl)
                    · refine F_know (i := 53) rfl (dec_f c1701) ?_
                      refine F_gval rfl rfl rfl rfl rfl rfl (O_move rfl rfl) ?_
                      refine F_gval rfl rfl rfl rfl rfl rfl (O_move rfl rfl) ?_
                      refine F_gval rfl rfl rfl rfl rfl rfl (O_ne rfl rfl rfl) ?_
                      refine F_val rfl rfl rfl (O_pickF rfl rfl rfl) ?_
                      refine F_know (i := 57) rfl (dec_or_f (q := z1693 ≠ x1687) c1701) ?_
                      exact F_grpE (fun a ha => Is.cons ha (Is.cons ha (Is.cons ha (Is.cons ha (Is.cons ha (Is.cons ha (Is.cons ha (Is.cons ha (Is.nil ha) rfl) rfl) rfl) rfl) rfl) rfl) rfl) rfl)
                  · skip
                    refine F_nil ?_
                    refine L_condP rfl (fun c1702 => ?_) (fun c1702 => ?_)
                    · have H := of_pos H c1702
                      refine L_seq ?_
                      refine L_region ?_
                      refine F_val rfl rfl rfl (O_assign rfl rfl) ?_
                      refine F_nil ?_
                      refine L_ret (fun a ha => (hO1683 .ret a _ rfl (hOp1670 .ret a _ rfl (hOb1590 .ret a _ rfl (hOj1454 .ret a _ rfl (hO1453 .ret a _ rfl (hOp1440 .ret a _ rfl (hOb892 .ret a _ rfl (hOj54 .ret a _ rfl (post_ret1 ha rfl rfl ?_))))))))))
                      obtain rfl := Option.some.inj H
                      obtain rfl := Option.some.inj (show (some (Sum.inl false) : Option (Sum (Bool) _)) = some _ from HOj1454)
                      obtain rfl := Option.some.inj (show (some false : Option (Bool)) = some _ from HOj54)
                      exact ⟨rfl, HS1698.sel [] rfl⟩
                    · have H := of_neg H c1702
                      refine L_skip ?_
                      refine L_seq ?_
                      refine L_region ?_
                      refine F_val rfl rfl rfl (O_move rfl rfl) ?_
                      refine F_val rfl rfl rfl (O_move rfl rfl) ?_
                      obtain ⟨⟨z1707, z1708, z1709⟩, h1706, H⟩ := of_bind H
                      refine F_call (xs := [.tmp 58, .tmp 59, .const (.int .i64 1)]) rfl rfl rfl rfl Try.func19 nm19 rfl rfl ((bits_Writer_Put.calls (HS1698.give [1, 2] rfl (Lent.nil)) h1706).mono (fun e w hc => ?_))
                      obtain ⟨A1712, c1713, rfl, HSo⟩ := hc
                      refine ⟨.int .i64 z1707, rfl, ?_⟩
                      have HS1711 : Hp S0 w0 w [.rd A_data_0 (rowC (Eint .u8) l_data_0), .box g9 [.slice A1712 z1708.length c1713, .int .i64 z1709] 99, .own A1712 c1713 (rowC (Eint .u8) z1708) 5 (Eint .u8).sz, .box g22 [.slice A24 z18.length c25, .int .i64 z19] 99, .own A24 c25 (rowC (Eint .u8) z18) 5 (Eint .u8).sz, .box g49 [.slice A1699 z1695.length c1700, .int .i64 z1696] 102, .own A1699 c1700 (rowC (Eint .u8) z1695) 5 (Eint .u8).sz] := (HS1698.back [1, 2] HSo rfl).sel [0, 7, 8, 3, 4, 5, 6] rfl
                      refine F_val rfl rfl rfl (O_ne rfl rfl rfl) ?_
                      refine F_nil ?_
                      refine L_condP rfl (fun c1714 => ?_) (fun c1714 => ?_)
                      · have H := of_pos H c1714
                        refine L_seq ?_
                        refine L_region ?_
                        refine F_val rfl rfl rfl (O_assign rfl rfl) ?_
                        refine F_nil ?_
                        refine L_ret (fun a ha => (hO1683 .ret a _ rfl (hOp1670 .ret a _ rfl (hOb1590 .ret a _ rfl (hOj1454 .ret a _ rfl (hO1453 .ret a _ rfl (hOp1440 .ret a _ rfl (hOb892 .ret a _ rfl (hOj54 .ret a _ rfl (post_ret1 ha rfl rfl ?_))))))))))
                        obtain rfl := Option.some.inj H
                        obtain rfl := Option.some.inj (show (some (Sum.inl false) : Option (Sum (Bool) _)) = some _ from HOj1454)
                        obtain rfl := Option.some.inj (show (some false : Option (Bool)) = some _ from HOj54)
                        exact ⟨rfl, HS1711.sel [] rfl⟩
                      · have H := of_neg H c1714
                        refine L_skip ?_
                        refine L_endB hN1683 ?_
                        refine L_region ?_
                        refine F_val rfl rfl rfl (O_move rfl rfl) ?_
                        refine F_val rfl rfl rfl (O_add rfl rfl rfl) ?_
                        obtain ⟨x1715, h1716, H⟩ := of_bnd H
                        refine F_val rfl rfl rfl (O_assign' rfl rfl (congrArg (Value.int .i64) h1716)) ?_
                        refine F_nil ?_
                        refine L_nil (fun a ha => hNp1670 _ a _ (Nat.lt_succ_self _) ⟨_, _, _, _, _, _, _, _, _, Is.cons ha (Is.cons ha (Is.cons ha (Is.cons ha (Is.cons ha (Is.cons ha (Is.nil ha) rfl) rfl) rfl) rfl) rfl) rfl, HS1711.sel [0, 1, 2, 3, 4, 5, 6] rfl, H⟩)
                · have H := of_neg H c1682
                  refine L_exitB (fun a w h => hOp1670 (.exit 2) a w rfl (hXb1590 a w h)) ?_
                  refine L_nil (fun a ha => hNj1454 a _ ⟨_, _, _, _, _, _, _, _, (Option.some.inj H).symm, Is.cons ha (Is.cons ha (Is.cons ha (Is.cons ha (Is.cons ha (Is.nil ha) rfl) rfl) rfl) rfl) rfl, HS1681.sel [0, 1, 2, 3, 4, 5, 6] rfl⟩)
            · obtain ⟨l1584, l1587, y1588, y1589, A1582, c1583, A1585, c1586, rfl, ha, HS1718⟩ := hR
              refine wpLF_app ?_ ha
              have H := (onR_inr _ _ _).symm.trans H
              refine L_endB hN1453 ?_
              refine L_region ?_
              refine F_val rfl rfl rfl (O_move rfl rfl) ?_
              refine F_val rfl rfl rfl (O_add rfl rfl rfl) ?_
              obtain ⟨x1719, h1720, H⟩ := of_bnd H
              refine F_val rfl rfl rfl (O_assign' rfl rfl (congrArg (Value.int .i64) h1720)) ?_
              refine F_nil ?_
              refine L_nil (fun a ha => hNp1440 _ a _ (Nat.lt_succ_self _) ⟨_, _, _, _, _, _, _, _, _, Is.cons ha (Is.cons ha (Is.cons ha (Is.cons ha (Is.cons ha (Is.nil ha) rfl) rfl) rfl) rfl) rfl, HS1718.sel [0, 1, 2, 3, 4, 5, 6] rfl, H⟩)
          · have H := of_neg H c1452
            refine L_exitB (fun a w h => hOp1440 (.exit 0) a w rfl (hXb892 a w h)) ?_
            refine L_nil (fun a ha => hNj54 a _ ⟨_, _, _, _, _, _, _, _, (Option.some.inj H).symm, Is.cons ha (Is.cons ha (Is.cons ha (Is.cons ha (Is.nil ha) rfl) rfl) rfl) rfl, HS1451.sel [0, 1, 2, 3, 4, 5, 6] rfl⟩)
      · obtain ⟨l886, l889, y890, y891, A884, c885, A887, c888, rfl, ha, HS1722⟩ := hR
        refine wpLF_app ?_ ha
        have H := (onR_inr _ _ _).symm.trans H
        refine L_seq ?_
        refine L_seq ?_
        refine L_region ?_
        refine F_val rfl rfl rfl (O_move rfl rfl) ?_
        refine F_val rfl rfl rfl (O_move rfl rfl) ?_
        obtain ⟨z1727, h1726, H⟩ := of_bind H
        refine F_call (xs := [.tmp 63]) rfl rfl rfl rfl Try.func26 nm26 rfl rfl ((valiselaw3_copied.calls (HS1722.give [] rfl (Lent.rd HS1722 (Lent.nil) (i := 0) rfl ((HS1722.cells_rd (i := 0) rfl).self))) hc_data_0 h1726).mono (fun e w hc => ?_))
        obtain ⟨A1730, c1731, rfl, HSo⟩ := hc
        refine ⟨.slice A1730 z1727.length c1731, rfl, ?_⟩
        have HS1729 : Hp S0 w0 w [.rd A_data_0 (rowC (Eint .u8) l_data_0), .box g9 [.slice A884 l886.length c885, .int .i64 y890] 99, .own A884 c885 (rowC (Eint .u8) l886) 5 (Eint .u8).sz, .box g22 [.slice A24 z18.length c25, .int .i64 z19] 99, .own A24 c25 (rowC (Eint .u8) z18) 5 (Eint .u8).sz, .box g49 [.slice A887 l889.length c888, .int .i64 y891] 102, .own A887 c888 (rowC (Eint .u8) l889) 5 (Eint .u8).sz, .own A1730 c1731 (rowC (Eint .u8) z1727) 5 (Eint .u8).sz] := (HS1722.back [] HSo rfl).sel [0, 1, 2, 3, 4, 5, 6, 7] rfl
        obtain ⟨⟨z1737, z1738, z1739⟩, h1736, H⟩ := of_bind H
        refine F_call (xs := [.tmp 62, .tmp 64]) rfl rfl rfl rfl Try.func37 nm37 rfl rfl ((bits_Writer_Raw.calls (HS1729.give [3, 4] rfl (Lent.own HS1729 (Lent.nil) (i := 7) rfl rfl ((HS1729.cells_own (i := 7) rfl).self))) (HS1729.own_capE (i := 7) rfl (by decide)) h1736).mono (fun e w hc => ?_))
        obtain ⟨A1742, c1743, rfl, HSo⟩ := hc
        refine ⟨.int .i64 z1737, rfl, ?_⟩
        have HS1741 : Hp S0 w0 w [.rd A_data_0 (rowC (Eint .u8) l_data_0), .box g9 [.slice A884 l886.length c885, .int .i64 y890] 99, .own A884 c885 (rowC (Eint .u8) l886) 5 (Eint .u8).sz, .box g22 [.slice A1742 z1738.length c1743, .int .i64 z1739] 99, .own A1742 c1743 (rowC (Eint .u8) z1738) 5 (Eint .u8).sz, .box g49 [.slice A887 l889.length c888, .int .i64 y891] 102, .own A887 c888 (rowC (Eint .u8) l889) 5 (Eint .u8).sz, .own A1730 c1731 (rowC (Eint .u8) z1727) 5 (Eint .u8).sz] := (HS1729.back [3, 4] HSo rfl).sel [0, 1, 2, 8, 9, 5, 6, 7] rfl
        refine F_val rfl rfl rfl (O_ne rfl rfl rfl) ?_
        refine F_val rfl rfl rfl (O_move rfl rfl) ?_
        rcases Decidable.em (z1737 ≠ 0) with c1744 | c1744
        · have H := of_pos H c1744
          refine F_know (i := 67) rfl (dec_t c1744) ?_
          refine F_gskip rfl rfl rfl rfl rfl rfl rfl ?_
          refine F_gskip rfl rfl rfl rfl rfl rfl rfl ?_
          refine F_gskip rfl rfl rfl rfl rfl rfl rfl ?_
          refine F_val rfl rfl rfl (O_pickT rfl rfl rfl) ?_
          refine F_val rfl rfl rfl (O_move rfl rfl) ?_
          refine F_gskip rfl rfl rfl rfl rfl rfl rfl ?_
          refine F_gskip rfl rfl rfl rfl rfl rfl rfl ?_
          refine F_gskip rfl rfl rfl rfl rfl rfl rfl ?_
          refine F_gskip rfl rfl rfl rfl rfl rfl rfl ?_
          refine F_gskip rfl rfl rfl rfl rfl rfl rfl ?_
          refine F_gskip rfl rfl rfl rfl rfl rfl rfl ?_
          refine F_val rfl rfl rfl (O_pickT rfl rfl rfl) ?_
          refine F_val rfl rfl rfl (O_move rfl rfl) ?_
          refine F_gskip rfl rfl rfl rfl rfl rfl rfl ?_
          refine F_gskip rfl rfl rfl rfl rfl rfl rfl ?_
          refine F_gskip rfl rfl rfl rfl rfl rfl rfl ?_
          refine F_gskip rfl rfl rfl rfl rfl rfl rfl ?_
          refine F_gskip rfl rfl rfl rfl rfl rfl rfl ?_
          refine F_val rfl rfl rfl (O_pickT rfl rfl rfl) ?_
          refine F_nil ?_
          refine L_cond rfl (fun _ => ?_) (fun hx => by cases hx)
          refine L_seq ?_
          refine L_region ?_
          refine F_val rfl rfl rfl (O_assign rfl rfl) ?_
          refine F_nil ?_
          refine L_ret (fun a ha => (post_ret1 ha rfl rfl ?_))
          obtain rfl := Option.some.inj H
          exact ⟨rfl, HS1741.sel [] rfl⟩
        · have H := of_neg H c1744
          refine F_know (i := 67) rfl (dec_f c1744) ?_
          refine F_gval rfl rfl rfl rfl rfl rfl (O_move rfl rfl) ?_
          obtain ⟨z1749, h1748, H⟩ := of_bind H
          refine F_gcall (xs := [.tmp 68]) rfl rfl rfl rfl rfl rfl rfl Try.func30 nm30 rfl rfl ((bits_Reader_Left.calls (HS1741.give [] rfl (Lent.box HS1741 (Lent.own HS1741 (Lent.nil) (i := 6) rfl rfl ((HS1741.cells_own (i := 6) rfl).self)) (i := 5) rfl rfl (HS1741.cells_box (i := 5) rfl).self)) h1748).mono (fun e w hc => ?_))
          obtain ⟨rfl, HSo⟩ := hc
          refine ⟨.int .i64 z1749, rfl, ?_⟩
          have HS1751 : Hp S0 w0 w [.rd A_data_0 (rowC (Eint .u8) l_data_0), .box g9 [.slice A884 l886.length c885, .int .i64 y890] 99, .own A884 c885 (rowC (Eint .u8) l886) 5 (Eint .u8).sz, .box g22 [.slice A1742 z1738.length c1743, .int .i64 z1739] 99, .own A1742 c1743 (rowC (Eint .u8) z1738) 5 (Eint .u8).sz, .box g49 [.slice A887 l889.length c888, .int .i64 y891] 102, .own A887 c888 (rowC (Eint .u8) l889) 5 (Eint .u8).sz, .own A1730 c1731 (rowC (Eint .u8) z1727) 5 (Eint .u8).sz] := (HS1741.back [] HSo rfl).sel [0, 1, 2, 3, 4, 5, 6, 7] rfl
          refine F_gval rfl rfl rfl rfl rfl rfl (O_ne rfl rfl rfl) ?_
          refine F_val rfl rfl rfl (O_pickF rfl rfl rfl) ?_
          refine F_val rfl rfl rfl (O_move rfl rfl) ?_
          rcases Decidable.em (z1749 ≠ 0) with c1752 | c1752
          · have H := of_pos H c1752
            refine F_know (i := 72) rfl (dec_t c1752) ?_
            refine F_gskip rfl rfl rfl rfl rfl rfl rfl ?_
            refine F_gskip rfl rfl rfl rfl rfl rfl rfl ?_
            refine F_gskip rfl rfl rfl rfl rfl rfl rfl ?_
            refine F_gskip rfl rfl rfl rfl rfl rfl rfl ?_
            refine F_gskip rfl rfl rfl rfl rfl rfl rfl ?_
            refine F_gskip rfl rfl rfl rfl rfl rfl rfl ?_
            refine F_val rfl rfl rfl (O_pickT rfl rfl rfl) ?_
            refine F_val rfl rfl rfl (O_move rfl rfl) ?_
            refine F_gskip rfl rfl rfl rfl rfl rfl rfl ?_
            refine F_gskip rfl rfl rfl rfl rfl rfl rfl ?_
            refine F_gskip rfl rfl rfl rfl rfl rfl rfl ?_
            refine F_gskip rfl rfl rfl rfl rfl rfl rfl ?_
            refine F_gskip rfl rfl rfl rfl rfl rfl rfl ?_
            refine F_val rfl rfl rfl (O_pickT rfl rfl rfl) ?_
            refine F_nil ?_
            refine L_cond rfl (fun _ => ?_) (fun hx => by cases hx)
            refine L_seq ?_
            refine L_region ?_
            refine F_val rfl rfl rfl (O_assign rfl rfl) ?_
            refine F_nil ?_
            refine L_ret (fun a ha => (post_ret1 ha rfl rfl ?_))
            obtain rfl := Option.some.inj H
            exact ⟨rfl, HS1751.sel [] rfl⟩
          · have H := of_neg H c1752
            refine F_know (i := 72) rfl (dec_f c1752) ?_
            refine F_gval rfl rfl rfl rfl rfl rfl (O_move rfl rfl) ?_
            obtain ⟨z1757, h1756, H⟩ := of_bind H
            refine F_gcall (xs := [.tmp 73]) rfl rfl rfl rfl rfl rfl rfl Try.func23 nm23 rfl rfl ((bits_Writer_Len.calls (HS1751.give [] rfl (Lent.box HS1751 (Lent.own HS1751 (Lent.nil) (i := 4) rfl rfl ((HS1751.cells_own (i := 4) rfl).self)) (i := 3) rfl rfl (HS1751.cells_box (i := 3) rfl).self)) h1756).mono (fun e w hc => ?_))
            obtain ⟨rfl, HSo⟩ := hc
            refine ⟨.int .i64 z1757, rfl, ?_⟩
            have HS1759 : Hp S0 w0 w [.rd A_data_0 (rowC (Eint .u8) l_data_0), .box g9 [.slice A884 l886.length c885, .int .i64 y890] 99, .own A884 c885 (rowC (Eint .u8) l886) 5 (Eint .u8).sz, .box g22 [.slice A1742 z1738.length c1743, .int .i64 z1739] 99, .own A1742 c1743 (rowC (Eint .u8) z1738) 5 (Eint .u8).sz, .box g49 [.slice A887 l889.length c888, .int .i64 y891] 102, .own A887 c888 (rowC (Eint .u8) l889) 5 (Eint .u8).sz, .own A1730 c1731 (rowC (Eint .u8) z1727) 5 (Eint .u8).sz] := (HS1751.back [] HSo rfl).sel [0, 1, 2, 3, 4, 5, 6, 7] rfl
            refine F_gval rfl rfl rfl rfl rfl rfl (O_move rfl rfl) ?_
            refine F_gval rfl rfl rfl rfl rfl rfl (O_len rfl rfl Try.underlying35) ?_
            refine F_gval rfl rfl rfl rfl rfl rfl (O_mul rfl rfl rfl) ?_
            refine F_gval rfl rfl rfl rfl rfl rfl (O_ne rfl rfl rfl) ?_
            refine F_val rfl rfl rfl (O_pickF rfl rfl rfl) ?_
            refine F_val rfl rfl rfl (O_move rfl rfl) ?_
            rcases Decidable.em (z1757 ≠ IntKind.i64.wrap (8 * (l_data_0.length : Int))) with c1760 | c1760
            · have H := of_pos H c1760
              refine F_know (i := 80) rfl (dec_t c1760) ?_
              refine F_gskip rfl rfl rfl rfl rfl rfl rfl ?_
              refine F_gskip rfl rfl rfl rfl rfl rfl rfl ?_
              refine F_gskip rfl rfl rfl rfl rfl rfl rfl ?_
              refine F_gskip rfl rfl rfl rfl rfl rfl rfl ?_
              refine F_gskip rfl rfl rfl rfl rfl rfl rfl ?_
              refine F_val rfl rfl rfl (O_pickT rfl rfl rfl) ?_
              refine F_nil ?_
              refine L_cond rfl (fun _ => ?_) (fun hx => by cases hx)
              refine L_seq ?_
              refine L_region ?_
              refine F_val rfl rfl rfl (O_assign rfl rfl) ?_
              refine F_nil ?_
              refine L_ret (fun a ha => (post_ret1 ha rfl rfl ?_))
              obtain rfl := Option.some.inj H
              exact ⟨rfl, HS1759.sel [] rfl⟩
            · have H := of_neg H c1760
              refine F_know (i := 80) rfl (dec_f c1760) ?_
              refine F_gval rfl rfl rfl rfl rfl rfl (O_move rfl rfl) ?_
              obtain ⟨z1765, h1764, H⟩ := of_bind H
              refine F_gcall (xs := [.tmp 81]) rfl rfl rfl rfl rfl rfl rfl Try.func23 nm23 rfl rfl ((bits_Writer_Len.calls (HS1759.give [] rfl (Lent.box HS1759 (Lent.own HS1759 (Lent.nil) (i := 2) rfl rfl ((HS1759.cells_own (i := 2) rfl).self)) (i := 1) rfl rfl (HS1759.cells_box (i := 1) rfl).self)) h1764).mono (fun e w hc => ?_))
              obtain ⟨rfl, HSo⟩ := hc
              refine ⟨.int .i64 z1765, rfl, ?_⟩
              have HS1767 : Hp S0 w0 w [.rd A_data_0 (rowC (Eint .u8) l_data_0), .box g9 [.slice A884 l886.length c885, .int .i64 y890] 99, .own A884 c885 (rowC (Eint .u8) l886) 5 (Eint .u8).sz, .box g22 [.slice A1742 z1738.length c1743, .int .i64 z1739] 99, .own A1742 c1743 (rowC (Eint .u8) z1738) 5 (Eint .u8).sz, .box g49 [.slice A887 l889.length c888, .int .i64 y891] 102, .own A887 c888 (rowC (Eint .u8) l889) 5 (Eint .u8).sz, .own A1730 c1731 (rowC (Eint .u8) z1727) 5 (Eint .u8).sz] := (HS1759.back [] HSo rfl).sel [0, 1, 2, 3, 4, 5, 6, 7] rfl
              refine F_gval rfl rfl rfl rfl rfl rfl (O_move rfl rfl) ?_
              obtain ⟨z1772, h1771, H⟩ := of_bind H
              refine F_gcall (xs := [.tmp 83]) rfl rfl rfl rfl rfl rfl rfl Try.func23 nm23 rfl rfl ((bits_Writer_Len.calls (HS1767.give [] rfl (Lent.box HS1767 (Lent.own HS1767 (Lent.nil) (i := 4) rfl rfl ((HS1767.cells_own (i := 4) rfl).self)) (i := 3) rfl rfl (HS1767.cells_box (i := 3) rfl).self)) h1771).mono (fun e w hc => ?_))
              obtain ⟨rfl, HSo⟩ := hc
              refine ⟨.int .i64 z1772, rfl, ?_⟩
              have HS1774 : Hp S0 w0 w [.rd A_data_0 (rowC (Eint .u8) l_data_0), .box g9 [.slice A884 l886.length c885, .int .i64 y890] 99, .own A884 c885 (rowC (Eint .u8) l886) 5 (Eint .u8).sz, .box g22 [.slice A1742 z1738.length c1743, .int .i64 z1739] 99, .own A1742 c1743 (rowC (Eint .u8) z1738) 5 (Eint .u8).sz, .box g49 [.slice A887 l889.length c888, .int .i64 y891] 102, .own A887 c888 (rowC (Eint .u8) l889) 5 (Eint .u8).sz, .own A1730 c1731 (rowC (Eint .u8) z1727) 5 (Eint .u8).sz] := (HS1767.back [] HSo rfl).sel [0, 1, 2, 3, 4, 5, 6, 7] rfl
              refine F_gval rfl rfl rfl rfl rfl rfl (O_ne rfl rfl rfl) ?_
              refine F_val rfl rfl rfl (O_pickF rfl rfl rfl) ?_
              refine F_nil ?_
              refine L_condP rfl (fun c1775 => ?_) (fun c1775 => ?_)
              · have H := of_pos H c1775
                refine L_seq ?_
                refine L_region ?_
                refine F_val rfl rfl rfl (O_assign rfl rfl) ?_
                refine F_nil ?_
                refine L_ret (fun a ha => (post_ret1 ha rfl rfl ?_))
                obtain rfl := Option.some.inj H
                exact ⟨rfl, HS1774.sel [] rfl⟩
              · have H := of_neg H c1775
                refine L_skip ?_
                refine L_seq ?_
                refine L_region ?_
                refine F_val rfl rfl rfl (O_move rfl rfl) ?_
                obtain ⟨z1780, h1779, H⟩ := of_bind H
                refine F_call (xs := [.tmp 87]) rfl rfl rfl rfl Try.func21 nm21 rfl rfl ((bits_Writer_Bytes.calls (HS1774.give [] rfl (Lent.box HS1774 (Lent.own HS1774 (Lent.nil) (i := 2) rfl rfl ((HS1774.cells_own (i := 2) rfl).self)) (i := 1) rfl rfl (HS1774.cells_box (i := 1) rfl).self)) h1779).mono (fun e w hc => ?_))
                obtain ⟨A1783, c1784, rfl, HSo⟩ := hc
                refine ⟨.slice A1783 z1780.length c1784, rfl, ?_⟩
                have HS1782 : Hp S0 w0 w [.rd A_data_0 (rowC (Eint .u8) l_data_0), .box g9 [.slice A884 l886.length c885, .int .i64 y890] 99, .own A884 c885 (rowC (Eint .u8) l886) 5 (Eint .u8).sz, .box g22 [.slice A1742 z1738.length c1743, .int .i64 z1739] 99, .own A1742 c1743 (rowC (Eint .u8) z1738) 5 (Eint .u8).sz, .box g49 [.slice A887 l889.length c888, .int .i64 y891] 102, .own A887 c888 (rowC (Eint .u8) l889) 5 (Eint .u8).sz, .own A1730 c1731 (rowC (Eint .u8) z1727) 5 (Eint .u8).sz, .own A1783 c1784 (rowC (Eint .u8) z1780) 5 (Eint .u8).sz] := (HS1774.back [] HSo rfl).sel [0, 1, 2, 3, 4, 5, 6, 7, 8] rfl
                refine F_val rfl rfl rfl (O_move rfl rfl) ?_
                obtain ⟨z1790, h1789, H⟩ := of_bind H
                refine F_call (xs := [.tmp 88, .tmp 89]) rfl rfl rfl rfl Try.func24 nm24 rfl rfl ((valiselaw3_same.calls (HS1782.give [] rfl (Lent.own HS1782 (Lent.rd HS1782 (Lent.nil) (i := 0) rfl ((HS1782.cells_rd (i := 0) rfl).self)) (i := 8) rfl rfl ((HS1782.cells_own (i := 8) rfl).self))) (HS1782.own_capE (i := 8) rfl (by decide)) hc_data_0 h1789).mono (fun e w hc => ?_))
                obtain ⟨rfl, HSo⟩ := hc
                refine ⟨.bool z1790, rfl, ?_⟩
                have HS1792 : Hp S0 w0 w [.rd A_data_0 (rowC (Eint .u8) l_data_0), .box g9 [.slice A884 l886.length c885, .int .i64 y890] 99, .own A884 c885 (rowC (Eint .u8) l886) 5 (Eint .u8).sz, .box g22 [.slice A1742 z1738.length c1743, .int .i64 z1739] 99, .own A1742 c1743 (rowC (Eint .u8) z1738) 5 (Eint .u8).sz, .box g49 [.slice A887 l889.length c888, .int .i64 y891] 102, .own A887 c888 (rowC (Eint .u8) l889) 5 (Eint .u8).sz, .own A1730 c1731 (rowC (Eint .u8) z1727) 5 (Eint .u8).sz, .own A1783 c1784 (rowC (Eint .u8) z1780) 5 (Eint .u8).sz] := (HS1782.back [] HSo rfl).sel [0, 1, 2, 3, 4, 5, 6, 7, 8] rfl
                refine F_val rfl rfl rfl (O_move rfl rfl) ?_
                rcases Decidable.em (z1790 = true) with c1793 | c1793
                · have H := of_pos H c1793
                  refine F_know (i := 91) rfl (congrArg Value.bool c1793) ?_
                  refine F_gval rfl rfl rfl rfl rfl rfl (O_move rfl rfl) ?_
                  obtain ⟨z1798, h1797, H⟩ := of_bind H
                  refine F_gcall (xs := [.tmp 92]) rfl rfl rfl rfl rfl rfl rfl Try.func21 nm21 rfl rfl ((bits_Writer_Bytes.calls (HS1792.give [] rfl (Lent.box HS1792 (Lent.own HS1792 (Lent.nil) (i := 4) rfl rfl ((HS1792.cells_own (i := 4) rfl).self)) (i := 3) rfl rfl (HS1792.cells_box (i := 3) rfl).self)) h1797).mono (fun e w hc => ?_))
                  obtain ⟨A1801, c1802, rfl, HSo⟩ := hc
                  refine ⟨.slice A1801 z1798.length c1802, rfl, ?_⟩
                  have HS1800 : Hp S0 w0 w [.rd A_data_0 (rowC (Eint .u8) l_data_0), .box g9 [.slice A884 l886.length c885, .int .i64 y890] 99, .own A884 c885 (rowC (Eint .u8) l886) 5 (Eint .u8).sz, .box g22 [.slice A1742 z1738.length c1743, .int .i64 z1739] 99, .own A1742 c1743 (rowC (Eint .u8) z1738) 5 (Eint .u8).sz, .box g49 [.slice A887 l889.length c888, .int .i64 y891] 102, .own A887 c888 (rowC (Eint .u8) l889) 5 (Eint .u8).sz, .own A1730 c1731 (rowC (Eint .u8) z1727) 5 (Eint .u8).sz, .own A1783 c1784 (rowC (Eint .u8) z1780) 5 (Eint .u8).sz, .own A1801 c1802 (rowC (Eint .u8) z1798) 5 (Eint .u8).sz] := (HS1792.back [] HSo rfl).sel [0, 1, 2, 3, 4, 5, 6, 7, 8, 9] rfl
                  refine F_gval rfl rfl rfl rfl rfl rfl (O_move rfl rfl) ?_
                  obtain ⟨z1808, h1807, H⟩ := of_bind H
                  refine F_gcall (xs := [.tmp 93, .tmp 94]) rfl rfl rfl rfl rfl rfl rfl Try.func24 nm24 rfl rfl ((valiselaw3_same.calls (HS1800.give [] rfl (Lent.own HS1800 (Lent.rd HS1800 (Lent.nil) (i := 0) rfl ((HS1800.cells_rd (i := 0) rfl).self)) (i := 9) rfl rfl ((HS1800.cells_own (i := 9) rfl).self))) (HS1800.own_capE (i := 9) rfl (by decide)) hc_data_0 h1807).mono (fun e w hc => ?_))
                  obtain ⟨rfl, HSo⟩ := hc
                  refine ⟨.bool z1808, rfl, ?_⟩
                  have HS1810 : Hp S0 w0 w [.rd A_data_0 (rowC (Eint .u8) l_data_0), .box g9 [.slice A884 l886.length c885, .int .i64 y890] 99, .own A884 c885 (rowC (Eint .u8) l886) 5 (Eint .u8).sz, .box g22 [.slice A1742 z1738.length c1743, .int .i64 z1739] 99, .own A1742 c1743 (rowC (Eint .u8) z1738) 5 (Eint .u8).sz, .box g49 [.slice A887 l889.length c888, .int .i64 y891] 102, .own A887 c888 (rowC (Eint .u8) l889) 5 (Eint .u8).sz, .own A1730 c1731 (rowC (Eint .u8) z1727) 5 (Eint .u8).sz, .own A1783 c1784 (rowC (Eint .u8) z1780) 5 (Eint .u8).sz, .own A1801 c1802 (rowC (Eint .u8) z1798) 5 (Eint .u8).sz] := (HS1800.back [] HSo rfl).sel [0, 1, 2, 3, 4, 5, 6, 7, 8, 9] rfl
                  refine F_val rfl rfl rfl (O_pickT rfl rfl rfl) ?_
                  refine F_val rfl rfl rfl (O_assign rfl rfl) ?_
                  refine F_nil ?_
                  refine L_ret (fun a ha => (post_ret1 ha rfl rfl ?_))
                  obtain rfl := Option.some.inj H
                  exact ⟨rfl, HS1810.sel [] rfl⟩
                · have H := of_neg H c1793
                  refine F_know (i := 91) rfl (congrArg Value.bool (Bool.eq_false_iff.mpr c1793)) ?_
                  refine F_gskip rfl rfl rfl rfl rfl rfl rfl ?_
                  refine F_gskip rfl rfl rfl rfl rfl rfl rfl ?_
                  refine F_gskip rfl rfl rfl rfl rfl rfl rfl ?_
                  refine F_gskip rfl rfl rfl rfl rfl rfl rfl ?_
                  refine F_val rfl rfl rfl (O_pickF rfl rfl rfl) ?_
                  refine F_val rfl rfl rfl (O_assign rfl rfl) ?_
                  refine F_nil ?_
                  refine L_ret (fun a ha => (post_ret1 ha rfl rfl ?_))
                  obtain rfl := Option.some.inj H
                  exact ⟨rfl, HS1792.sel [] rfl⟩

end Go.Proofs.Ytmbcoaiaeeckiaa
