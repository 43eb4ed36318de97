import Derived.Test.YtmbcoaiaeeckiaaChecked
import Derived.Test.YtmbcoaiaeeckiaaGBitsPeeksPure
set_option linter.unusedVariables false
set_option linter.unusedSimpArgs false
set_option maxRecDepth 10000
namespace Go.Proofs.Ytmbcoaiaeeckiaa
open Go Go.V Go.V.Pu
theorem mix : Try.prog.follows .mixedOrders = true := by kernel_rfl
theorem size5 : (Try.prog.info? 5).map (·.size) = some 1 := by kernel_rfl
theorem flat5 : Flat Try.prog 5 := Flat.of Try.underlying5 rfl
theorem info5 : (Try.prog.info? 5).map (fun i => (i.zero, i.size, i.bytes)) = some (some (.int .u8 0), 1, 1) := by kernel_rfl
theorem nm26 : (Try.f26.name == "runtime.NumGoroutine") = false := by kernel_rfl
theorem nm25 : (Try.f25.name == "runtime.NumGoroutine") = false := by kernel_rfl
theorem size3 : (Try.prog.info? 3).map (·.size) = some 1 := by kernel_rfl
theorem flat3 : Flat Try.prog 3 := Flat.of Try.underlying3 rfl
theorem nm44 : (Try.f44.name == "runtime.NumGoroutine") = false := by kernel_rfl
theorem nm27 : (Try.f27.name == "runtime.NumGoroutine") = false := by kernel_rfl
theorem field102_1 : FieldAt Try.prog 102 1 1 := fun w a => by kernel_rfl
theorem field102_0 : FieldAt Try.prog 102 0 0 := fun w a => by kernel_rfl
theorem flat35 : Flat Try.prog 35 := Flat.of Try.underlying35 rfl
theorem nm57 : (Try.f57.name == "runtime.NumGoroutine") = false := by kernel_rfl
theorem nm30 : (Try.f30.name == "runtime.NumGoroutine") = false := by kernel_rfl
theorem nm28 : (Try.f28.name == "runtime.NumGoroutine") = false := by kernel_rfl
theorem nm20 : (Try.f20.name == "runtime.NumGoroutine") = false := by kernel_rfl
theorem nm29 : (Try.f29.name == "runtime.NumGoroutine") = false := by kernel_rfl
theorem nm31 : (Try.f31.name == "runtime.NumGoroutine") = false := by kernel_rfl
theorem nm32 : (Try.f32.name == "runtime.NumGoroutine") = false := by kernel_rfl
/-! function 26: valise/valiselaw3.copied -/
theorem valiselaw3_copied.calls {S0 : Nat → Prop} {w0 : World} {A_a_0 : Option Addr} {c_a_0 : Nat} {l_a_0 : List Int} {r : List Int} (HS0 : Hp S0 w0 w0 [.rd A_a_0 (rowC (Eint .u8) l_a_0)]) (hc_a_0 : l_a_0.length ≤ c_a_0) (h : valiselaw3_copied.f l_a_0 = some r) :
    Calls Try.prog 26 ([.slice A_a_0 l_a_0.length c_a_0] : List Value).toArray w0 (fun e w => ∃ (A1 : Option Addr), ∃ (c1 : Nat), e = .returned (.slice A1 r.length c1) ∧ Hp S0 w0 w [.own A1 c1 (rowC (Eint .u8) r) 5 (Eint .u8).sz]) := by
  have H : (((valiselaw3_copied.l1 FU ([] : List Int) 0 l_a_0).bind fun l72 => some l72) : Option (List Int)) = some r := h
  refine calls_start Try.func26 rfl rfl ?_
  refine L_seq ?_
  refine L_region ?_
  refine F_val rfl rfl rfl (O_assign rfl rfl) ?_
  refine F_nil ?_
  refine L_seq ?_
  refine L_region ?_
  refine F_val rfl rfl rfl (O_assign rfl rfl) ?_
  have HS1 := HS0.addNil 5 (Eint .u8).sz
  have HS1 : Hp S0 w0 w0 [.rd A_a_0 (rowC (Eint .u8) l_a_0), .own none 0 (rowC (Eint .u8) ([] : List Int)) 5 (Eint .u8).sz] := HS1
  refine F_nil ?_
  refine L_seq ?_
  refine L_seq ?_
  refine L_region ?_
  refine F_val rfl rfl rfl (O_assign rfl rfl) ?_
  refine F_nil ?_
  obtain ⟨yj3, Hyj3, H⟩ := of_bind H
  refine L_join (fun a w => ∃ (l72 : List Int), ∃ (A70 : Option Addr), ∃ (c71 : Nat), yj3 = l72 ∧ Is Try.f26.ntmps a [(3, .slice A70 l72.length c71)] ∧ Hp S0 w0 w [.rd A_a_0 (rowC (Eint .u8) l_a_0), .own A70 c71 (rowC (Eint .u8) l72) 5 (Eint .u8).sz]) (fun Qj3 hNj3 hOj3 => ?_) (fun a w hR => ?_)
  · skip
    have H := Hyj3
    refine L_blk (fun Qb73 hNb73 hXb73 hOb73 => ?_)
    refine L_lp (fun k a w => ∃ (l117 : List Int), ∃ (i_118 : Int), ∃ (A115 : Option Addr), ∃ (c116 : Nat), Is Try.f26.ntmps a [(0, .slice A_a_0 l_a_0.length c_a_0), (3, .slice A115 l117.length c116), (4, .int .i64 i_118)] ∧ Hp S0 w0 w [.rd A_a_0 (rowC (Eint .u8) l_a_0), .own A115 c116 (rowC (Eint .u8) l117) 5 (Eint .u8).sz] ∧ valiselaw3_copied.l1 k l117 i_118 l_a_0 = some yj3) FU (fun a ha => ⟨_, _, _, _, Is.cons ha (Is.cons ha (Is.cons ha (Is.nil ha) rfl) rfl) rfl, HS1.sel [0, 1] rfl, H⟩) (fun kp114 a w119 hI Qp114 hNp114 hOp114 => ?_)
    obtain ⟨l117, i_118, A115, c116, ha, HS120, HAp114⟩ := hI
    cases kp114 with
    | zero => cases (show (none : Option _) = some _ from HAp114)
    | succ kp114 =>
      have H := (valiselaw3_copied.l1.eq_2 ..).symm.trans HAp114
      refine wpLF_app ?_ ha
      refine L_seq ?_
      refine L_seq ?_
      refine L_region ?_
      refine F_val rfl rfl rfl (O_move rfl rfl) ?_
      refine F_val rfl rfl rfl (O_move rfl rfl) ?_
      refine F_val rfl rfl rfl (O_len rfl rfl Try.underlying35) ?_
      refine F_val rfl rfl rfl (O_lt rfl rfl rfl) ?_
      refine F_nil ?_
      refine L_condP rfl (fun c121 => ?_) (fun c121 => ?_)
      · have H := of_pos H c121
        refine L_skip ?_
        refine L_seq ?_
        refine L_blk (fun Q122 hN122 hX122 hO122 => ?_)
        refine L_region ?_
        refine F_val rfl rfl rfl (O_move rfl rfl) ?_
        refine F_val rfl rfl rfl (O_move rfl rfl) ?_
        refine F_val rfl rfl rfl (O_move rfl rfl) ?_
        obtain ⟨⟨g123, g124⟩, H⟩ := of_gd H
        refine F_val rfl rfl rfl (O_idx rfl rfl rfl Try.underlying35 size5 g123 g124 (Cells.isA (HS120.cells_rd (i := 0) rfl) (rowC_ne (E := (Eint .u8)) g123 g124 (by decide)))) ?_
        refine F_val rfl rfl rfl (O_loadC rfl rfl flat5 (HS120.cells_rd (i := 0) rfl) (int_cell g123 g124)) ?_
        refine F_litE (E := (Eint .u8)) (e := 5) [(0, .int .u8 (rd l_a_0 i_118))] [rd l_a_0 i_118] rfl rfl rfl rfl rfl rfl rfl (by decide) (fun w => by kernel_rfl) HS120 (fun w125 A127 c128 HS126 => ?_)
        have HS126 : Hp S0 w0 w125 [.rd A_a_0 (rowC (Eint .u8) l_a_0), .own A115 c116 (rowC (Eint .u8) l117) 5 (Eint .u8).sz, .own A127 c128 (rowC (Eint .u8) [rd l_a_0 i_118]) 5 (Eint .u8).sz] := HS126
        obtain ⟨l132, h133, H⟩ := of_bnd H
        obtain ⟨g134, H⟩ := of_gd H
        refine F_appE (E := (Eint .u8)) (xs := l117) (ys := [rd l_a_0 i_118]) (i := 1) rfl rfl rfl rfl Try.underlying35 info5 rfl (by decide) (by decide) rfl rfl HS126 rfl (HS126.cells_own (i := 2) rfl) h133 g134 (fun w130 A135 c136 HS131 => ?_)
        have HS131 : Hp S0 w0 w130 [.rd A_a_0 (rowC (Eint .u8) l_a_0), .own A135 c136 (rowC (Eint .u8) l132) 5 (Eint .u8).sz, .own A127 c128 (rowC (Eint .u8) [rd l_a_0 i_118]) 5 (Eint .u8).sz] := HS131
        refine F_val rfl rfl rfl (O_assign rfl rfl) ?_
        refine F_nil ?_
        refine L_endB hN122 ?_
        refine L_region ?_
        refine F_val rfl rfl rfl (O_move rfl rfl) ?_
        refine F_val rfl rfl rfl (O_add rfl rfl rfl) ?_
        obtain ⟨x137, h138, H⟩ := of_bnd H
        refine F_val rfl rfl rfl (O_assign' rfl rfl (congrArg (Value.int .i64) h138)) ?_
        refine F_nil ?_
        refine L_nil (fun a ha => hNp114 _ a _ (Nat.lt_succ_self _) ⟨_, _, _, _, Is.cons ha (Is.cons ha (Is.cons ha (Is.nil ha) rfl) rfl) rfl, HS131.sel [0, 1] rfl, H⟩)
      · have H := of_neg H c121
        refine L_exitB (fun a w h => hOp114 (.exit 0) a w rfl (hXb73 a w h)) ?_
        refine L_nil (fun a ha => hNj3 a _ ⟨_, _, _, (Option.some.inj H).symm, Is.cons ha (Is.nil ha) rfl, HS120.sel [0, 1] rfl⟩)
  · obtain ⟨l72, A70, c71, ej, ha, HS140⟩ := hR
    obtain rfl := ej.symm
    refine wpLF_app ?_ ha
    refine L_seq ?_
    refine L_region ?_
    refine F_val rfl rfl rfl (O_move rfl rfl) ?_
    refine F_val rfl rfl rfl (O_assign rfl rfl) ?_
    refine F_nil ?_
    refine L_ret (fun a ha => (post_ret1 ha rfl rfl ?_))
    obtain rfl := Option.some.inj H
    exact ⟨_, _, rfl, HS140.sel [1] rfl⟩

/-! function 25: valise/bits.NewReader -/
theorem bits_NewReader.calls {S0 : Nat → Prop} {w0 : World} {A_data_0 : Option Addr} {c_data_0 : Nat} {l_data_0 : List Int} {r : Option (List Int × Int)} (HS0 : Hp S0 w0 w0 [.rd A_data_0 (rowC (Eint .u8) l_data_0)]) (hc_data_0 : l_data_0.length ≤ c_data_0) (h : bits_NewReader.f l_data_0 = some r) :
    Calls Try.prog 25 ([.slice A_data_0 l_data_0.length c_data_0] : List Value).toArray w0 (fun e w => match r with | none => e = .returned (.pointer none) ∧ Hp S0 w0 w [] | some x => ∃ (g0 : Nat), ∃ (A0_0 : Option Addr), ∃ (c0_0 : Nat), e = .returned (.pointer (some ⟨g0, 0, none⟩)) ∧ Hp S0 w0 w [.box g0 [.slice A0_0 x.1.length c0_0, .int .i64 x.2] 102, .own A0_0 c0_0 (rowC (Eint .u8) x.1) 5 (Eint .u8).sz]) := by
  have H : ((if 33554432 < (l_data_0.length : Int) then (some none) else (gd ((0 : Int) ≤ (l_data_0.length : Int) ∧ (l_data_0.length : Int) * 1 ≤ 281474976710656) (bnd (List.replicate ((l_data_0.length : Int) : Int).toNat (0 : Int)) fun l6 => bnd (cpy l6 l_data_0) fun l13 => some (some (l13, 0))))) : Option (Option (List Int × Int))) = some r := h
  refine calls_start Try.func25 rfl rfl ?_
  refine L_seq ?_
  refine L_region ?_
  refine F_val rfl rfl rfl (O_assign rfl rfl) ?_
  refine F_nil ?_
  refine L_seq ?_
  refine L_seq ?_
  refine L_region ?_
  refine F_val rfl rfl rfl (O_move rfl rfl) ?_
  refine F_val rfl rfl rfl (O_len rfl rfl Try.underlying35) ?_
  refine F_val rfl rfl rfl (O_gt rfl rfl rfl) ?_
  refine F_nil ?_
  refine L_condP rfl (fun c1 => ?_) (fun c1 => ?_)
  · have H := of_pos H c1
    refine L_seq ?_
    refine L_region ?_
    refine F_val rfl rfl rfl (O_assign rfl rfl) ?_
    refine F_nil ?_
    refine L_ret (fun a ha => (post_ret1 ha rfl rfl ?_))
    obtain rfl := Option.some.inj H
    exact ⟨rfl, HS0.sel [] rfl⟩
  · have H := of_neg H c1
    refine L_skip ?_
    refine L_seq ?_
    refine L_region ?_
    refine F_val rfl rfl rfl (O_move rfl rfl) ?_
    refine F_val rfl rfl rfl (O_len rfl rfl Try.underlying35) ?_
    obtain ⟨⟨g4, g5⟩, H⟩ := of_gd H
    obtain ⟨l6, h7, H⟩ := of_bnd H
    refine F_makeE (E := (Eint .u8)) rfl rfl rfl rfl rfl rfl Try.underlying35 info5 rfl (by decide) (by decide) g4 g5 HS0 h7 (fun w2 A8 c9 HS3 => ?_)
    have HS3 : Hp S0 w0 w2 [.rd A_data_0 (rowC (Eint .u8) l_data_0), .own A8 c9 (rowC (Eint .u8) l6) 5 (Eint .u8).sz] := HS3
    refine F_val rfl rfl rfl (O_assign rfl rfl) ?_
    refine F_nil ?_
    refine L_seq ?_
    refine L_region ?_
    refine F_val rfl rfl rfl (O_move rfl rfl) ?_
    refine F_val rfl rfl rfl (O_move rfl rfl) ?_
    obtain ⟨l13, h14, H⟩ := of_bnd H
    refine F_copyE (E := (Eint .u8)) (xs := l6) (ys := l_data_0) (i := 1) rfl rfl rfl rfl Try.underlying35 size5 rfl rfl HS3 rfl (HS3.cells_rd (i := 0) rfl) h14 (fun w11 HS12 => ?_)
    have e15 : l6.length = l13.length := by rw [← h14, cpy_length]
    refine F_know (i := 3) rfl (congrArg (fun n => Value.slice A8 n c9) e15) ?_
    have HS12 : Hp S0 w0 w11 [.rd A_data_0 (rowC (Eint .u8) l_data_0), .own A8 c9 (rowC (Eint .u8) l13) 5 (Eint .u8).sz] := HS12
    refine F_nil ?_
    refine L_seq ?_
    refine L_region ?_
    refine F_val rfl rfl rfl (O_move rfl rfl) ?_
    refine F_val rfl rfl rfl (O_build (vs := [(0, .slice A8 l13.length c9)]) (v := .agg #[.slice A8 l13.length c9, .int .i64 0]) rfl rfl rfl (fun w => by kernel_rfl)) ?_
    refine F_box (C := [.slice A8 l13.length c9, .int .i64 0]) rfl rfl rfl rfl rfl rfl HS12 (fun w16 g18 HS17 => ?_)
    have HS17 : Hp S0 w0 w16 [.rd A_data_0 (rowC (Eint .u8) l_data_0), .own A8 c9 (rowC (Eint .u8) l13) 5 (Eint .u8).sz, .box g18 [.slice A8 l13.length c9, .int .i64 0] 102] := HS17
    refine F_val rfl rfl rfl (O_assign rfl rfl) ?_
    refine F_nil ?_
    refine L_ret (fun a ha => (post_ret1 ha rfl rfl ?_))
    obtain rfl := Option.some.inj H
    exact ⟨_, _, _, rfl, HS17.sel [2, 1] rfl⟩

/-! function 44: valise/valiselaw3.which -/
theorem valiselaw3_which.calls {S0 : Nat → Prop} {w0 : World} {k_0 : Int} {n_1 : Int} {r : Int} (HS0 : Hp S0 w0 w0 []) (h : valiselaw3_which.f k_0 n_1 = some r) :
    Calls Try.prog 44 ([.int .i64 k_0, .int .i64 n_1] : List Value).toArray w0 (fun e w => e = .returned (.int .i64 r) ∧ Hp S0 w0 w []) := by
  have H : ((gd (n_1 ≠ 0) (bnd (Int.tmod k_0 n_1) fun x2 => (if x2 < 0 then (bnd (IntKind.i64.wrap (x2 + n_1)) fun x10 => some x10) else (some x2)).bind fun m_8 => some m_8)) : Option (Int)) = some r := h
  refine calls_start Try.func44 rfl rfl ?_
  refine L_seq ?_
  refine L_region ?_
  refine F_val rfl rfl rfl (O_assign rfl rfl) ?_
  refine F_nil ?_
  refine L_seq ?_
  refine L_region ?_
  refine F_val rfl rfl rfl (O_move rfl rfl) ?_
  refine F_val rfl rfl rfl (O_move rfl rfl) ?_
  obtain ⟨g1, H⟩ := of_gd H
  refine F_val rfl rfl rfl (O_rem rfl rfl rfl g1) ?_
  obtain ⟨x2, h3, H⟩ := of_bnd H
  refine F_val rfl rfl rfl (O_assign' rfl rfl (congrArg (Value.int .i64) h3)) ?_
  refine F_nil ?_
  refine L_seq ?_
  refine L_seq ?_
  refine L_region ?_
  refine F_val rfl rfl rfl (O_move rfl rfl) ?_
  refine F_val rfl rfl rfl (O_lt rfl rfl rfl) ?_
  refine F_nil ?_
  obtain ⟨yj4, Hyj4, H⟩ := of_bind H
  refine L_join (fun a w => ∃ (m_8 : Int), yj4 = m_8 ∧ Is Try.f44.ntmps a [(5, .int .i64 m_8)] ∧ Hp S0 w0 w []) (fun Qj4 hNj4 hOj4 => ?_) (fun a w hR => ?_)
  · skip
    have H := Hyj4
    refine L_condP rfl (fun c9 => ?_) (fun c9 => ?_)
    · have H := of_pos H c9
      refine L_region ?_
      refine F_val rfl rfl rfl (O_move rfl rfl) ?_
      refine F_val rfl rfl rfl (O_move rfl rfl) ?_
      refine F_val rfl rfl rfl (O_add rfl rfl rfl) ?_
      obtain ⟨x10, h11, H⟩ := of_bnd H
      refine F_val rfl rfl rfl (O_assign' rfl rfl (congrArg (Value.int .i64) h11)) ?_
      refine F_nil ?_
      refine L_nil (fun a ha => hNj4 a _ ⟨_, (Option.some.inj H).symm, Is.cons ha (Is.nil ha) rfl, HS0.sel [] rfl⟩)
    · have H := of_neg H c9
      refine L_skip ?_
      refine L_nil (fun a ha => hNj4 a _ ⟨_, (Option.some.inj H).symm, Is.cons ha (Is.nil ha) rfl, HS0.sel [] rfl⟩)
  · obtain ⟨m_8, ej, ha, HS13⟩ := hR
    obtain rfl := ej.symm
    refine wpLF_app ?_ ha
    refine L_seq ?_
    refine L_region ?_
    refine F_val rfl rfl rfl (O_move rfl rfl) ?_
    refine F_val rfl rfl rfl (O_assign rfl rfl) ?_
    refine F_nil ?_
    refine L_ret (fun a ha => (post_ret1 ha rfl rfl ?_))
    obtain rfl := Option.some.inj H
    exact ⟨rfl, HS13.sel [] rfl⟩

/-! function 27: valise/valiselaw3.width -/
theorem valiselaw3_width.calls {S0 : Nat → Prop} {w0 : World} {n_0 : Int} {r : Int} (HS0 : Hp S0 w0 w0 []) (h : valiselaw3_width.f n_0 = some r) :
    Calls Try.prog 27 ([.int .i64 n_0] : List Value).toArray w0 (fun e w => e = .returned (.int .i64 r) ∧ Hp S0 w0 w []) := by
  have H : (((valiselaw3_which.f n_0 33).bind fun z5 => some z5) : Option (Int)) = some r := h
  refine calls_start Try.func27 rfl rfl ?_
  refine L_seq ?_
  refine L_region ?_
  refine F_val rfl rfl rfl (O_assign rfl rfl) ?_
  refine F_nil ?_
  refine L_seq ?_
  refine L_region ?_
  refine F_val rfl rfl rfl (O_move rfl rfl) ?_
  obtain ⟨z5, h4, H⟩ := of_bind H
  refine F_call (xs := [.tmp 3, .const (.int .i64 33)]) rfl rfl rfl rfl Try.func44 nm44 rfl rfl ((valiselaw3_which.calls (HS0.give [] rfl (Lent.nil)) h4).mono (fun e w hc => ?_))
  obtain ⟨rfl, HSo⟩ := hc
  refine ⟨.int .i64 z5, rfl, ?_⟩
  have HS7 : Hp S0 w0 w [] := (HS0.back [] HSo rfl).sel [] rfl
  refine F_val rfl rfl rfl (O_assign rfl rfl) ?_
  refine F_nil ?_
  refine L_ret (fun a ha => (post_ret1 ha rfl rfl ?_))
  obtain rfl := Option.some.inj H
  exact ⟨rfl, HS7.sel [] rfl⟩

/-! function 57: (*valise/bits.Reader).ahead -/
theorem bits_Reader_ahead.calls {S0 : Nat → Prop} {w0 : World} {g_r_0 : Nat} {A_r_0_data : Option Addr} {c_r_0_data : Nat} {r_0_data : List Int} {r_0_at : Int} {n_1 : Int} {r : Int} (HS0 : Hp S0 w0 w0 [.rd (some ⟨g_r_0, 0, none⟩) [.slice A_r_0_data r_0_data.length c_r_0_data, .int .i64 r_0_at], .rd A_r_0_data (rowC (Eint .u8) r_0_data)]) (h : bits_Reader_ahead.f r_0_data r_0_at n_1 = some r) :
    Calls Try.prog 57 ([.pointer (some ⟨g_r_0, 0, none⟩), .int .i64 n_1] : List Value).toArray w0 (fun e w => e = .returned (.int .u32 r) ∧ Hp S0 w0 w []) := by
  have H : (((bits_Reader_ahead.l1 FU 0 0 r_0_at r_0_data n_1).bind fun v_72 => some (IntKind.u32.wrap v_72)) : Option (Int)) = some r := h
  refine calls_start Try.func57 rfl rfl ?_
  refine L_seq ?_
  refine L_region ?_
  refine F_val rfl rfl rfl (O_assign rfl rfl) ?_
  refine F_nil ?_
  refine L_seq ?_
  refine L_region ?_
  refine F_val rfl rfl rfl (O_assign rfl rfl) ?_
  refine F_nil ?_
  refine L_seq ?_
  refine L_region ?_
  refine F_val rfl rfl rfl (O_assign rfl rfl) ?_
  refine F_nil ?_
  refine L_seq ?_
  refine L_seq ?_
  refine L_region ?_
  refine F_val rfl rfl rfl (O_move rfl rfl) ?_
  refine F_val rfl rfl rfl (O_nilCheck rfl rfl) ?_
  refine F_val rfl rfl rfl (O_fieldB rfl rfl field102_1) ?_
  refine F_val rfl rfl rfl (O_loadB rfl rfl flat3 (HS0.cells_rd (i := 0) rfl) rfl) ?_
  refine F_val rfl rfl rfl (O_assign rfl rfl) ?_
  refine F_nil ?_
  obtain ⟨yj1, Hyj1, H⟩ := of_bind H
  refine L_join (fun a w => ∃ (v_72 : Int), yj1 = v_72 ∧ Is Try.f57.ntmps a [(5, .int .u64 v_72)] ∧ Hp S0 w0 w [.rd (some ⟨g_r_0, 0, none⟩) [.slice A_r_0_data r_0_data.length c_r_0_data, .int .i64 r_0_at], .rd A_r_0_data (rowC (Eint .u8) r_0_data)]) (fun Qj1 hNj1 hOj1 => ?_) (fun a w hR => ?_)
  · skip
    have H := Hyj1
    refine L_blk (fun Qb73 hNb73 hXb73 hOb73 => ?_)
    refine L_lp (fun k a w => ∃ (v_118 : Int), ∃ (got_119 : Int), ∃ (at_120 : Int), Is Try.f57.ntmps a [(0, .pointer (some ⟨g_r_0, 0, none⟩)), (1, .int .i64 n_1), (5, .int .u64 v_118), (6, .int .i64 got_119), (7, .int .i64 at_120)] ∧ Hp S0 w0 w [.rd (some ⟨g_r_0, 0, none⟩) [.slice A_r_0_data r_0_data.length c_r_0_data, .int .i64 r_0_at], .rd A_r_0_data (rowC (Eint .u8) r_0_data)] ∧ bits_Reader_ahead.l1 k v_118 got_119 at_120 r_0_data n_1 = some yj1) FU (fun a ha => ⟨_, _, _, Is.cons ha (Is.cons ha (Is.cons ha (Is.cons ha (Is.cons ha (Is.nil ha) rfl) rfl) rfl) rfl) rfl, HS0.sel [0, 1] rfl, H⟩) (fun kp117 a w121 hI Qp117 hNp117 hOp117 => ?_)
    obtain ⟨v_118, got_119, at_120, ha, HS122, HAp117⟩ := hI
    cases kp117 with
    | zero => cases (show (none : Option _) = some _ from HAp117)
    | succ kp117 =>
      have H := (bits_Reader_ahead.l1.eq_2 ..).symm.trans HAp117
      refine wpLF_app ?_ ha
      refine L_seq ?_
      refine L_seq ?_
      refine L_region ?_
      refine F_val rfl rfl rfl (O_move rfl rfl) ?_
      refine F_val rfl rfl rfl (O_move rfl rfl) ?_
      refine F_val rfl rfl rfl (O_lt rfl rfl rfl) ?_
      refine F_val rfl rfl rfl (O_move rfl rfl) ?_
      refine F_grp 9 [(27, .bool (decide ((got_119 < n_1) ∧ (at_120 < IntKind.i64.wrap (8 * (r_0_data.length : Int)))))), (0, .pointer (some ⟨g_r_0, 0, none⟩)), (1, .int .i64 n_1), (5, .int .u64 v_118), (6, .int .i64 got_119), (7, .int .i64 at_120)] ?_ ?_
      · rcases Decidable.em (got_119 < n_1) with c123 | c123
        · refine F_know (i := 18) rfl (dec_t c123) ?_
          refine F_gval rfl rfl rfl rfl rfl rfl (O_move rfl rfl) ?_
          refine F_gval rfl rfl rfl rfl rfl rfl (O_move rfl rfl) ?_
          refine F_gval rfl rfl rfl rfl rfl rfl (O_nilCheck rfl rfl) ?_
          refine F_gval rfl rfl rfl rfl rfl rfl (O_fieldB rfl rfl field102_0) ?_
          refine F_gval rfl rfl rfl rfl rfl rfl (O_loadB rfl rfl flat35 (HS122.cells_rd (i := 0) rfl) rfl) ?_
          refine F_gval rfl rfl rfl rfl rfl rfl (O_len rfl rfl Try.underlying35) ?_
          refine F_gval rfl rfl rfl rfl rfl rfl (O_mul rfl rfl rfl) ?_
          refine F_gval rfl rfl rfl rfl rfl rfl (O_lt rfl rfl rfl) ?_
          refine F_val rfl rfl rfl (O_pickT rfl rfl rfl) ?_
          refine F_know (i := 27) rfl (dec_and_t (q := at_120 < IntKind.i64.wrap (8 * (r_0_data.length : Int))) c123) ?_
          exact F_grpE (fun a ha => Is.cons ha (Is.cons ha (Is.cons ha (Is.cons ha (Is.cons ha (Is.cons ha (Is.nil ha) rfl) rfl) rfl) rfl) rfl) rfl)
        · refine F_know (i := 18) rfl (dec_f c123) ?_
          refine F_gskip rfl rfl rfl rfl rfl rfl rfl ?_
          refine F_gskip rfl rfl rfl rfl rfl rfl rfl ?_
          refine F_gskip rfl rfl rfl rfl rfl rfl rfl ?_
          refine F_gskip rfl rfl rfl rfl rfl rfl rfl ?_
          refine F_gskip rfl rfl rfl rfl rfl rfl rfl ?_
          refine F_gskip rfl rfl rfl rfl rfl rfl rfl ?_
          refine F_gskip rfl rfl rfl rfl rfl rfl rfl ?_
          refine F_gskip rfl rfl rfl rfl rfl rfl rfl ?_
          refine F_val rfl rfl rfl (O_pickF rfl rfl rfl) ?_
          refine F_know (i := 27) rfl (dec_and_f (q := at_120 < IntKind.i64.wrap (8 * (r_0_data.length : Int))) c123) ?_
          exact F_grpE (fun a ha => Is.cons ha (Is.cons ha (Is.cons ha (Is.cons ha (Is.cons ha (Is.cons ha (Is.nil ha) rfl) rfl) rfl) rfl) rfl) rfl)
      · skip
        refine F_nil ?_
        refine L_condP rfl (fun c124 => ?_) (fun c124 => ?_)
        · have H := of_pos H c124
          refine L_skip ?_
          refine L_blk (fun Q125 hN125 hX125 hO125 => ?_)
          refine L_seq ?_
          refine L_region ?_
          refine F_val rfl rfl rfl (O_move rfl rfl) ?_
          refine F_val rfl rfl rfl (O_rem rfl rfl rfl (by decide)) ?_
          obtain ⟨x126, h127, H⟩ := of_bnd H
          refine F_val rfl rfl rfl (O_assign' rfl rfl (congrArg (Value.int .i64) h127)) ?_
          refine F_nil ?_
          refine L_seq ?_
          refine L_region ?_
          refine F_val rfl rfl rfl (O_move rfl rfl) ?_
          refine F_val rfl rfl rfl (O_sub rfl rfl rfl) ?_
          refine F_val rfl rfl rfl (O_move rfl rfl) ?_
          refine F_val rfl rfl rfl (O_move rfl rfl) ?_
          refine F_val rfl rfl rfl (O_sub rfl rfl rfl) ?_
          refine F_val rfl rfl rfl (O_min rfl rfl rfl) ?_
          obtain ⟨x128, h129, H⟩ := of_bnd H
          refine F_val rfl rfl rfl (O_assign' rfl rfl (congrArg (Value.int .i64) h129)) ?_
          refine F_nil ?_
          refine L_seq ?_
          refine L_region ?_
          refine F_val rfl rfl rfl (O_move rfl rfl) ?_
          refine F_val rfl rfl rfl (O_nilCheck rfl rfl) ?_
          refine F_val rfl rfl rfl (O_fieldB rfl rfl field102_0) ?_
          refine F_val rfl rfl rfl (O_loadB rfl rfl flat35 (HS122.cells_rd (i := 0) rfl) rfl) ?_
          refine F_val rfl rfl rfl (O_move rfl rfl) ?_
          refine F_val rfl rfl rfl (O_quo rfl rfl rfl (by decide)) ?_
          obtain ⟨⟨g130, g131⟩, H⟩ := of_gd H
          refine F_val rfl rfl rfl (O_idx rfl rfl rfl Try.underlying35 size5 g130 g131 (Cells.isA (HS122.cells_rd (i := 1) rfl) (rowC_ne (E := (Eint .u8)) g130 g131 (by decide)))) ?_
          refine F_val rfl rfl rfl (O_loadC rfl rfl flat5 (HS122.cells_rd (i := 1) rfl) (int_cell g130 g131)) ?_
          refine F_val rfl rfl rfl (O_move rfl rfl) ?_
          refine F_val rfl rfl rfl (O_conv rfl rfl ⟨_, Try.underlying3⟩ Try.underlying75) ?_
          obtain ⟨g132, H⟩ := of_gd H
          refine F_val rfl rfl rfl (O_shr rfl rfl rfl g132) ?_
          refine F_val rfl rfl rfl (O_conv rfl rfl ⟨_, Try.underlying5⟩ Try.underlying87) ?_
          refine F_val rfl rfl rfl (O_move rfl rfl) ?_
          refine F_val rfl rfl rfl (O_conv rfl rfl ⟨_, Try.underlying3⟩ Try.underlying75) ?_
          obtain ⟨g133, H⟩ := of_gd H
          refine F_val rfl rfl rfl (O_shl rfl rfl rfl g133) ?_
          refine F_val rfl rfl rfl (O_sub rfl rfl rfl) ?_
          refine F_val rfl rfl rfl (O_and rfl rfl rfl) ?_
          obtain ⟨x134, h135, H⟩ := of_bnd H
          refine F_val rfl rfl rfl (O_assign' rfl rfl (congrArg (Value.int .u64) h135)) ?_
          refine F_nil ?_
          refine L_seq ?_
          refine L_region ?_
          refine F_val rfl rfl rfl (O_move rfl rfl) ?_
          refine F_val rfl rfl rfl (O_move rfl rfl) ?_
          refine F_val rfl rfl rfl (O_move rfl rfl) ?_
          refine F_val rfl rfl rfl (O_conv rfl rfl ⟨_, Try.underlying3⟩ Try.underlying75) ?_
          obtain ⟨g136, H⟩ := of_gd H
          refine F_val rfl rfl rfl (O_shl rfl rfl rfl g136) ?_
          refine F_val rfl rfl rfl (O_or rfl rfl rfl) ?_
          obtain ⟨x137, h138, H⟩ := of_bnd H
          refine F_val rfl rfl rfl (O_assign' rfl rfl (congrArg (Value.int .u64) h138)) ?_
          refine F_nil ?_
          refine L_seq ?_
          refine L_region ?_
          refine F_val rfl rfl rfl (O_move rfl rfl) ?_
          refine F_val rfl rfl rfl (O_move rfl rfl) ?_
          refine F_val rfl rfl rfl (O_add rfl rfl rfl) ?_
          obtain ⟨x139, h140, H⟩ := of_bnd H
          refine F_val rfl rfl rfl (O_assign' rfl rfl (congrArg (Value.int .i64) h140)) ?_
          refine F_nil ?_
          refine L_region ?_
          refine F_val rfl rfl rfl (O_move rfl rfl) ?_
          refine F_val rfl rfl rfl (O_move rfl rfl) ?_
          refine F_val rfl rfl rfl (O_add rfl rfl rfl) ?_
          obtain ⟨x141, h142, H⟩ := of_bnd H
          refine F_val rfl rfl rfl (O_assign' rfl rfl (congrArg (Value.int .i64) h142)) ?_
          refine F_nil ?_
          refine L_endB hN125 ?_
          refine L_nil (fun a ha => hNp117 _ a _ (Nat.lt_succ_self _) ⟨_, _, _, Is.cons ha (Is.cons ha (Is.cons ha (Is.cons ha (Is.cons ha (Is.nil ha) rfl) rfl) rfl) rfl) rfl, HS122.sel [0, 1] rfl, H⟩)
        · have H := of_neg H c124
          refine L_exitB (fun a w h => hOp117 (.exit 0) a w rfl (hXb73 a w h)) ?_
          refine L_nil (fun a ha => hNj1 a _ ⟨_, (Option.some.inj H).symm, Is.cons ha (Is.nil ha) rfl, HS122.sel [0, 1] rfl⟩)
  · obtain ⟨v_72, ej, ha, HS144⟩ := hR
    obtain rfl := ej.symm
    refine wpLF_app ?_ ha
    refine L_seq ?_
    refine L_region ?_
    refine F_val rfl rfl rfl (O_move rfl rfl) ?_
    refine F_val rfl rfl rfl (O_conv rfl rfl ⟨_, Try.underlying87⟩ Try.underlying22) ?_
    refine F_val rfl rfl rfl (O_assign rfl rfl) ?_
    refine F_nil ?_
    refine L_ret (fun a ha => (post_ret1 ha rfl rfl ?_))
    obtain rfl := Option.some.inj H
    exact ⟨rfl, HS144.sel [] rfl⟩

/-! function 30: (*valise/bits.Reader).Left -/
theorem bits_Reader_Left.calls {S0 : Nat → Prop} {w0 : World} {g_r_0 : Nat} {A_r_0_data : Option Addr} {c_r_0_data : Nat} {r_0_data : List Int} {r_0_at : Int} {r : Int} (HS0 : Hp S0 w0 w0 [.rd (some ⟨g_r_0, 0, none⟩) [.slice A_r_0_data r_0_data.length c_r_0_data, .int .i64 r_0_at], .rd A_r_0_data (rowC (Eint .u8) r_0_data)]) (h : bits_Reader_Left.f r_0_data r_0_at = some r) :
    Calls Try.prog 30 ([.pointer (some ⟨g_r_0, 0, none⟩)] : List Value).toArray w0 (fun e w => e = .returned (.int .i64 r) ∧ Hp S0 w0 w []) := by
  have H : ((some (IntKind.i64.wrap ((IntKind.i64.wrap (8 * (r_0_data.length : Int))) - r_0_at))) : Option (Int)) = some r := h
  refine calls_start Try.func30 rfl rfl ?_
  refine L_seq ?_
  refine L_region ?_
  refine F_val rfl rfl rfl (O_assign rfl rfl) ?_
  refine F_nil ?_
  refine L_seq ?_
  refine L_seq ?_
  refine L_region ?_
  refine F_val rfl rfl rfl (O_move rfl rfl) ?_
  refine F_val rfl rfl rfl (O_peq rfl rfl rfl Try.underlying42) ?_
  refine F_nil ?_
  refine L_cond rfl (fun hx => by cases hx) (fun _ => ?_)
  refine L_skip ?_
  refine L_seq ?_
  refine L_quiet mix (by kernel_rfl) ?_
  refine Q_val rfl rfl rfl (fun wq hq => O_move rfl rfl) ?_
  refine Q_val rfl rfl rfl (fun wq hq => O_nilCheck rfl rfl) ?_
  refine Q_val rfl rfl rfl (fun wq hq => O_fieldB rfl rfl field102_0) ?_
  refine Q_val rfl rfl rfl (fun wq hq => O_loadB rfl rfl flat35 ((HS0.keep hq).cells_rd (i := 0) rfl) rfl) ?_
  refine Q_val rfl rfl rfl (fun wq hq => O_len rfl rfl Try.underlying35) ?_
  refine Q_val rfl rfl rfl (fun wq hq => O_mul rfl rfl rfl) ?_
  refine Q_val rfl rfl rfl (fun wq hq => O_move rfl rfl) ?_
  refine Q_val rfl rfl rfl (fun wq hq => O_nilCheck rfl rfl) ?_
  refine Q_val rfl rfl rfl (fun wq hq => O_fieldB rfl rfl field102_1) ?_
  refine Q_val rfl rfl rfl (fun wq hq => O_loadB rfl rfl flat3 ((HS0.keep hq).cells_rd (i := 0) rfl) rfl) ?_
  refine Q_val rfl rfl rfl (fun wq hq => O_sub rfl rfl rfl) ?_
  refine Q_val rfl rfl rfl (fun wq hq => O_assign rfl rfl) ?_
  refine Q_nil (fun w1 hw2 => ?_)
  have HS3 := HS0.keep hw2
  refine L_ret (fun a ha => (post_ret1 ha rfl rfl ?_))
  obtain rfl := Option.some.inj H
  exact ⟨rfl, HS3.sel [] rfl⟩

/-! function 28: (*valise/bits.Reader).Peek -/
theorem bits_Reader_Peek.calls {S0 : Nat → Prop} {w0 : World} {g_r_0 : Nat} {A_r_0_data : Option Addr} {c_r_0_data : Nat} {r_0_data : List Int} {r_0_at : Int} {n_1 : Int} {r : Int × Int} (HS0 : Hp S0 w0 w0 [.rd (some ⟨g_r_0, 0, none⟩) [.slice A_r_0_data r_0_data.length c_r_0_data, .int .i64 r_0_at], .rd A_r_0_data (rowC (Eint .u8) r_0_data)]) (h : bits_Reader_Peek.f r_0_data r_0_at n_1 = some r) :
    Calls Try.prog 28 ([.pointer (some ⟨g_r_0, 0, none⟩), .int .i64 n_1] : List Value).toArray w0 (fun e w => e = .returned (.tuple #[.int .u32 r.1, .int .i64 r.2]) ∧ Hp S0 w0 w []) := by
  have H : ((if (n_1 < 0) ∨ (32 < n_1) then (some (0, 0)) else ((bits_Reader_ahead.f r_0_data r_0_at n_1).bind fun z7 => (bits_Reader_Left.f r_0_data r_0_at).bind fun z14 => some (z7, min n_1 z14))) : Option (Int × Int)) = some r := h
  refine calls_start Try.func28 rfl rfl ?_
  refine L_seq ?_
  refine L_region ?_
  refine F_val rfl rfl rfl (O_assign rfl rfl) ?_
  refine F_val rfl rfl rfl (O_assign rfl rfl) ?_
  refine F_nil ?_
  refine L_seq ?_
  refine L_seq ?_
  refine L_region ?_
  refine F_val rfl rfl rfl (O_move rfl rfl) ?_
  refine F_val rfl rfl rfl (O_peq rfl rfl rfl Try.underlying42) ?_
  refine F_val rfl rfl rfl (O_move rfl rfl) ?_
  refine F_gval rfl rfl rfl rfl rfl rfl (O_move rfl rfl) ?_
  refine F_gval rfl rfl rfl rfl rfl rfl (O_lt rfl rfl rfl) ?_
  refine F_val rfl rfl rfl (O_pickF rfl rfl rfl) ?_
  refine F_val rfl rfl rfl (O_move rfl rfl) ?_
  refine F_grp 3 [(15, .bool (decide ((n_1 < 0) ∨ (32 < n_1)))), (0, .pointer (some ⟨g_r_0, 0, none⟩)), (1, .int .i64 n_1)] ?_ ?_
  · rcases Decidable.em (n_1 < 0) with c1 | c1
    · refine F_know (i := 12) rfl (dec_t c1) ?_
      refine F_gskip rfl rfl rfl rfl rfl rfl rfl ?_
      refine F_gskip rfl rfl rfl rfl rfl rfl rfl ?_
      refine F_val rfl rfl rfl (O_pickT rfl rfl rfl) ?_
      refine F_know (i := 15) rfl (dec_or_t (q := 32 < n_1) c1) ?_
      exact F_grpE (fun a ha => Is.cons ha (Is.cons ha (Is.cons ha (Is.nil ha) rfl) rfl) rfl)
    · refine F_know (i := 12) rfl (dec_f c1) ?_
      refine F_gval rfl rfl rfl rfl rfl rfl (O_move rfl rfl) ?_
      refine F_gval rfl rfl rfl rfl rfl rfl (O_gt rfl rfl rfl) ?_
      refine F_val rfl rfl rfl (O_pickF rfl rfl rfl) ?_
      refine F_know (i := 15) rfl (dec_or_f (q := 32 < n_1) c1) ?_
      exact F_grpE (fun a ha => Is.cons ha (Is.cons ha (Is.cons ha (Is.nil ha) rfl) rfl) rfl)
  · skip
    refine F_nil ?_
    refine L_condP rfl (fun c2 => ?_) (fun c2 => ?_)
    · have H := of_pos H c2
      refine L_seq ?_
      refine L_region ?_
      refine F_val rfl rfl rfl (O_assign rfl rfl) ?_
      refine F_val rfl rfl rfl (O_assign rfl rfl) ?_
      refine F_nil ?_
      refine L_ret (fun a ha => (post_ret2 ha rfl rfl rfl ?_))
      obtain rfl := Option.some.inj H
      exact ⟨rfl, HS0.sel [] rfl⟩
    · have H := of_neg H c2
      refine L_skip ?_
      refine L_seq ?_
      refine L_region ?_
      refine F_val rfl rfl rfl (O_move rfl rfl) ?_
      refine F_val rfl rfl rfl (O_move rfl rfl) ?_
      obtain ⟨z7, h6, H⟩ := of_bind H
      refine F_call (xs := [.tmp 16, .tmp 17]) rfl rfl rfl rfl Try.func57 nm57 rfl rfl ((bits_Reader_ahead.calls (HS0.give [] rfl (Lent.rd HS0 (Lent.rd HS0 (Lent.nil) (i := 1) rfl ((HS0.cells_rd (i := 1) rfl).self)) (i := 0) rfl (HS0.cells_rd (i := 0) rfl).self)) h6).mono (fun e w hc => ?_))
      obtain ⟨rfl, HSo⟩ := hc
      refine ⟨.int .u32 z7, rfl, ?_⟩
      have HS9 : Hp S0 w0 w [.rd (some ⟨g_r_0, 0, none⟩) [.slice A_r_0_data r_0_data.length c_r_0_data, .int .i64 r_0_at], .rd A_r_0_data (rowC (Eint .u8) r_0_data)] := (HS0.back [] HSo rfl).sel [0, 1] rfl
      refine F_val rfl rfl rfl (O_move rfl rfl) ?_
      refine F_val rfl rfl rfl (O_move rfl rfl) ?_
      obtain ⟨z14, h13, H⟩ := of_bind H
      refine F_call (xs := [.tmp 20]) rfl rfl rfl rfl Try.func30 nm30 rfl rfl ((bits_Reader_Left.calls (HS9.give [] rfl (Lent.rd HS9 (Lent.rd HS9 (Lent.nil) (i := 1) rfl ((HS9.cells_rd (i := 1) rfl).self)) (i := 0) rfl (HS9.cells_rd (i := 0) rfl).self)) h13).mono (fun e w hc => ?_))
      obtain ⟨rfl, HSo⟩ := hc
      refine ⟨.int .i64 z14, rfl, ?_⟩
      have HS16 : Hp S0 w0 w [.rd (some ⟨g_r_0, 0, none⟩) [.slice A_r_0_data r_0_data.length c_r_0_data, .int .i64 r_0_at], .rd A_r_0_data (rowC (Eint .u8) r_0_data)] := (HS9.back [] HSo rfl).sel [0, 1] rfl
      refine F_val rfl rfl rfl (O_min rfl rfl rfl) ?_
      refine F_val rfl rfl rfl (O_assign rfl rfl) ?_
      refine F_val rfl rfl rfl (O_assign rfl rfl) ?_
      refine F_nil ?_
      refine L_ret (fun a ha => (post_ret2 ha rfl rfl rfl ?_))
      obtain rfl := Option.some.inj H
      exact ⟨rfl, HS16.sel [] rfl⟩

/-! function 20: valise/valiselaw3.low -/
theorem valiselaw3_low.calls {S0 : Nat → Prop} {w0 : World} {v_0 : Int} {n_1 : Int} {r : Int} (HS0 : Hp S0 w0 w0 []) (h : valiselaw3_low.f v_0 n_1 = some r) :
    Calls Try.prog 20 ([.int .u32 v_0, .int .i64 n_1] : List Value).toArray w0 (fun e w => e = .returned (.int .u32 r) ∧ Hp S0 w0 w []) := by
  have H : ((gd (¬ (IntKind.u64.wrap n_1) < 0) (some (IntKind.u32.wrap (band .u64 (IntKind.u64.wrap v_0) (IntKind.u64.wrap ((shl .u64 1 (IntKind.u64.wrap n_1)) - 1)))))) : Option (Int)) = some r := h
  refine calls_start Try.func20 rfl rfl ?_
  refine L_seq ?_
  refine L_region ?_
  refine F_val rfl rfl rfl (O_assign rfl rfl) ?_
  refine F_nil ?_
  refine L_seq ?_
  refine L_region ?_
  refine F_val rfl rfl rfl (O_move rfl rfl) ?_
  refine F_val rfl rfl rfl (O_conv rfl rfl ⟨_, Try.underlying22⟩ Try.underlying87) ?_
  refine F_val rfl rfl rfl (O_move rfl rfl) ?_
  refine F_val rfl rfl rfl (O_conv rfl rfl ⟨_, Try.underlying3⟩ Try.underlying75) ?_
  obtain ⟨g1, H⟩ := of_gd H
  refine F_val rfl rfl rfl (O_shl rfl rfl rfl g1) ?_
  refine F_val rfl rfl rfl (O_sub rfl rfl rfl) ?_
  refine F_val rfl rfl rfl (O_and rfl rfl rfl) ?_
  refine F_val rfl rfl rfl (O_conv rfl rfl ⟨_, Try.underlying87⟩ Try.underlying22) ?_
  refine F_val rfl rfl rfl (O_assign rfl rfl) ?_
  refine F_nil ?_
  refine L_ret (fun a ha => (post_ret1 ha rfl rfl ?_))
  obtain rfl := Option.some.inj H
  exact ⟨rfl, HS0.sel [] rfl⟩

/-! function 29: (*valise/bits.Reader).At -/
theorem bits_Reader_At.calls {S0 : Nat → Prop} {w0 : World} {g_r_0 : Nat} {A_r_0_data : Option Addr} {c_r_0_data : Nat} {r_0_data : List Int} {r_0_at : Int} {r : Int} (HS0 : Hp S0 w0 w0 [.rd (some ⟨g_r_0, 0, none⟩) [.slice A_r_0_data r_0_data.length c_r_0_data, .int .i64 r_0_at], .rd A_r_0_data (rowC (Eint .u8) r_0_data)]) (h : bits_Reader_At.f r_0_data r_0_at = some r) :
    Calls Try.prog 29 ([.pointer (some ⟨g_r_0, 0, none⟩)] : List Value).toArray w0 (fun e w => e = .returned (.int .i64 r) ∧ Hp S0 w0 w []) := by
  have H : ((some r_0_at) : Option (Int)) = some r := h
  refine calls_start Try.func29 rfl rfl ?_
  refine L_seq ?_
  refine L_region ?_
  refine F_val rfl rfl rfl (O_assign rfl rfl) ?_
  refine F_nil ?_
  refine L_seq ?_
  refine L_seq ?_
  refine L_region ?_
  refine F_val rfl rfl rfl (O_move rfl rfl) ?_
  refine F_val rfl rfl rfl (O_peq rfl rfl rfl Try.underlying42) ?_
  refine F_nil ?_
  refine L_cond rfl (fun hx => by cases hx) (fun _ => ?_)
  refine L_skip ?_
  refine L_seq ?_
  refine L_region ?_
  refine F_val rfl rfl rfl (O_move rfl rfl) ?_
  refine F_val rfl rfl rfl (O_nilCheck rfl rfl) ?_
  refine F_val rfl rfl rfl (O_fieldB rfl rfl field102_1) ?_
  refine F_val rfl rfl rfl (O_loadB rfl rfl flat3 (HS0.cells_rd (i := 0) rfl) rfl) ?_
  refine F_val rfl rfl rfl (O_assign rfl rfl) ?_
  refine F_nil ?_
  refine L_ret (fun a ha => (post_ret1 ha rfl rfl ?_))
  obtain rfl := Option.some.inj H
  exact ⟨rfl, HS0.sel [] rfl⟩

/-! function 31: (*valise/bits.Reader).Take -/
theorem bits_Reader_Take.calls {S0 : Nat → Prop} {w0 : World} {g_r_0 : Nat} {A_r_0_data : Option Addr} {c_r_0_data : Nat} {r_0_data : List Int} {r_0_at : Int} {n_1 : Int} {r : Int × Int × List Int × Int} (HS0 : Hp S0 w0 w0 [.box g_r_0 [.slice A_r_0_data r_0_data.length c_r_0_data, .int .i64 r_0_at] 102, .own A_r_0_data c_r_0_data (rowC (Eint .u8) r_0_data) 5 (Eint .u8).sz]) (h : bits_Reader_Take.f r_0_data r_0_at n_1 = some r) :
    Calls Try.prog 31 ([.pointer (some ⟨g_r_0, 0, none⟩), .int .i64 n_1] : List Value).toArray w0 (fun e w => ∃ (A_r_0_data' : Option Addr), ∃ (c_r_0_data' : Nat), e = .returned (.tuple #[.int .u32 r.1, .int .i64 r.2.1]) ∧ Hp S0 w0 w [.box g_r_0 [.slice A_r_0_data' r.2.2.1.length c_r_0_data', .int .i64 r.2.2.2] 102, .own A_r_0_data' c_r_0_data' (rowC (Eint .u8) r.2.2.1) 5 (Eint .u8).sz]) := by
  have H : ((if (n_1 < 0) ∨ (32 < n_1) then (some (0, 1, r_0_data, r_0_at)) else ((bits_Reader_Left.f r_0_data r_0_at).bind fun z7 => if z7 < n_1 then (some (0, 30, r_0_data, r_0_at)) else ((bits_Reader_ahead.f r_0_data r_0_at n_1).bind fun z15 => some (z15, 0, r_0_data, IntKind.i64.wrap (r_0_at + n_1))))) : Option (Int × Int × List Int × Int)) = some r := h
  refine calls_start Try.func31 rfl rfl ?_
  refine L_seq ?_
  refine L_region ?_
  refine F_val rfl rfl rfl (O_assign rfl rfl) ?_
  refine F_val rfl rfl rfl (O_assign rfl rfl) ?_
  refine F_nil ?_
  refine L_seq ?_
  refine L_seq ?_
  refine L_region ?_
  refine F_val rfl rfl rfl (O_move rfl rfl) ?_
  refine F_val rfl rfl rfl (O_peq rfl rfl rfl Try.underlying42) ?_
  refine F_val rfl rfl rfl (O_move rfl rfl) ?_
  refine F_gval rfl rfl rfl rfl rfl rfl (O_move rfl rfl) ?_
  refine F_gval rfl rfl rfl rfl rfl rfl (O_lt rfl rfl rfl) ?_
  refine F_val rfl rfl rfl (O_pickF rfl rfl rfl) ?_
  refine F_val rfl rfl rfl (O_move rfl rfl) ?_
  refine F_grp 3 [(16, .bool (decide ((n_1 < 0) ∨ (32 < n_1)))), (0, .pointer (some ⟨g_r_0, 0, none⟩)), (1, .int .i64 n_1)] ?_ ?_
  · rcases Decidable.em (n_1 < 0) with c1 | c1
    · refine F_know (i := 13) rfl (dec_t c1) ?_
      refine F_gskip rfl rfl rfl rfl rfl rfl rfl ?_
      refine F_gskip rfl rfl rfl rfl rfl rfl rfl ?_
      refine F_val rfl rfl rfl (O_pickT rfl rfl rfl) ?_
      refine F_know (i := 16) rfl (dec_or_t (q := 32 < n_1) c1) ?_
      exact F_grpE (fun a ha => Is.cons ha (Is.cons ha (Is.cons ha (Is.nil ha) rfl) rfl) rfl)
    · refine F_know (i := 13) rfl (dec_f c1) ?_
      refine F_gval rfl rfl rfl rfl rfl rfl (O_move rfl rfl) ?_
      refine F_gval rfl rfl rfl rfl rfl rfl (O_gt rfl rfl rfl) ?_
      refine F_val rfl rfl rfl (O_pickF rfl rfl rfl) ?_
      refine F_know (i := 16) rfl (dec_or_f (q := 32 < n_1) c1) ?_
      exact F_grpE (fun a ha => Is.cons ha (Is.cons ha (Is.cons ha (Is.nil ha) rfl) rfl) rfl)
  · skip
    refine F_nil ?_
    refine L_condP rfl (fun c2 => ?_) (fun c2 => ?_)
    · have H := of_pos H c2
      refine L_seq ?_
      refine L_region ?_
      refine F_val rfl rfl rfl (O_assign rfl rfl) ?_
      refine F_val rfl rfl rfl (O_assign rfl rfl) ?_
      refine F_nil ?_
      refine L_ret (fun a ha => (post_ret2 ha rfl rfl rfl ?_))
      obtain rfl := Option.some.inj H
      exact ⟨_, _, rfl, HS0.sel [0, 1] rfl⟩
    · have H := of_neg H c2
      refine L_skip ?_
      refine L_seq ?_
      refine L_seq ?_
      refine L_region ?_
      refine F_val rfl rfl rfl (O_move rfl rfl) ?_
      refine F_val rfl rfl rfl (O_move rfl rfl) ?_
      obtain ⟨z7, h6, H⟩ := of_bind H
      refine F_call (xs := [.tmp 18]) rfl rfl rfl rfl Try.func30 nm30 rfl rfl ((bits_Reader_Left.calls (HS0.give [] rfl (Lent.box HS0 (Lent.own HS0 (Lent.nil) (i := 1) rfl rfl ((HS0.cells_own (i := 1) rfl).self)) (i := 0) rfl rfl (HS0.cells_box (i := 0) rfl).self)) h6).mono (fun e w hc => ?_))
      obtain ⟨rfl, HSo⟩ := hc
      refine ⟨.int .i64 z7, rfl, ?_⟩
      have HS9 : Hp S0 w0 w [.box g_r_0 [.slice A_r_0_data r_0_data.length c_r_0_data, .int .i64 r_0_at] 102, .own A_r_0_data c_r_0_data (rowC (Eint .u8) r_0_data) 5 (Eint .u8).sz] := (HS0.back [] HSo rfl).sel [0, 1] rfl
      refine F_val rfl rfl rfl (O_gt rfl rfl rfl) ?_
      refine F_nil ?_
      refine L_condP rfl (fun c10 => ?_) (fun c10 => ?_)
      · have H := of_pos H c10
        refine L_seq ?_
        refine L_region ?_
        refine F_val rfl rfl rfl (O_assign rfl rfl) ?_
        refine F_val rfl rfl rfl (O_assign rfl rfl) ?_
        refine F_nil ?_
        refine L_ret (fun a ha => (post_ret2 ha rfl rfl rfl ?_))
        obtain rfl := Option.some.inj H
        exact ⟨_, _, rfl, HS9.sel [0, 1] rfl⟩
      · have H := of_neg H c10
        refine L_skip ?_
        refine L_seq ?_
        refine L_region ?_
        refine F_val rfl rfl rfl (O_move rfl rfl) ?_
        refine F_val rfl rfl rfl (O_move rfl rfl) ?_
        obtain ⟨z15, h14, H⟩ := of_bind H
        refine F_call (xs := [.tmp 21, .tmp 22]) rfl rfl rfl rfl Try.func57 nm57 rfl rfl ((bits_Reader_ahead.calls (HS9.give [] rfl (Lent.box HS9 (Lent.own HS9 (Lent.nil) (i := 1) rfl rfl ((HS9.cells_own (i := 1) rfl).self)) (i := 0) rfl rfl (HS9.cells_box (i := 0) rfl).self)) h14).mono (fun e w hc => ?_))
        obtain ⟨rfl, HSo⟩ := hc
        refine ⟨.int .u32 z15, rfl, ?_⟩
        have HS17 : Hp S0 w0 w [.box g_r_0 [.slice A_r_0_data r_0_data.length c_r_0_data, .int .i64 r_0_at] 102, .own A_r_0_data c_r_0_data (rowC (Eint .u8) r_0_data) 5 (Eint .u8).sz] := (HS9.back [] HSo rfl).sel [0, 1] rfl
        refine F_val rfl rfl rfl (O_assign rfl rfl) ?_
        refine F_nil ?_
        refine L_seq ?_
        refine L_region ?_
        refine F_val rfl rfl rfl (O_move rfl rfl) ?_
        refine F_val rfl rfl rfl (O_nilCheck rfl rfl) ?_
        refine F_val rfl rfl rfl (O_fieldB rfl rfl field102_1) ?_
        refine F_val rfl rfl rfl (O_loadB rfl rfl flat3 (HS17.cells_box (i := 0) rfl) rfl) ?_
        refine F_val rfl rfl rfl (O_move rfl rfl) ?_
        refine F_val rfl rfl rfl (O_add rfl rfl rfl) ?_
        refine F_val rfl rfl rfl (O_nilCheck rfl rfl) ?_
        refine F_val rfl rfl rfl (O_fieldB rfl rfl field102_1) ?_
        refine F_stB 0 ([.slice A_r_0_data r_0_data.length c_r_0_data, .int .i64 (IntKind.i64.wrap (r_0_at + n_1))]) rfl rfl rfl rfl rfl size3 HS17 rfl rfl rfl rfl rfl (fun w18 HS19 => ?_)
        have HS19 : Hp S0 w0 w18 [.box g_r_0 [.slice A_r_0_data r_0_data.length c_r_0_data, .int .i64 (IntKind.i64.wrap (r_0_at + n_1))] 102, .own A_r_0_data c_r_0_data (rowC (Eint .u8) r_0_data) 5 (Eint .u8).sz] := HS19
        refine F_nil ?_
        refine L_seq ?_
        refine L_region ?_
        refine F_val rfl rfl rfl (O_move rfl rfl) ?_
        refine F_val rfl rfl rfl (O_assign rfl rfl) ?_
        refine F_val rfl rfl rfl (O_assign rfl rfl) ?_
        refine F_nil ?_
        refine L_ret (fun a ha => (post_ret2 ha rfl rfl rfl ?_))
        obtain rfl := Option.some.inj H
        exact ⟨_, _, rfl, HS19.sel [0, 1] rfl⟩

/-! function 32: (*valise/bits.Reader).Skip -/
theorem bits_Reader_Skip.calls {S0 : Nat → Prop} {w0 : World} {g_r_0 : Nat} {A_r_0_data : Option Addr} {c_r_0_data : Nat} {r_0_data : List Int} {r_0_at : Int} {n_1 : Int} {r : Int × List Int × Int} (HS0 : Hp S0 w0 w0 [.box g_r_0 [.slice A_r_0_data r_0_data.length c_r_0_data, .int .i64 r_0_at] 102, .own A_r_0_data c_r_0_data (rowC (Eint .u8) r_0_data) 5 (Eint .u8).sz]) (h : bits_Reader_Skip.f r_0_data r_0_at n_1 = some r) :
    Calls Try.prog 32 ([.pointer (some ⟨g_r_0, 0, none⟩), .int .i64 n_1] : List Value).toArray w0 (fun e w => ∃ (A_r_0_data' : Option Addr), ∃ (c_r_0_data' : Nat), e = .returned (.int .i64 r.1) ∧ Hp S0 w0 w [.box g_r_0 [.slice A_r_0_data' r.2.1.length c_r_0_data', .int .i64 r.2.2] 102, .own A_r_0_data' c_r_0_data' (rowC (Eint .u8) r.2.1) 5 (Eint .u8).sz]) := by
  have H : ((if n_1 < 0 then (some (1, r_0_data, r_0_at)) else ((bits_Reader_Left.f r_0_data r_0_at).bind fun z6 => if z6 < n_1 then (some (30, r_0_data, r_0_at)) else (some (0, r_0_data, IntKind.i64.wrap (r_0_at + n_1))))) : Option (Int × List Int × Int)) = some r := h
  refine calls_start Try.func32 rfl rfl ?_
  refine L_seq ?_
  refine L_region ?_
  refine F_val rfl rfl rfl (O_assign rfl rfl) ?_
  refine F_nil ?_
  refine L_seq ?_
  refine L_seq ?_
  refine L_region ?_
  refine F_val rfl rfl rfl (O_move rfl rfl) ?_
  refine F_val rfl rfl rfl (O_peq rfl rfl rfl Try.underlying42) ?_
  refine F_val rfl rfl rfl (O_move rfl rfl) ?_
  refine F_gval rfl rfl rfl rfl rfl rfl (O_move rfl rfl) ?_
  refine F_gval rfl rfl rfl rfl rfl rfl (O_lt rfl rfl rfl) ?_
  refine F_val rfl rfl rfl (O_pickF rfl rfl rfl) ?_
  refine F_nil ?_
  refine L_condP rfl (fun c1 => ?_) (fun c1 => ?_)
  · have H := of_pos H c1
    refine L_seq ?_
    refine L_region ?_
    refine F_val rfl rfl rfl (O_assign rfl rfl) ?_
    refine F_nil ?_
    refine L_ret (fun a ha => (post_ret1 ha rfl rfl ?_))
    obtain rfl := Option.some.inj H
    exact ⟨_, _, rfl, HS0.sel [0, 1] rfl⟩
  · have H := of_neg H c1
    refine L_skip ?_
    refine L_seq ?_
    refine L_seq ?_
    refine L_region ?_
    refine F_val rfl rfl rfl (O_move rfl rfl) ?_
    refine F_val rfl rfl rfl (O_move rfl rfl) ?_
    obtain ⟨z6, h5, H⟩ := of_bind H
    refine F_call (xs := [.tmp 12]) rfl rfl rfl rfl Try.func30 nm30 rfl rfl ((bits_Reader_Left.calls (HS0.give [] rfl (Lent.box HS0 (Lent.own HS0 (Lent.nil) (i := 1) rfl rfl ((HS0.cells_own (i := 1) rfl).self)) (i := 0) rfl rfl (HS0.cells_box (i := 0) rfl).self)) h5).mono (fun e w hc => ?_))
    obtain ⟨rfl, HSo⟩ := hc
    refine ⟨.int .i64 z6, rfl, ?_⟩
    have HS8 : Hp S0 w0 w [.box g_r_0 [.slice A_r_0_data r_0_data.length c_r_0_data, .int .i64 r_0_at] 102, .own A_r_0_data c_r_0_data (rowC (Eint .u8) r_0_data) 5 (Eint .u8).sz] := (HS0.back [] HSo rfl).sel [0, 1] rfl
    refine F_val rfl rfl rfl (O_gt rfl rfl rfl) ?_
    refine F_nil ?_
    refine L_condP rfl (fun c9 => ?_) (fun c9 => ?_)
    · have H := of_pos H c9
      refine L_seq ?_
      refine L_region ?_
      refine F_val rfl rfl rfl (O_assign rfl rfl) ?_
      refine F_nil ?_
      refine L_ret (fun a ha => (post_ret1 ha rfl rfl ?_))
      obtain rfl := Option.some.inj H
      exact ⟨_, _, rfl, HS8.sel [0, 1] rfl⟩
    · have H := of_neg H c9
      refine L_skip ?_
      refine L_seq ?_
      refine L_region ?_
      refine F_val rfl rfl rfl (O_move rfl rfl) ?_
      refine F_val rfl rfl rfl (O_nilCheck rfl rfl) ?_
      refine F_val rfl rfl rfl (O_fieldB rfl rfl field102_1) ?_
      refine F_val rfl rfl rfl (O_loadB rfl rfl flat3 (HS8.cells_box (i := 0) rfl) rfl) ?_
      refine F_val rfl rfl rfl (O_move rfl rfl) ?_
      refine F_val rfl rfl rfl (O_add rfl rfl rfl) ?_
      refine F_val rfl rfl rfl (O_nilCheck rfl rfl) ?_
      refine F_val rfl rfl rfl (O_fieldB rfl rfl field102_1) ?_
      refine F_stB 0 ([.slice A_r_0_data r_0_data.length c_r_0_data, .int .i64 (IntKind.i64.wrap (r_0_at + n_1))]) rfl rfl rfl rfl rfl size3 HS8 rfl rfl rfl rfl rfl (fun w10 HS11 => ?_)
      have HS11 : Hp S0 w0 w10 [.box g_r_0 [.slice A_r_0_data r_0_data.length c_r_0_data, .int .i64 (IntKind.i64.wrap (r_0_at + n_1))] 102, .own A_r_0_data c_r_0_data (rowC (Eint .u8) r_0_data) 5 (Eint .u8).sz] := HS11
      refine F_nil ?_
      refine L_seq ?_
      refine L_region ?_
      refine F_val rfl rfl rfl (O_assign rfl rfl) ?_
      refine F_nil ?_
      refine L_ret (fun a ha => (post_ret1 ha rfl rfl ?_))
      obtain rfl := Option.some.inj H
      exact ⟨_, _, rfl, HS11.sel [0, 1] rfl⟩

/-! function 5: valise/valiselaw3.BitsPeeks -/
theorem valiselaw3_BitsPeeks.calls {S0 : Nat → Prop} {w0 : World} {A_data_0 : Option Addr} {c_data_0 : Nat} {A_steps_1 : Option Addr} {c_steps_1 : Nat} {l_data_0 : List Int} {l_steps_1 : List Int} {r : Bool} (HS0 : Hp S0 w0 w0 [.rd A_data_0 (rowC (Eint .u8) l_data_0), .rd A_steps_1 (rowC (Eint .i64) l_steps_1)]) (hc_data_0 : l_data_0.length ≤ c_data_0) (hc_steps_1 : l_steps_1.length ≤ c_steps_1) (h : valiselaw3_BitsPeeks.f l_data_0 l_steps_1 = some r) :
    Calls Try.prog 5 ([.slice A_data_0 l_data_0.length c_data_0, .slice A_steps_1 l_steps_1.length c_steps_1] : List Value).toArray w0 (fun e w => e = .returned (.bool r) ∧ Hp S0 w0 w []) := by
  have H : ((if 33554432 < (l_data_0.length : Int) then (some true) else ((valiselaw3_copied.f l_data_0).bind fun z6 => (bits_NewReader.f z6).bind fun z16 => onO z16 ((valiselaw3_copied.f l_data_0).bind fun z23 => (bits_NewReader.f z23).bind fun z33 => onO z33 (some false) fun (z36, z37) => some false) fun (z45, z46) => (valiselaw3_copied.f l_data_0).bind fun z58 => (bits_NewReader.f z58).bind fun z68 => onO z68 (some false) fun (z71, z72) => (valiselaw3_BitsPeeks.l1 FU z45 z71 z46 z72 0 0 l_data_0 l_steps_1).bind fun (yj80 : Sum (Bool) (List Int × List Int × Int × Int × Int)) => onR yj80 (fun r => some r) fun (l461, l464, y465, y466, at_467) => (bits_Reader_At.f l461 y465).bind fun z852 => if z852 = at_467 then ((bits_Reader_At.f l464 y466).bind fun z860 => some (decide (z860 = at_467))) else (some false))) : Option (Bool)) = some r := h
  refine calls_start Try.func5 rfl rfl ?_
  refine L_seq ?_
  refine L_region ?_
  refine F_val rfl rfl rfl (O_assign rfl rfl) ?_
  refine F_nil ?_
  refine L_seq ?_
  refine L_seq ?_
  refine L_region ?_
  refine F_val rfl rfl rfl (O_move rfl rfl) ?_
  refine F_val rfl rfl rfl (O_len rfl rfl Try.underlying35) ?_
  refine F_val rfl rfl rfl (O_gt rfl rfl rfl) ?_
  refine F_nil ?_
  refine L_condP rfl (fun c1 => ?_) (fun c1 => ?_)
  · have H := of_pos H c1
    refine L_seq ?_
    refine L_region ?_
    refine F_val rfl rfl rfl (O_assign rfl rfl) ?_
    refine F_nil ?_
    refine L_ret (fun a ha => (post_ret1 ha rfl rfl ?_))
    obtain rfl := Option.some.inj H
    exact ⟨rfl, HS0.sel [] rfl⟩
  · have H := of_neg H c1
    refine L_skip ?_
    refine L_seq ?_
    refine L_region ?_
    refine F_val rfl rfl rfl (O_move rfl rfl) ?_
    obtain ⟨z6, h5, H⟩ := of_bind H
    refine F_call (xs := [.tmp 21]) rfl rfl rfl rfl Try.func26 nm26 rfl rfl ((valiselaw3_copied.calls (HS0.give [] rfl (Lent.rd HS0 (Lent.nil) (i := 0) rfl ((HS0.cells_rd (i := 0) rfl).self))) hc_data_0 h5).mono (fun e w hc => ?_))
    obtain ⟨A9, c10, rfl, HSo⟩ := hc
    refine ⟨.slice A9 z6.length c10, rfl, ?_⟩
    have HS8 : Hp S0 w0 w [.rd A_data_0 (rowC (Eint .u8) l_data_0), .rd A_steps_1 (rowC (Eint .i64) l_steps_1), .own A9 c10 (rowC (Eint .u8) z6) 5 (Eint .u8).sz] := (HS0.back [] HSo rfl).sel [0, 1, 2] rfl
    obtain ⟨z16, h15, H⟩ := of_bind H
    rcases z16 with _ | z16
    · refine F_call (xs := [.tmp 22]) rfl rfl rfl rfl Try.func25 nm25 rfl rfl ((bits_NewReader.calls (HS8.give [] rfl (Lent.own HS8 (Lent.nil) (i := 2) rfl rfl ((HS8.cells_own (i := 2) rfl).self))) (HS8.own_capE (i := 2) rfl (by decide)) h15).mono (fun e w hc => ?_))
      have H := (onO_none _ _).symm.trans H
      obtain ⟨rfl, HSo⟩ := hc
      refine ⟨.pointer none, rfl, ?_⟩
      have HS18 : Hp S0 w0 w [.rd A_data_0 (rowC (Eint .u8) l_data_0), .rd A_steps_1 (rowC (Eint .i64) l_steps_1), .own A9 c10 (rowC (Eint .u8) z6) 5 (Eint .u8).sz] := (HS8.back [] HSo rfl).sel [0, 1, 2] rfl
      refine F_val rfl rfl rfl (O_assign rfl rfl) ?_
      refine F_nil ?_
      refine L_seq ?_
      refine L_region ?_
      refine F_val rfl rfl rfl (O_move rfl rfl) ?_
      obtain ⟨z23, h22, H⟩ := of_bind H
      refine F_call (xs := [.tmp 24]) rfl rfl rfl rfl Try.func26 nm26 rfl rfl ((valiselaw3_copied.calls (HS18.give [] rfl (Lent.rd HS18 (Lent.nil) (i := 0) rfl ((HS18.cells_rd (i := 0) rfl).self))) hc_data_0 h22).mono (fun e w hc => ?_))
      obtain ⟨A26, c27, rfl, HSo⟩ := hc
      refine ⟨.slice A26 z23.length c27, rfl, ?_⟩
      have HS25 : Hp S0 w0 w [.rd A_data_0 (rowC (Eint .u8) l_data_0), .rd A_steps_1 (rowC (Eint .i64) l_steps_1), .own A9 c10 (rowC (Eint .u8) z6) 5 (Eint .u8).sz, .own A26 c27 (rowC (Eint .u8) z23) 5 (Eint .u8).sz] := (HS18.back [] HSo rfl).sel [0, 1, 2, 3] rfl
      obtain ⟨z33, h32, H⟩ := of_bind H
      rcases z33 with _ | z33
      · refine F_call (xs := [.tmp 25]) rfl rfl rfl rfl Try.func25 nm25 rfl rfl ((bits_NewReader.calls (HS25.give [] rfl (Lent.own HS25 (Lent.nil) (i := 3) rfl rfl ((HS25.cells_own (i := 3) rfl).self))) (HS25.own_capE (i := 3) rfl (by decide)) h32).mono (fun e w hc => ?_))
        have H := (onO_none _ _).symm.trans H
        obtain ⟨rfl, HSo⟩ := hc
        refine ⟨.pointer none, rfl, ?_⟩
        have HS35 : Hp S0 w0 w [.rd A_data_0 (rowC (Eint .u8) l_data_0), .rd A_steps_1 (rowC (Eint .i64) l_steps_1), .own A9 c10 (rowC (Eint .u8) z6) 5 (Eint .u8).sz, .own A26 c27 (rowC (Eint .u8) z23) 5 (Eint .u8).sz] := (HS25.back [] HSo rfl).sel [0, 1, 2, 3] rfl
        refine F_val rfl rfl rfl (O_assign rfl rfl) ?_
        refine F_nil ?_
        refine L_seq ?_
        refine L_seq ?_
        refine L_region ?_
        refine F_val rfl rfl rfl (O_move rfl rfl) ?_
        refine F_val rfl rfl rfl (O_peq rfl rfl rfl Try.underlying42) ?_
        refine F_val rfl rfl rfl (O_move rfl rfl) ?_
        refine F_gskip rfl rfl rfl rfl rfl rfl rfl ?_
        refine F_gskip rfl rfl rfl rfl rfl rfl rfl ?_
        refine F_val rfl rfl rfl (O_pickT rfl rfl rfl) ?_
        refine F_nil ?_
        refine L_cond rfl (fun _ => ?_) (fun hx => by cases hx)
        refine L_seq ?_
        refine L_region ?_
        refine F_val rfl rfl rfl (O_assign rfl rfl) ?_
        refine F_nil ?_
        refine L_ret (fun a ha => (post_ret1 ha rfl rfl ?_))
        obtain rfl := Option.some.inj H
        exact ⟨rfl, HS35.sel [] rfl⟩
      · refine F_call (xs := [.tmp 25]) rfl rfl rfl rfl Try.func25 nm25 rfl rfl ((bits_NewReader.calls (HS25.give [] rfl (Lent.own HS25 (Lent.nil) (i := 3) rfl rfl ((HS25.cells_own (i := 3) rfl).self))) (HS25.own_capE (i := 3) rfl (by decide)) h32).mono (fun e w hc => ?_))
        obtain ⟨z36, z37⟩ := z33
        have H := (onO_some _ _ _).symm.trans H
        obtain ⟨g40, A42, c43, rfl, HSo⟩ := hc
        refine ⟨.pointer (some ⟨g40, 0, none⟩), rfl, ?_⟩
        have HS39 : Hp S0 w0 w [.rd A_data_0 (rowC (Eint .u8) l_data_0), .rd A_steps_1 (rowC (Eint .i64) l_steps_1), .own A9 c10 (rowC (Eint .u8) z6) 5 (Eint .u8).sz, .own A26 c27 (rowC (Eint .u8) z23) 5 (Eint .u8).sz, .box g40 [.slice A42 z36.length c43, .int .i64 z37] 102, .own A42 c43 (rowC (Eint .u8) z36) 5 (Eint .u8).sz] := (HS25.back [] HSo rfl).sel [0, 1, 2, 3, 4, 5] rfl
        refine F_val rfl rfl rfl (O_assign rfl rfl) ?_
        refine F_nil ?_
        refine L_seq ?_
        refine L_seq ?_
        refine L_region ?_
        refine F_val rfl rfl rfl (O_move rfl rfl) ?_
        refine F_val rfl rfl rfl (O_peq rfl rfl rfl Try.underlying42) ?_
        refine F_val rfl rfl rfl (O_move rfl rfl) ?_
        refine F_gskip rfl rfl rfl rfl rfl rfl rfl ?_
        refine F_gskip rfl rfl rfl rfl rfl rfl rfl ?_
        refine F_val rfl rfl rfl (O_pickT rfl rfl rfl) ?_
        refine F_nil ?_
        refine L_cond rfl (fun _ => ?_) (fun hx => by cases hx)
        refine L_seq ?_
        refine L_region ?_
        refine F_val rfl rfl rfl (O_assign rfl rfl) ?_
        refine F_nil ?_
        refine L_ret (fun a ha => (post_ret1 ha rfl rfl ?_))
        obtain rfl := Option.some.inj H
        exact ⟨rfl, HS39.sel [] rfl⟩
    · refine F_call (xs := [.tmp 22]) rfl rfl rfl rfl Try.func25 nm25 rfl rfl ((bits_NewReader.calls (HS8.give [] rfl (Lent.own HS8 (Lent.nil) (i := 2) rfl rfl ((HS8.cells_own (i := 2) rfl).self))) (HS8.own_capE (i := 2) rfl (by decide)) h15).mono (fun e w hc => ?_))
      obtain ⟨z45, z46⟩ := z16
      have H := (onO_some _ _ _).symm.trans H
      obtain ⟨g49, A51, c52, rfl, HSo⟩ := hc
      refine ⟨.pointer (some ⟨g49, 0, none⟩), rfl, ?_⟩
      have HS48 : Hp S0 w0 w [.rd A_data_0 (rowC (Eint .u8) l_data_0), .rd A_steps_1 (rowC (Eint .i64) l_steps_1), .own A9 c10 (rowC (Eint .u8) z6) 5 (Eint .u8).sz, .box g49 [.slice A51 z45.length c52, .int .i64 z46] 102, .own A51 c52 (rowC (Eint .u8) z45) 5 (Eint .u8).sz] := (HS8.back [] HSo rfl).sel [0, 1, 2, 3, 4] rfl
      refine F_val rfl rfl rfl (O_assign rfl rfl) ?_
      refine F_nil ?_
      refine L_seq ?_
      refine L_region ?_
      refine F_val rfl rfl rfl (O_move rfl rfl) ?_
      obtain ⟨z58, h57, H⟩ := of_bind H
      refine F_call (xs := [.tmp 24]) rfl rfl rfl rfl Try.func26 nm26 rfl rfl ((valiselaw3_copied.calls (HS48.give [] rfl (Lent.rd HS48 (Lent.nil) (i := 0) rfl ((HS48.cells_rd (i := 0) rfl).self))) hc_data_0 h57).mono (fun e w hc => ?_))
      obtain ⟨A61, c62, rfl, HSo⟩ := hc
      refine ⟨.slice A61 z58.length c62, rfl, ?_⟩
      have HS60 : Hp S0 w0 w [.rd A_data_0 (rowC (Eint .u8) l_data_0), .rd A_steps_1 (rowC (Eint .i64) l_steps_1), .own A9 c10 (rowC (Eint .u8) z6) 5 (Eint .u8).sz, .box g49 [.slice A51 z45.length c52, .int .i64 z46] 102, .own A51 c52 (rowC (Eint .u8) z45) 5 (Eint .u8).sz, .own A61 c62 (rowC (Eint .u8) z58) 5 (Eint .u8).sz] := (HS48.back [] HSo rfl).sel [0, 1, 2, 3, 4, 5] rfl
      obtain ⟨z68, h67, H⟩ := of_bind H
      rcases z68 with _ | z68
      · refine F_call (xs := [.tmp 25]) rfl rfl rfl rfl Try.func25 nm25 rfl rfl ((bits_NewReader.calls (HS60.give [] rfl (Lent.own HS60 (Lent.nil) (i := 5) rfl rfl ((HS60.cells_own (i := 5) rfl).self))) (HS60.own_capE (i := 5) rfl (by decide)) h67).mono (fun e w hc => ?_))
        have H := (onO_none _ _).symm.trans H
        obtain ⟨rfl, HSo⟩ := hc
        refine ⟨.pointer none, rfl, ?_⟩
        have HS70 : Hp S0 w0 w [.rd A_data_0 (rowC (Eint .u8) l_data_0), .rd A_steps_1 (rowC (Eint .i64) l_steps_1), .own A9 c10 (rowC (Eint .u8) z6) 5 (Eint .u8).sz, .box g49 [.slice A51 z45.length c52, .int .i64 z46] 102, .own A51 c52 (rowC (Eint .u8) z45) 5 (Eint .u8).sz, .own A61 c62 (rowC (Eint .u8) z58) 5 (Eint .u8).sz] := (HS60.back [] HSo rfl).sel [0, 1, 2, 3, 4, 5] rfl
        refine F_val rfl rfl rfl (O_assign rfl rfl) ?_
        refine F_nil ?_
        refine L_seq ?_
        refine L_seq ?_
        refine L_region ?_
        refine F_val rfl rfl rfl (O_move rfl rfl) ?_
        refine F_val rfl rfl rfl (O_peq rfl rfl rfl Try.underlying42) ?_
        refine F_val rfl rfl rfl (O_move rfl rfl) ?_
        refine F_gval rfl rfl rfl rfl rfl rfl (O_move rfl rfl) ?_
        refine F_gval rfl rfl rfl rfl rfl rfl (O_peq rfl rfl rfl Try.underlying42) ?_
        refine F_val rfl rfl rfl (O_pickF rfl rfl rfl) ?_
        refine F_nil ?_
        refine L_cond rfl (fun _ => ?_) (fun hx => by cases hx)
        refine L_seq ?_
        refine L_region ?_
        refine F_val rfl rfl rfl (O_assign rfl rfl) ?_
        refine F_nil ?_
        refine L_ret (fun a ha => (post_ret1 ha rfl rfl ?_))
        obtain rfl := Option.some.inj H
        exact ⟨rfl, HS70.sel [] rfl⟩
      · refine F_call (xs := [.tmp 25]) rfl rfl rfl rfl Try.func25 nm25 rfl rfl ((bits_NewReader.calls (HS60.give [] rfl (Lent.own HS60 (Lent.nil) (i := 5) rfl rfl ((HS60.cells_own (i := 5) rfl).self))) (HS60.own_capE (i := 5) rfl (by decide)) h67).mono (fun e w hc => ?_))
        obtain ⟨z71, z72⟩ := z68
        have H := (onO_some _ _ _).symm.trans H
        obtain ⟨g75, A77, c78, rfl, HSo⟩ := hc
        refine ⟨.pointer (some ⟨g75, 0, none⟩), rfl, ?_⟩
        have HS74 : Hp S0 w0 w [.rd A_data_0 (rowC (Eint .u8) l_data_0), .rd A_steps_1 (rowC (Eint .i64) l_steps_1), .own A9 c10 (rowC (Eint .u8) z6) 5 (Eint .u8).sz, .box g49 [.slice A51 z45.length c52, .int .i64 z46] 102, .own A51 c52 (rowC (Eint .u8) z45) 5 (Eint .u8).sz, .own A61 c62 (rowC (Eint .u8) z58) 5 (Eint .u8).sz, .box g75 [.slice A77 z71.length c78, .int .i64 z72] 102, .own A77 c78 (rowC (Eint .u8) z71) 5 (Eint .u8).sz] := (HS60.back [] HSo rfl).sel [0, 1, 2, 3, 4, 5, 6, 7] rfl
        refine F_val rfl rfl rfl (O_assign rfl rfl) ?_
        refine F_nil ?_
        refine L_seq ?_
        refine L_seq ?_
        refine L_region ?_
        refine F_val rfl rfl rfl (O_move rfl rfl) ?_
        refine F_val rfl rfl rfl (O_peq rfl rfl rfl Try.underlying42) ?_
        refine F_val rfl rfl rfl (O_move rfl rfl) ?_
        refine F_gval rfl rfl rfl rfl rfl rfl (O_move rfl rfl) ?_
        refine F_gval rfl rfl rfl rfl rfl rfl (O_peq rfl rfl rfl Try.underlying42) ?_
        refine F_val rfl rfl rfl (O_pickF rfl rfl rfl) ?_
        refine F_nil ?_
        refine L_cond rfl (fun hx => by cases hx) (fun _ => ?_)
        refine L_skip ?_
        refine L_seq ?_
        refine L_region ?_
        refine F_val rfl rfl rfl (O_assign rfl rfl) ?_
        refine F_nil ?_
        refine L_seq ?_
        refine L_seq ?_
        refine L_region ?_
        refine F_val rfl rfl rfl (O_assign rfl rfl) ?_
        refine F_nil ?_
        obtain ⟨yj80, Hyj80, H⟩ := of_bind H
        refine L_join (fun a w => ∃ (l461 : List Int), ∃ (l464 : List Int), ∃ (y465 : Int), ∃ (y466 : Int), ∃ (at_467 : Int), ∃ (A459 : Option Addr), ∃ (c460 : Nat), ∃ (A462 : Option Addr), ∃ (c463 : Nat), yj80 = Sum.inr (l461, l464, y465, y466, at_467) ∧ Is Try.f5.ntmps a [(5, .pointer (some ⟨g49, 0, none⟩)), (6, .pointer (some ⟨g75, 0, none⟩)), (7, .int .i64 at_467)] ∧ Hp S0 w0 w [.rd A_data_0 (rowC (Eint .u8) l_data_0), .rd A_steps_1 (rowC (Eint .i64) l_steps_1), .box g49 [.slice A459 l461.length c460, .int .i64 y465] 102, .own A459 c460 (rowC (Eint .u8) l461) 5 (Eint .u8).sz, .box g75 [.slice A462 l464.length c463, .int .i64 y466] 102, .own A462 c463 (rowC (Eint .u8) l464) 5 (Eint .u8).sz]) (fun Qj80 hNj80 hOj80 => ?_) (fun a w hR => ?_)
        · have HOj80 := H
          have H := Hyj80
          refine L_blk (fun Qb468 hNb468 hXb468 hOb468 => ?_)
          refine L_lp (fun k a w => ∃ (l718 : List Int), ∃ (l721 : List Int), ∃ (y722 : Int), ∃ (y723 : Int), ∃ (at_724 : Int), ∃ (i_725 : Int), ∃ (A716 : Option Addr), ∃ (c717 : Nat), ∃ (A719 : Option Addr), ∃ (c720 : Nat), Is Try.f5.ntmps a [(0, .slice A_data_0 l_data_0.length c_data_0), (1, .slice A_steps_1 l_steps_1.length c_steps_1), (5, .pointer (some ⟨g49, 0, none⟩)), (6, .pointer (some ⟨g75, 0, none⟩)), (7, .int .i64 at_724), (8, .int .i64 i_725)] ∧ Hp S0 w0 w [.rd A_data_0 (rowC (Eint .u8) l_data_0), .rd A_steps_1 (rowC (Eint .i64) l_steps_1), .box g49 [.slice A716 l718.length c717, .int .i64 y722] 102, .own A716 c717 (rowC (Eint .u8) l718) 5 (Eint .u8).sz, .box g75 [.slice A719 l721.length c720, .int .i64 y723] 102, .own A719 c720 (rowC (Eint .u8) l721) 5 (Eint .u8).sz] ∧ valiselaw3_BitsPeeks.l1 k l718 l721 y722 y723 at_724 i_725 l_data_0 l_steps_1 = some yj80) FU (fun a ha => ⟨_, _, _, _, _, _, _, _, _, _, Is.cons ha (Is.cons ha (Is.cons ha (Is.cons ha (Is.cons ha (Is.cons ha (Is.nil ha) rfl) rfl) rfl) rfl) rfl) rfl, HS74.sel [0, 1, 3, 4, 6, 7] rfl, H⟩) (fun kp715 a w726 hI Qp715 hNp715 hOp715 => ?_)
          obtain ⟨l718, l721, y722, y723, at_724, i_725, A716, c717, A719, c720, ha, HS727, HAp715⟩ := hI
          cases kp715 with
          | zero => cases (show (none : Option _) = some _ from HAp715)
          | succ kp715 =>
            have H := (valiselaw3_BitsPeeks.l1.eq_2 ..).symm.trans HAp715
            refine wpLF_app ?_ ha
            refine L_seq ?_
            refine L_seq ?_
            refine L_region ?_
            refine F_val rfl rfl rfl (O_move rfl rfl) ?_
            refine F_val rfl rfl rfl (O_move rfl rfl) ?_
            refine F_val rfl rfl rfl (O_len rfl rfl Try.underlying41) ?_
            refine F_val rfl rfl rfl (O_lt rfl rfl rfl) ?_
            refine F_nil ?_
            refine L_condP rfl (fun c728 => ?_) (fun c728 => ?_)
            · have H := of_pos H c728
              refine L_skip ?_
              refine L_seq ?_
              refine L_blk (fun Q729 hN729 hX729 hO729 => ?_)
              refine L_seq ?_
              refine L_region ?_
              refine F_val rfl rfl rfl (O_move rfl rfl) ?_
              refine F_val rfl rfl rfl (O_move rfl rfl) ?_
              obtain ⟨⟨g730, g731⟩, H⟩ := of_gd H
              refine F_val rfl rfl rfl (O_idx rfl rfl rfl Try.underlying41 size3 g730 g731 (Cells.isA (HS727.cells_rd (i := 1) rfl) (rowC_ne (E := (Eint .i64)) g730 g731 (by decide)))) ?_
              refine F_val rfl rfl rfl (O_loadC rfl rfl flat3 (HS727.cells_rd (i := 1) rfl) (int_cell g730 g731)) ?_
              obtain ⟨z736, h735, H⟩ := of_bind H
              refine F_call (xs := [.tmp 42]) rfl rfl rfl rfl Try.func27 nm27 rfl rfl ((valiselaw3_width.calls (HS727.give [] rfl (Lent.nil)) h735).mono (fun e w hc => ?_))
              obtain ⟨rfl, HSo⟩ := hc
              refine ⟨.int .i64 z736, rfl, ?_⟩
              have HS738 : Hp S0 w0 w [.rd A_data_0 (rowC (Eint .u8) l_data_0), .rd A_steps_1 (rowC (Eint .i64) l_steps_1), .box g49 [.slice A716 l718.length c717, .int .i64 y722] 102, .own A716 c717 (rowC (Eint .u8) l718) 5 (Eint .u8).sz, .box g75 [.slice A719 l721.length c720, .int .i64 y723] 102, .own A719 c720 (rowC (Eint .u8) l721) 5 (Eint .u8).sz] := (HS727.back [] HSo rfl).sel [0, 1, 2, 3, 4, 5] rfl
              refine F_val rfl rfl rfl (O_assign rfl rfl) ?_
              refine F_nil ?_
              refine L_seq ?_
              refine L_region ?_
              refine F_val rfl rfl rfl (O_move rfl rfl) ?_
              refine F_val rfl rfl rfl (O_len rfl rfl Try.underlying35) ?_
              refine F_val rfl rfl rfl (O_mul rfl rfl rfl) ?_
              refine F_val rfl rfl rfl (O_move rfl rfl) ?_
              refine F_val rfl rfl rfl (O_sub rfl rfl rfl) ?_
              obtain ⟨x739, h740, H⟩ := of_bnd H
              refine F_val rfl rfl rfl (O_assign' rfl rfl (congrArg (Value.int .i64) h740)) ?_
              refine F_nil ?_
              refine L_seq ?_
              refine L_region ?_
              refine F_val rfl rfl rfl (O_move rfl rfl) ?_
              refine F_val rfl rfl rfl (O_move rfl rfl) ?_
              obtain ⟨⟨z745, z746⟩, h744, H⟩ := of_bind H
              refine F_call (xs := [.tmp 50, .tmp 51]) rfl rfl rfl rfl Try.func28 nm28 rfl rfl ((bits_Reader_Peek.calls (HS738.give [] rfl (Lent.box HS738 (Lent.own HS738 (Lent.nil) (i := 3) rfl rfl ((HS738.cells_own (i := 3) rfl).self)) (i := 2) rfl rfl (HS738.cells_box (i := 2) rfl).self)) h744).mono (fun e w hc => ?_))
              obtain ⟨rfl, HSo⟩ := hc
              refine ⟨.tuple #[.int .u32 z745, .int .i64 z746], rfl, ?_⟩
              have HS748 : Hp S0 w0 w [.rd A_data_0 (rowC (Eint .u8) l_data_0), .rd A_steps_1 (rowC (Eint .i64) l_steps_1), .box g49 [.slice A716 l718.length c717, .int .i64 y722] 102, .own A716 c717 (rowC (Eint .u8) l718) 5 (Eint .u8).sz, .box g75 [.slice A719 l721.length c720, .int .i64 y723] 102, .own A719 c720 (rowC (Eint .u8) l721) 5 (Eint .u8).sz] := (HS738.back [] HSo rfl).sel [0, 1, 2, 3, 4, 5] rfl
              refine F_val rfl rfl rfl (O_move rfl rfl) ?_
              refine F_val rfl rfl rfl (O_extract (v := .int .u32 z745) rfl rfl rfl) ?_
              refine F_val rfl rfl rfl (O_extract (v := .int .i64 z746) rfl rfl rfl) ?_
              refine F_val rfl rfl rfl (O_assign rfl rfl) ?_
              refine F_val rfl rfl rfl (O_assign rfl rfl) ?_
              refine F_nil ?_
              refine L_seq ?_
              refine L_seq ?_
              refine L_region ?_
              refine F_val rfl rfl rfl (O_move rfl rfl) ?_
              refine F_val rfl rfl rfl (O_move rfl rfl) ?_
              refine F_val rfl rfl rfl (O_move rfl rfl) ?_
              refine F_val rfl rfl rfl (O_min rfl rfl rfl) ?_
              refine F_val rfl rfl rfl (O_ne rfl rfl rfl) ?_
              refine F_val rfl rfl rfl (O_move rfl rfl) ?_
              rcases Decidable.em (z746 ≠ min z736 x739) with c749 | c749
              · have H := of_pos H c749
                refine F_know (i := 60) rfl (dec_t c749) ?_
                refine F_gskip rfl rfl rfl rfl rfl rfl rfl ?_
                refine F_gskip rfl rfl rfl rfl rfl rfl rfl ?_
                refine F_gskip rfl rfl rfl rfl rfl rfl rfl ?_
                refine F_gskip rfl rfl rfl rfl rfl rfl rfl ?_
                refine F_gskip rfl rfl rfl rfl rfl rfl rfl ?_
                refine F_val rfl rfl rfl (O_pickT rfl rfl rfl) ?_
                refine F_val rfl rfl rfl (O_move rfl rfl) ?_
                refine F_gskip rfl rfl rfl rfl rfl rfl rfl ?_
                refine F_gskip rfl rfl rfl rfl rfl rfl rfl ?_
                refine F_gskip rfl rfl rfl rfl rfl rfl rfl ?_
                refine F_gskip rfl rfl rfl rfl rfl rfl rfl ?_
                refine F_val rfl rfl rfl (O_pickT rfl rfl rfl) ?_
                refine F_val rfl rfl rfl (O_move rfl rfl) ?_
                refine F_gskip rfl rfl rfl rfl rfl rfl rfl ?_
                refine F_gskip rfl rfl rfl rfl rfl rfl rfl ?_
                refine F_gskip rfl rfl rfl rfl rfl rfl rfl ?_
                refine F_gskip rfl rfl rfl rfl rfl rfl rfl ?_
                refine F_val rfl rfl rfl (O_pickT rfl rfl rfl) ?_
                refine F_nil ?_
                refine L_cond rfl (fun _ => ?_) (fun hx => by cases hx)
                refine L_seq ?_
                refine L_region ?_
                refine F_val rfl rfl rfl (O_assign rfl rfl) ?_
                refine F_nil ?_
                refine L_ret (fun a ha => (hO729 .ret a _ rfl (hOp715 .ret a _ rfl (hOb468 .ret a _ rfl (hOj80 .ret a _ rfl (post_ret1 ha rfl rfl ?_))))))
                obtain rfl := Option.some.inj H
                obtain rfl := Option.some.inj (show (some false : Option (Bool)) = some _ from HOj80)
                exact ⟨rfl, HS748.sel [] rfl⟩
              · have H := of_neg H c749
                refine F_know (i := 60) rfl (dec_f c749) ?_
                refine F_gval rfl rfl rfl rfl rfl rfl (O_move rfl rfl) ?_
                refine F_gval rfl rfl rfl rfl rfl rfl (O_move rfl rfl) ?_
                obtain ⟨z754, h753, H⟩ := of_bind H
                refine F_gcall (xs := [.tmp 61, .tmp 62]) rfl rfl rfl rfl rfl rfl rfl Try.func20 nm20 rfl rfl ((valiselaw3_low.calls (HS748.give [] rfl (Lent.nil)) h753).mono (fun e w hc => ?_))
                obtain ⟨rfl, HSo⟩ := hc
                refine ⟨.int .u32 z754, rfl, ?_⟩
                have HS756 : Hp S0 w0 w [.rd A_data_0 (rowC (Eint .u8) l_data_0), .rd A_steps_1 (rowC (Eint .i64) l_steps_1), .box g49 [.slice A716 l718.length c717, .int .i64 y722] 102, .own A716 c717 (rowC (Eint .u8) l718) 5 (Eint .u8).sz, .box g75 [.slice A719 l721.length c720, .int .i64 y723] 102, .own A719 c720 (rowC (Eint .u8) l721) 5 (Eint .u8).sz] := (HS748.back [] HSo rfl).sel [0, 1, 2, 3, 4, 5] rfl
                refine F_gval rfl rfl rfl rfl rfl rfl (O_move rfl rfl) ?_
                refine F_gval rfl rfl rfl rfl rfl rfl (O_ne rfl rfl rfl) ?_
                refine F_val rfl rfl rfl (O_pickF rfl rfl rfl) ?_
                refine F_val rfl rfl rfl (O_move rfl rfl) ?_
                rcases Decidable.em (z754 ≠ z745) with c757 | c757
                · have H := of_pos H c757
                  refine F_know (i := 67) rfl (dec_t c757) ?_
                  refine F_gskip rfl rfl rfl rfl rfl rfl rfl ?_
                  refine F_gskip rfl rfl rfl rfl rfl rfl rfl ?_
                  refine F_gskip rfl rfl rfl rfl rfl rfl rfl ?_
                  refine F_gskip rfl rfl rfl rfl rfl rfl rfl ?_
                  refine F_val rfl rfl rfl (O_pickT rfl rfl rfl) ?_
                  refine F_val rfl rfl rfl (O_move rfl rfl) ?_
                  refine F_gskip rfl rfl rfl rfl rfl rfl rfl ?_
                  refine F_gskip rfl rfl rfl rfl rfl rfl rfl ?_
                  refine F_gskip rfl rfl rfl rfl rfl rfl rfl ?_
                  refine F_gskip rfl rfl rfl rfl rfl rfl rfl ?_
                  refine F_val rfl rfl rfl (O_pickT rfl rfl rfl) ?_
                  refine F_nil ?_
                  refine L_cond rfl (fun _ => ?_) (fun hx => by cases hx)
                  refine L_seq ?_
                  refine L_region ?_
                  refine F_val rfl rfl rfl (O_assign rfl rfl) ?_
                  refine F_nil ?_
                  refine L_ret (fun a ha => (hO729 .ret a _ rfl (hOp715 .ret a _ rfl (hOb468 .ret a _ rfl (hOj80 .ret a _ rfl (post_ret1 ha rfl rfl ?_))))))
                  obtain rfl := Option.some.inj H
                  obtain rfl := Option.some.inj (show (some false : Option (Bool)) = some _ from HOj80)
                  exact ⟨rfl, HS756.sel [] rfl⟩
                · have H := of_neg H c757
                  refine F_know (i := 67) rfl (dec_f c757) ?_
                  refine F_gval rfl rfl rfl rfl rfl rfl (O_move rfl rfl) ?_
                  obtain ⟨z762, h761, H⟩ := of_bind H
                  refine F_gcall (xs := [.tmp 68]) rfl rfl rfl rfl rfl rfl rfl Try.func29 nm29 rfl rfl ((bits_Reader_At.calls (HS756.give [] rfl (Lent.box HS756 (Lent.own HS756 (Lent.nil) (i := 3) rfl rfl ((HS756.cells_own (i := 3) rfl).self)) (i := 2) rfl rfl (HS756.cells_box (i := 2) rfl).self)) h761).mono (fun e w hc => ?_))
                  obtain ⟨rfl, HSo⟩ := hc
                  refine ⟨.int .i64 z762, rfl, ?_⟩
                  have HS764 : Hp S0 w0 w [.rd A_data_0 (rowC (Eint .u8) l_data_0), .rd A_steps_1 (rowC (Eint .i64) l_steps_1), .box g49 [.slice A716 l718.length c717, .int .i64 y722] 102, .own A716 c717 (rowC (Eint .u8) l718) 5 (Eint .u8).sz, .box g75 [.slice A719 l721.length c720, .int .i64 y723] 102, .own A719 c720 (rowC (Eint .u8) l721) 5 (Eint .u8).sz] := (HS756.back [] HSo rfl).sel [0, 1, 2, 3, 4, 5] rfl
                  refine F_gval rfl rfl rfl rfl rfl rfl (O_move rfl rfl) ?_
                  refine F_gval rfl rfl rfl rfl rfl rfl (O_ne rfl rfl rfl) ?_
                  refine F_val rfl rfl rfl (O_pickF rfl rfl rfl) ?_
                  refine F_val rfl rfl rfl (O_move rfl rfl) ?_
                  rcases Decidable.em (z762 ≠ at_724) with c765 | c765
                  · have H := of_pos H c765
                    refine F_know (i := 73) rfl (dec_t c765) ?_
                    refine F_gskip rfl rfl rfl rfl rfl rfl rfl ?_
                    refine F_gskip rfl rfl rfl rfl rfl rfl rfl ?_
                    refine F_gskip rfl rfl rfl rfl rfl rfl rfl ?_
                    refine F_gskip rfl rfl rfl rfl rfl rfl rfl ?_
                    refine F_val rfl rfl rfl (O_pickT rfl rfl rfl) ?_
                    refine F_nil ?_
                    refine L_cond rfl (fun _ => ?_) (fun hx => by cases hx)
                    refine L_seq ?_
                    refine L_region ?_
                    refine F_val rfl rfl rfl (O_assign rfl rfl) ?_
                    refine F_nil ?_
                    refine L_ret (fun a ha => (hO729 .ret a _ rfl (hOp715 .ret a _ rfl (hOb468 .ret a _ rfl (hOj80 .ret a _ rfl (post_ret1 ha rfl rfl ?_))))))
                    obtain rfl := Option.some.inj H
                    obtain rfl := Option.some.inj (show (some false : Option (Bool)) = some _ from HOj80)
                    exact ⟨rfl, HS764.sel [] rfl⟩
                  · have H := of_neg H c765
                    refine F_know (i := 73) rfl (dec_f c765) ?_
                    refine F_gval rfl rfl rfl rfl rfl rfl (O_move rfl rfl) ?_
                    obtain ⟨z770, h769, H⟩ := of_bind H
                    refine F_gcall (xs := [.tmp 74]) rfl rfl rfl rfl rfl rfl rfl Try.func30 nm30 rfl rfl ((bits_Reader_Left.calls (HS764.give [] rfl (Lent.box HS764 (Lent.own HS764 (Lent.nil) (i := 3) rfl rfl ((HS764.cells_own (i := 3) rfl).self)) (i := 2) rfl rfl (HS764.cells_box (i := 2) rfl).self)) h769).mono (fun e w hc => ?_))
                    obtain ⟨rfl, HSo⟩ := hc
                    refine ⟨.int .i64 z770, rfl, ?_⟩
                    have HS772 : Hp S0 w0 w [.rd A_data_0 (rowC (Eint .u8) l_data_0), .rd A_steps_1 (rowC (Eint .i64) l_steps_1), .box g49 [.slice A716 l718.length c717, .int .i64 y722] 102, .own A716 c717 (rowC (Eint .u8) l718) 5 (Eint .u8).sz, .box g75 [.slice A719 l721.length c720, .int .i64 y723] 102, .own A719 c720 (rowC (Eint .u8) l721) 5 (Eint .u8).sz] := (HS764.back [] HSo rfl).sel [0, 1, 2, 3, 4, 5] rfl
                    refine F_gval rfl rfl rfl rfl rfl rfl (O_move rfl rfl) ?_
                    refine F_gval rfl rfl rfl rfl rfl rfl (O_ne rfl rfl rfl) ?_
                    refine F_val rfl rfl rfl (O_pickF rfl rfl rfl) ?_
                    refine F_nil ?_
                    refine L_condP rfl (fun c773 => ?_) (fun c773 => ?_)
                    · have H := of_pos H c773
                      refine L_seq ?_
                      refine L_region ?_
                      refine F_val rfl rfl rfl (O_assign rfl rfl) ?_
                      refine F_nil ?_
                      refine L_ret (fun a ha => (hO729 .ret a _ rfl (hOp715 .ret a _ rfl (hOb468 .ret a _ rfl (hOj80 .ret a _ rfl (post_ret1 ha rfl rfl ?_))))))
                      obtain rfl := Option.some.inj H
                      obtain rfl := Option.some.inj (show (some false : Option (Bool)) = some _ from HOj80)
                      exact ⟨rfl, HS772.sel [] rfl⟩
                    · have H := of_neg H c773
                      refine L_skip ?_
                      refine L_seq ?_
                      refine L_region ?_
                      refine F_val rfl rfl rfl (O_move rfl rfl) ?_
                      refine F_val rfl rfl rfl (O_move rfl rfl) ?_
                      obtain ⟨⟨z778, z779, z780, z781⟩, h777, H⟩ := of_bind H
                      refine F_call (xs := [.tmp 80, .tmp 81]) rfl rfl rfl rfl Try.func31 nm31 rfl rfl ((bits_Reader_Take.calls (HS772.give [2, 3] rfl (Lent.nil)) h777).mono (fun e w hc => ?_))
                      obtain ⟨A784, c785, rfl, HSo⟩ := hc
                      refine ⟨.tuple #[.int .u32 z778, .int .i64 z779], rfl, ?_⟩
                      have HS783 : Hp S0 w0 w [.rd A_data_0 (rowC (Eint .u8) l_data_0), .rd A_steps_1 (rowC (Eint .i64) l_steps_1), .box g49 [.slice A784 z780.length c785, .int .i64 z781] 102, .own A784 c785 (rowC (Eint .u8) z780) 5 (Eint .u8).sz, .box g75 [.slice A719 l721.length c720, .int .i64 y723] 102, .own A719 c720 (rowC (Eint .u8) l721) 5 (Eint .u8).sz] := (HS772.back [2, 3] HSo rfl).sel [0, 1, 6, 7, 4, 5] rfl
                      refine F_val rfl rfl rfl (O_move rfl rfl) ?_
                      refine F_val rfl rfl rfl (O_extract (v := .int .u32 z778) rfl rfl rfl) ?_
                      refine F_val rfl rfl rfl (O_extract (v := .int .i64 z779) rfl rfl rfl) ?_
                      refine F_val rfl rfl rfl (O_assign rfl rfl) ?_
                      refine F_val rfl rfl rfl (O_assign rfl rfl) ?_
                      refine F_nil ?_
                      refine L_seq ?_
                      refine L_region ?_
                      refine F_val rfl rfl rfl (O_move rfl rfl) ?_
                      refine F_val rfl rfl rfl (O_move rfl rfl) ?_
                      obtain ⟨⟨z790, z791, z792⟩, h789, H⟩ := of_bind H
                      refine F_call (xs := [.tmp 85, .tmp 86]) rfl rfl rfl rfl Try.func32 nm32 rfl rfl ((bits_Reader_Skip.calls (HS783.give [4, 5] rfl (Lent.nil)) h789).mono (fun e w hc => ?_))
                      obtain ⟨A795, c796, rfl, HSo⟩ := hc
                      refine ⟨.int .i64 z790, rfl, ?_⟩
                      have HS794 : Hp S0 w0 w [.rd A_data_0 (rowC (Eint .u8) l_data_0), .rd A_steps_1 (rowC (Eint .i64) l_steps_1), .box g49 [.slice A784 z780.length c785, .int .i64 z781] 102, .own A784 c785 (rowC (Eint .u8) z780) 5 (Eint .u8).sz, .box g75 [.slice A795 z791.length c796, .int .i64 z792] 102, .own A795 c796 (rowC (Eint .u8) z791) 5 (Eint .u8).sz] := (HS783.back [4, 5] HSo rfl).sel [0, 1, 2, 3, 6, 7] rfl
                      refine F_val rfl rfl rfl (O_assign rfl rfl) ?_
                      refine F_nil ?_
                      refine L_seq ?_
                      refine L_seq ?_
                      refine L_region ?_
                      refine F_val rfl rfl rfl (O_move rfl rfl) ?_
                      refine F_val rfl rfl rfl (O_move rfl rfl) ?_
                      refine F_val rfl rfl rfl (O_gt rfl rfl rfl) ?_
                      refine F_nil ?_
                      refine L_condP rfl (fun c797 => ?_) (fun c797 => ?_)
                      · have H := of_pos H c797
                        refine L_seq ?_
                        refine L_seq ?_
                        refine L_region ?_
                        refine F_val rfl rfl rfl (O_move rfl rfl) ?_
                        refine F_val rfl rfl rfl (O_ne rfl rfl rfl) ?_
                        refine F_val rfl rfl rfl (O_move rfl rfl) ?_
                        refine F_grp 3 [(96, .bool (decide ((z779 ≠ 30) ∨ (z790 ≠ 30)))), (0, .slice A_data_0 l_data_0.length c_data_0), (1, .slice A_steps_1 l_steps_1.length c_steps_1), (5, .pointer (some ⟨g49, 0, none⟩)), (6, .pointer (some ⟨g75, 0, none⟩)), (8, .int .i64 i_725), (10, .int .i64 x739), (11, .int .u32 z745), (13, .int .u32 z778), (61, .int .u32 z745), (62, .int .i64 z746), (63, .int .u32 z754), (64, .int .u32 z745), (65, .bool (decide (z754 ≠ z745))), (68, .pointer (some ⟨g49, 0, none⟩)), (69, .int .i64 z762), (70, .int .i64 at_724), (71, .bool (decide (z762 ≠ at_724))), (74, .pointer (some ⟨g49, 0, none⟩)), (75, .int .i64 z770), (76, .int .i64 x739), (77, .bool (decide (z770 ≠ x739)))] ?_ ?_
                        · rcases Decidable.em (z779 ≠ 30) with c798 | c798
                          · refine F_know (i := 93) rfl (dec_t c798) ?_
                            refine F_gskip rfl rfl rfl rfl rfl rfl rfl ?_
                            refine F_gskip rfl rfl rfl rfl rfl rfl rfl ?_
                            refine F_val rfl rfl rfl (O_pickT rfl rfl rfl) ?_
                            refine F_know (i := 96) rfl (dec_or_t (q := z790 ≠ 30) c798) ?_
                            exact F_grpE (fun a ha => Is.cons ha (Is.cons ha (Is.cons ha (Is.cons ha (Is.cons ha (Is.cons ha (Is.cons ha (Is.cons ha (Is.cons ha (Is.cons ha (Is.cons ha (Is.cons ha (Is.cons ha (Is.cons ha (Is.cons ha (Is.cons ha (Is.cons ha (Is.cons ha (Is.cons ha (Is.cons ha (Is.cons ha (Is.cons ha (Is.nil ha) rfl) rfl) rfl) rfl) rfl) rfl) rfl) rfl) rfl) rfl) rfl) rfl) rfl) rfl) rfl) rfl) rfl) rfl) rfl) rfl) rfl) rfl)
                          · refine F_know (i := 93) rfl (dec_f c798) ?_
                            refine F_gval rfl rfl rfl rfl rfl rfl (O_move rfl rfl) ?_
                            refine F_gval rfl rfl rfl rfl rfl rfl (O_ne rfl rfl rfl) ?_
                            refine F_val rfl rfl rfl (O_pickF rfl rfl rfl) ?_
                            refine F_know (i := 96) rfl (dec_or_f (q := z790 ≠ 30) c798) ?_
                            exact F_grpE (fun a ha => Is.cons ha (Is.cons ha (Is.cons ha (Is.cons ha (Is.cons ha (Is.cons ha (Is.cons ha (Is.cons ha (Is.cons ha (Is.cons ha (Is.cons ha (Is.cons ha (Is.cons ha (Is.cons ha (Is.cons ha (Is.cons ha (Is.cons ha (Is.cons ha (Is.cons ha (Is.cons ha (Is.cons ha (Is.cons ha (Is.nil ha) rfl) rfl) rfl) rfl) rfl) rfl) rfl) rfl) rfl) rfl) rfl) rfl) rfl) rfl) rfl) rfl) rfl) rfl) rfl) rfl) rfl) rfl)
                        · skip
                          refine F_val rfl rfl rfl (O_move rfl rfl) ?_
                          refine F_grp 3 [(100, .bool (decide (((z779 ≠ 30) ∨ (z790 ≠ 30)) ∨ (z778 ≠ 0)))), (0, .slice A_data_0 l_data_0.length c_data_0), (1, .slice A_steps_1 l_steps_1.length c_steps_1), (5, .pointer (some ⟨g49, 0, none⟩)), (6, .pointer (some ⟨g75, 0, none⟩)), (8, .int .i64 i_725), (10, .int .i64 x739), (11, .int .u32 z745), (61, .int .u32 z745), (62, .int .i64 z746), (63, .int .u32 z754), (64, .int .u32 z745), (65, .bool (decide (z754 ≠ z745))), (68, .pointer (some ⟨g49, 0, none⟩)), (69, .int .i64 z762), (70, .int .i64 at_724), (71, .bool (decide (z762 ≠ at_724))), (74, .pointer (some ⟨g49, 0, none⟩)), (75, .int .i64 z770), (76, .int .i64 x739), (77, .bool (decide (z770 ≠ x739)))] ?_ ?_
                          · rcases Decidable.em ((z779 ≠ 30) ∨ (z790 ≠ 30)) with c799 | c799
                            · refine F_know (i := 97) rfl (dec_t c799) ?_
                              refine F_gskip rfl rfl rfl rfl rfl rfl rfl ?_
                              refine F_gskip rfl rfl rfl rfl rfl rfl rfl ?_
                              refine F_val rfl rfl rfl (O_pickT rfl rfl rfl) ?_
                              refine F_know (i := 100) rfl (dec_or_t (q := z778 ≠ 0) c799) ?_
                              exact F_grpE (fun a ha => Is.cons ha (Is.cons ha (Is.cons ha (Is.cons ha (Is.cons ha (Is.cons ha (Is.cons ha (Is.cons ha (Is.cons ha (Is.cons ha (Is.cons ha (Is.cons ha (Is.cons ha (Is.cons ha (Is.cons ha (Is.cons ha (Is.cons ha (Is.cons ha (Is.cons ha (Is.cons ha (Is.cons ha (Is.nil ha) rfl) rfl) rfl) rfl) rfl) rfl) rfl) rfl) rfl) rfl) rfl) rfl) rfl) rfl) rfl) rfl) rfl) rfl) rfl) rfl) rfl)
                            · refine F_know (i := 97) rfl (dec_f c799) ?_
                              refine F_gval rfl rfl rfl rfl rfl rfl (O_move rfl rfl) ?_
                              refine F_gval rfl rfl rfl rfl rfl rfl (O_ne rfl rfl rfl) ?_
                              refine F_val rfl rfl rfl (O_pickF rfl rfl rfl) ?_
                              refine F_know (i := 100) rfl (dec_or_f (q := z778 ≠ 0) c799) ?_
                              exact F_grpE (fun a ha => Is.cons ha (Is.cons ha (Is.cons ha (Is.cons ha (Is.cons ha (Is.cons ha (Is.cons ha (Is.cons ha (Is.cons ha (Is.cons ha (Is.cons ha (Is.cons ha (Is.cons ha (Is.cons ha (Is.cons ha (Is.cons ha (Is.cons ha (Is.cons ha (Is.cons ha (Is.cons ha (Is.cons ha (Is.nil ha) rfl) rfl) rfl) rfl) rfl) rfl) rfl) rfl) rfl) rfl) rfl) rfl) rfl) rfl) rfl) rfl) rfl) rfl) rfl) rfl) rfl)
                          · skip
                            refine F_nil ?_
                            refine L_condP rfl (fun c800 => ?_) (fun c800 => ?_)
                            · have H := of_pos H c800
                              refine L_seq ?_
                              refine L_region ?_
                              refine F_val rfl rfl rfl (O_assign rfl rfl) ?_
                              refine F_nil ?_
                              refine L_ret (fun a ha => (hO729 .ret a _ rfl (hOp715 .ret a _ rfl (hOb468 .ret a _ rfl (hOj80 .ret a _ rfl (post_ret1 ha rfl rfl ?_))))))
                              obtain rfl := Option.some.inj H
                              obtain rfl := Option.some.inj (show (some false : Option (Bool)) = some _ from HOj80)
                              exact ⟨rfl, HS794.sel [] rfl⟩
                            · have H := of_neg H c800
                              refine L_skip ?_
                              refine L_seq ?_
                              refine L_region ?_
                              refine F_val rfl rfl rfl (O_move rfl rfl) ?_
                              refine F_val rfl rfl rfl (O_move rfl rfl) ?_
                              obtain ⟨⟨z805, z806, z807, z808⟩, h804, H⟩ := of_bind H
                              refine F_call (xs := [.tmp 102, .tmp 103]) rfl rfl rfl rfl Try.func31 nm31 rfl rfl ((bits_Reader_Take.calls (HS794.give [2, 3] rfl (Lent.nil)) h804).mono (fun e w hc => ?_))
                              obtain ⟨A811, c812, rfl, HSo⟩ := hc
                              refine ⟨.tuple #[.int .u32 z805, .int .i64 z806], rfl, ?_⟩
                              have HS810 : Hp S0 w0 w [.rd A_data_0 (rowC (Eint .u8) l_data_0), .rd A_steps_1 (rowC (Eint .i64) l_steps_1), .box g49 [.slice A811 z807.length c812, .int .i64 z808] 102, .own A811 c812 (rowC (Eint .u8) z807) 5 (Eint .u8).sz, .box g75 [.slice A795 z791.length c796, .int .i64 z792] 102, .own A795 c796 (rowC (Eint .u8) z791) 5 (Eint .u8).sz] := (HS794.back [2, 3] HSo rfl).sel [0, 1, 6, 7, 4, 5] rfl
                              refine F_val rfl rfl rfl (O_move rfl rfl) ?_
                              refine F_val rfl rfl rfl (O_extract (v := .int .u32 z805) rfl rfl rfl) ?_
                              refine F_val rfl rfl rfl (O_extract (v := .int .i64 z806) rfl rfl rfl) ?_
                              refine F_val rfl rfl rfl (O_assign rfl rfl) ?_
                              refine F_val rfl rfl rfl (O_assign rfl rfl) ?_
                              refine F_nil ?_
                              refine L_seq ?_
                              refine L_seq ?_
                              refine L_region ?_
                              refine F_val rfl rfl rfl (O_move rfl rfl) ?_
                              refine F_val rfl rfl rfl (O_ne rfl rfl rfl) ?_
                              refine F_val rfl rfl rfl (O_move rfl rfl) ?_
                              refine F_grp 4 [(113, .bool (decide ((z806 ≠ 0) ∨ (z805 ≠ z745)))), (0, .slice A_data_0 l_data_0.length c_data_0), (1, .slice A_steps_1 l_steps_1.length c_steps_1), (5, .pointer (some ⟨g49, 0, none⟩)), (6, .pointer (some ⟨g75, 0, none⟩)), (8, .int .i64 i_725), (10, .int .i64 x739), (61, .int .u32 z745), (62, .int .i64 z746), (63, .int .u32 z754), (64, .int .u32 z745), (65, .bool (decide (z754 ≠ z745))), (68, .pointer (some ⟨g49, 0, none⟩)), (69, .int .i64 z762), (70, .int .i64 at_724), (71, .bool (decide (z762 ≠ at_724))), (74, .pointer (some ⟨g49, 0, none⟩)), (75, .int .i64 z770), (76, .int .i64 x739), (77, .bool (decide (z770 ≠ x739)))] ?_ ?_
                              · rcases Decidable.em (z806 ≠ 0) with c813 | c813
                                · refine F_know (i := 109) rfl (dec_t c813) ?_
                                  refine F_gskip rfl rfl rfl rfl rfl rfl rfl ?_
                                  refine F_gskip rfl rfl rfl rfl rfl rfl rfl ?_
                                  refine F_gskip rfl rfl rfl rfl rfl rfl rfl ?_
                                  refine F_val rfl rfl rfl (O_pickT rfl rfl rfl) ?_
                                  refine F_know (i := 113) rfl (dec_or_t (q := z805 ≠ z745) c813) ?_
                                  exact F_grpE (fun a ha => Is.cons ha (Is.cons ha (Is.cons ha (Is.cons ha (Is.cons ha (Is.cons ha (Is.cons ha (Is.cons ha (Is.cons ha (Is.cons ha (Is.cons ha (Is.cons ha (Is.cons ha (Is.cons ha (Is.cons ha (Is.cons ha (Is.cons ha (Is.cons ha (Is.cons ha (Is.cons ha (Is.nil ha) rfl) rfl) rfl) rfl) rfl) rfl) rfl) rfl) rfl) rfl) rfl) rfl) rfl) rfl) rfl) rfl) rfl) rfl) rfl) rfl)
                                · refine F_know (i := 109) rfl (dec_f c813) ?_
                                  refine F_gval rfl rfl rfl rfl rfl rfl (O_move rfl rfl) ?_
                                  refine F_gval rfl rfl rfl rfl rfl rfl (O_move rfl rfl) ?_
                                  refine F_gval rfl rfl rfl rfl rfl rfl (O_ne rfl rfl rfl) ?_
                                  refine F_val rfl rfl rfl (O_pickF rfl rfl rfl) ?_
                                  refine F_know (i := 113) rfl (dec_or_f (q := z805 ≠ z745) c813) ?_
                                  exact F_grpE (fun a ha => Is.cons ha (Is.cons ha (Is.cons ha (Is.cons ha (Is.cons ha (Is.cons ha (Is.cons ha (Is.cons ha (Is.cons ha (Is.cons ha (Is.cons ha (Is.cons ha (Is.cons ha (Is.cons ha (Is.cons ha (Is.cons ha (Is.cons ha (Is.cons ha (Is.cons ha (Is.cons ha (Is.nil ha) rfl) rfl) rfl) rfl) rfl) rfl) rfl) rfl) rfl) rfl) rfl) rfl) rfl) rfl) rfl) rfl) rfl) rfl) rfl) rfl)
                              · skip
                                refine F_val rfl rfl rfl (O_move rfl rfl) ?_
                                rcases Decidable.em ((z806 ≠ 0) ∨ (z805 ≠ z745)) with c814 | c814
                                · have H := of_pos H c814
                                  refine F_know (i := 114) rfl (dec_t c814) ?_
                                  refine F_gskip rfl rfl rfl rfl rfl rfl rfl ?_
                                  refine F_gskip rfl rfl rfl rfl rfl rfl rfl ?_
                                  refine F_gskip rfl rfl rfl rfl rfl rfl rfl ?_
                                  refine F_gskip rfl rfl rfl rfl rfl rfl rfl ?_
                                  refine F_val rfl rfl rfl (O_pickT rfl rfl rfl) ?_
                                  refine F_nil ?_
                                  refine L_cond rfl (fun _ => ?_) (fun hx => by cases hx)
                                  refine L_seq ?_
                                  refine L_region ?_
                                  refine F_val rfl rfl rfl (O_assign rfl rfl) ?_
                                  refine F_nil ?_
                                  refine L_ret (fun a ha => (hO729 .ret a _ rfl (hOp715 .ret a _ rfl (hOb468 .ret a _ rfl (hOj80 .ret a _ rfl (post_ret1 ha rfl rfl ?_))))))
                                  obtain rfl := Option.some.inj H
                                  obtain rfl := Option.some.inj (show (some false : Option (Bool)) = some _ from HOj80)
                                  exact ⟨rfl, HS810.sel [] rfl⟩
                                · have H := of_neg H c814
                                  refine F_know (i := 114) rfl (dec_f c814) ?_
                                  refine F_gval rfl rfl rfl rfl rfl rfl (O_move rfl rfl) ?_
                                  refine F_gval rfl rfl rfl rfl rfl rfl (O_move rfl rfl) ?_
                                  obtain ⟨⟨z819, z820, z821⟩, h818, H⟩ := of_bind H
                                  refine F_gcall (xs := [.tmp 115, .tmp 116]) rfl rfl rfl rfl rfl rfl rfl Try.func32 nm32 rfl rfl ((bits_Reader_Skip.calls (HS810.give [4, 5] rfl (Lent.nil)) h818).mono (fun e w hc => ?_))
                                  obtain ⟨A824, c825, rfl, HSo⟩ := hc
                                  refine ⟨.int .i64 z819, rfl, ?_⟩
                                  have HS823 : Hp S0 w0 w [.rd A_data_0 (rowC (Eint .u8) l_data_0), .rd A_steps_1 (rowC (Eint .i64) l_steps_1), .box g49 [.slice A811 z807.length c812, .int .i64 z808] 102, .own A811 c812 (rowC (Eint .u8) z807) 5 (Eint .u8).sz, .box g75 [.slice A824 z820.length c825, .int .i64 z821] 102, .own A824 c825 (rowC (Eint .u8) z820) 5 (Eint .u8).sz] := (HS810.back [4, 5] HSo rfl).sel [0, 1, 2, 3, 6, 7] rfl
                                  refine F_gval rfl rfl rfl rfl rfl rfl (O_ne rfl rfl rfl) ?_
                                  refine F_val rfl rfl rfl (O_pickF rfl rfl rfl) ?_
                                  refine F_nil ?_
                                  refine L_condP rfl (fun c826 => ?_) (fun c826 => ?_)
                                  · have H := of_pos H c826
                                    refine L_seq ?_
                                    refine L_region ?_
                                    refine F_val rfl rfl rfl (O_assign rfl rfl) ?_
                                    refine F_nil ?_
                                    refine L_ret (fun a ha => (hO729 .ret a _ rfl (hOp715 .ret a _ rfl (hOb468 .ret a _ rfl (hOj80 .ret a _ rfl (post_ret1 ha rfl rfl ?_))))))
                                    obtain rfl := Option.some.inj H
                                    obtain rfl := Option.some.inj (show (some false : Option (Bool)) = some _ from HOj80)
                                    exact ⟨rfl, HS823.sel [] rfl⟩
                                  · have H := of_neg H c826
                                    refine L_skip ?_
                                    refine L_seq ?_
                                    refine L_region ?_
                                    refine F_val rfl rfl rfl (O_move rfl rfl) ?_
                                    refine F_val rfl rfl rfl (O_len rfl rfl Try.underlying35) ?_
                                    refine F_val rfl rfl rfl (O_mul rfl rfl rfl) ?_
                                    obtain ⟨x827, h828, H⟩ := of_bnd H
                                    refine F_val rfl rfl rfl (O_assign' rfl rfl (congrArg (Value.int .i64) h828)) ?_
                                    refine F_nil ?_
                                    refine L_exitB hX729 ?_
                                    refine L_region ?_
                                    refine F_val rfl rfl rfl (O_move rfl rfl) ?_
                                    refine F_val rfl rfl rfl (O_add rfl rfl rfl) ?_
                                    obtain ⟨x829, h830, H⟩ := of_bnd H
                                    refine F_val rfl rfl rfl (O_assign' rfl rfl (congrArg (Value.int .i64) h830)) ?_
                                    refine F_nil ?_
                                    refine L_nil (fun a ha => hNp715 _ a _ (Nat.lt_succ_self _) ⟨_, _, _, _, _, _, _, _, _, _, Is.cons ha (Is.cons ha (Is.cons ha (Is.cons ha (Is.cons ha (Is.cons ha (Is.nil ha) rfl) rfl) rfl) rfl) rfl) rfl, HS823.sel [0, 1, 2, 3, 4, 5] rfl, H⟩)
                      · have H := of_neg H c797
                        refine L_skip ?_
                        refine L_seq ?_
                        refine L_seq ?_
                        refine L_region ?_
                        refine F_val rfl rfl rfl (O_move rfl rfl) ?_
                        refine F_val rfl rfl rfl (O_ne rfl rfl rfl) ?_
                        refine F_val rfl rfl rfl (O_move rfl rfl) ?_
                        refine F_grp 3 [(128, .bool (decide ((z779 ≠ 0) ∨ (z790 ≠ 0)))), (0, .slice A_data_0 l_data_0.length c_data_0), (1, .slice A_steps_1 l_steps_1.length c_steps_1), (5, .pointer (some ⟨g49, 0, none⟩)), (6, .pointer (some ⟨g75, 0, none⟩)), (7, .int .i64 at_724), (8, .int .i64 i_725), (9, .int .i64 z736), (11, .int .u32 z745), (13, .int .u32 z778), (61, .int .u32 z745), (62, .int .i64 z746), (63, .int .u32 z754), (64, .int .u32 z745), (65, .bool (decide (z754 ≠ z745))), (68, .pointer (some ⟨g49, 0, none⟩)), (69, .int .i64 z762), (70, .int .i64 at_724), (71, .bool (decide (z762 ≠ at_724))), (74, .pointer (some ⟨g49, 0, none⟩)), (75, .int .i64 z770), (76, .int .i64 x739), (77, .bool (decide (z770 ≠ x739)))] ?_ ?_
                        · rcases Decidable.em (z779 ≠ 0) with c831 | c831
                          · refine F_know (i := 125) rfl (dec_t c831) ?_
                            refine F_gskip rfl rfl rfl rfl rfl rfl rfl ?_
                            refine F_gskip rfl rfl rfl rfl rfl rfl rfl ?_
                            refine F_val rfl rfl rfl (O_pickT rfl rfl rfl) ?_
                            refine F_know (i := 128) rfl (dec_or_t (q := z790 ≠ 0) c831) ?_
                            exact F_grpE (fun a ha => Is.cons ha (Is.cons ha (Is.cons ha (Is.cons ha (Is.cons ha (Is.cons ha (Is.cons ha (Is.cons ha (Is.cons ha (Is.cons ha (Is.cons ha (Is.cons ha (Is.cons ha (Is.cons ha (Is.cons ha (Is.cons ha (Is.cons ha (Is.cons ha (Is.cons ha (Is.cons ha (Is.cons ha (Is.cons ha (Is.cons ha (Is.nil ha) rfl) rfl) rfl) rfl) rfl) rfl) rfl) rfl) rfl) rfl) rfl) rfl) rfl) rfl) rfl) rfl) rfl) rfl) rfl) rfl) rfl) rfl) rfl)
                          · refine F_know (i := 125) rfl (dec_f c831) ?_
                            refine F_gval rfl rfl rfl rfl rfl rfl (O_move rfl rfl) ?_
                            refine F_gval rfl rfl rfl rfl rfl rfl (O_ne rfl rfl rfl) ?_
                            refine F_val rfl rfl rfl (O_pickF rfl rfl rfl) ?_
                            refine F_know (i := 128) rfl (dec_or_f (q := z790 ≠ 0) c831) ?_
                            exact F_grpE (fun a ha => Is.cons ha (Is.cons ha (Is.cons ha (Is.cons ha (Is.cons ha (Is.cons ha (Is.cons ha (Is.cons ha (Is.cons ha (Is.cons ha (Is.cons ha (Is.cons ha (Is.cons ha (Is.cons ha (Is.cons ha (Is.cons ha (Is.cons ha (Is.cons ha (Is.cons ha (Is.cons ha (Is.cons ha (Is.cons ha (Is.cons ha (Is.nil ha) rfl) rfl) rfl) rfl) rfl) rfl) rfl) rfl) rfl) rfl) rfl) rfl) rfl) rfl) rfl) rfl) rfl) rfl) rfl) rfl) rfl) rfl) rfl)
                        · skip
                          refine F_val rfl rfl rfl (O_move rfl rfl) ?_
                          refine F_grp 4 [(133, .bool (decide (((z779 ≠ 0) ∨ (z790 ≠ 0)) ∨ (z778 ≠ z745)))), (0, .slice A_data_0 l_data_0.length c_data_0), (1, .slice A_steps_1 l_steps_1.length c_steps_1), (5, .pointer (some ⟨g49, 0, none⟩)), (6, .pointer (some ⟨g75, 0, none⟩)), (7, .int .i64 at_724), (8, .int .i64 i_725), (9, .int .i64 z736), (61, .int .u32 z745), (62, .int .i64 z746), (63, .int .u32 z754), (64, .int .u32 z745), (65, .bool (decide (z754 ≠ z745))), (68, .pointer (some ⟨g49, 0, none⟩)), (69, .int .i64 z762), (70, .int .i64 at_724), (71, .bool (decide (z762 ≠ at_724))), (74, .pointer (some ⟨g49, 0, none⟩)), (75, .int .i64 z770), (76, .int .i64 x739), (77, .bool (decide (z770 ≠ x739)))] ?_ ?_
                          · rcases Decidable.em ((z779 ≠ 0) ∨ (z790 ≠ 0)) with c832 | c832
                            · refine F_know (i := 129) rfl (dec_t c832) ?_
                              refine F_gskip rfl rfl rfl rfl rfl rfl rfl ?_
                              refine F_gskip rfl rfl rfl rfl rfl rfl rfl ?_
                              refine F_gskip rfl rfl rfl rfl rfl rfl rfl ?_
                              refine F_val rfl rfl rfl (O_pickT rfl rfl rfl) ?_
                              refine F_know (i := 133) rfl (dec_or_t (q := z778 ≠ z745) c832) ?_
                              exact F_grpE (fun a ha => Is.cons ha (Is.cons ha (Is.cons ha (Is.cons ha (Is.cons ha (Is.cons ha (Is.cons ha (Is.cons ha (Is.cons ha (Is.cons ha (Is.cons ha (Is.cons ha (Is.cons ha (Is.cons ha (Is.cons ha (Is.cons ha (Is.cons ha (Is.cons ha (Is.cons ha (Is.cons ha (Is.cons ha (Is.nil ha) rfl) rfl) rfl) rfl) rfl) rfl) rfl) rfl) rfl) rfl) rfl) rfl) rfl) rfl) rfl) rfl) rfl) rfl) rfl) rfl) rfl)
                            · refine F_know (i := 129) rfl (dec_f c832) ?_
                              refine F_gval rfl rfl rfl rfl rfl rfl (O_move rfl rfl) ?_
                              refine F_gval rfl rfl rfl rfl rfl rfl (O_move rfl rfl) ?_
                              refine F_gval rfl rfl rfl rfl rfl rfl (O_ne rfl rfl rfl) ?_
                              refine F_val rfl rfl rfl (O_pickF rfl rfl rfl) ?_
                              refine F_know (i := 133) rfl (dec_or_f (q := z778 ≠ z745) c832) ?_
                              exact F_grpE (fun a ha => Is.cons ha (Is.cons ha (Is.cons ha (Is.cons ha (Is.cons ha (Is.cons ha (Is.cons ha (Is.cons ha (Is.cons ha (Is.cons ha (Is.cons ha (Is.cons ha (Is.cons ha (Is.cons ha (Is.cons ha (Is.cons ha (Is.cons ha (Is.cons ha (Is.cons ha (Is.cons ha (Is.cons ha (Is.nil ha) rfl) rfl) rfl) rfl) rfl) rfl) rfl) rfl) rfl) rfl) rfl) rfl) rfl) rfl) rfl) rfl) rfl) rfl) rfl) rfl) rfl)
                          · skip
                            refine F_val rfl rfl rfl (O_move rfl rfl) ?_
                            rcases Decidable.em (((z779 ≠ 0) ∨ (z790 ≠ 0)) ∨ (z778 ≠ z745)) with c833 | c833
                            · have H := of_pos H c833
                              refine F_know (i := 134) rfl (dec_t c833) ?_
                              refine F_gskip rfl rfl rfl rfl rfl rfl rfl ?_
                              refine F_gskip rfl rfl rfl rfl rfl rfl rfl ?_
                              refine F_gskip rfl rfl rfl rfl rfl rfl rfl ?_
                              refine F_gskip rfl rfl rfl rfl rfl rfl rfl ?_
                              refine F_gskip rfl rfl rfl rfl rfl rfl rfl ?_
                              refine F_gskip rfl rfl rfl rfl rfl rfl rfl ?_
                              refine F_val rfl rfl rfl (O_pickT rfl rfl rfl) ?_
                              refine F_nil ?_
                              refine L_cond rfl (fun _ => ?_) (fun hx => by cases hx)
                              refine L_seq ?_
                              refine L_region ?_
                              refine F_val rfl rfl rfl (O_assign rfl rfl) ?_
                              refine F_nil ?_
                              refine L_ret (fun a ha => (hO729 .ret a _ rfl (hOp715 .ret a _ rfl (hOb468 .ret a _ rfl (hOj80 .ret a _ rfl (post_ret1 ha rfl rfl ?_))))))
                              obtain rfl := Option.some.inj H
                              obtain rfl := Option.some.inj (show (some false : Option (Bool)) = some _ from HOj80)
                              exact ⟨rfl, HS794.sel [] rfl⟩
                            · have H := of_neg H c833
                              refine F_know (i := 134) rfl (dec_f c833) ?_
                              refine F_gval rfl rfl rfl rfl rfl rfl (O_move rfl rfl) ?_
                              obtain ⟨z838, h837, H⟩ := of_bind H
                              refine F_gcall (xs := [.tmp 135]) rfl rfl rfl rfl rfl rfl rfl Try.func29 nm29 rfl rfl ((bits_Reader_At.calls (HS794.give [] rfl (Lent.box HS794 (Lent.own HS794 (Lent.nil) (i := 5) rfl rfl ((HS794.cells_own (i := 5) rfl).self)) (i := 4) rfl rfl (HS794.cells_box (i := 4) rfl).self)) h837).mono (fun e w hc => ?_))
                              obtain ⟨rfl, HSo⟩ := hc
                              refine ⟨.int .i64 z838, rfl, ?_⟩
                              have HS840 : Hp S0 w0 w [.rd A_data_0 (rowC (Eint .u8) l_data_0), .rd A_steps_1 (rowC (Eint .i64) l_steps_1), .box g49 [.slice A784 z780.length c785, .int .i64 z781] 102, .own A784 c785 (rowC (Eint .u8) z780) 5 (Eint .u8).sz, .box g75 [.slice A795 z791.length c796, .int .i64 z792] 102, .own A795 c796 (rowC (Eint .u8) z791) 5 (Eint .u8).sz] := (HS794.back [] HSo rfl).sel [0, 1, 2, 3, 4, 5] rfl
                              refine F_gval rfl rfl rfl rfl rfl rfl (O_move rfl rfl) ?_
                              refine F_gval rfl rfl rfl rfl rfl rfl (O_move rfl rfl) ?_
                              refine F_gval rfl rfl rfl rfl rfl rfl (O_add rfl rfl rfl) ?_
                              refine F_gval rfl rfl rfl rfl rfl rfl (O_ne rfl rfl rfl) ?_
                              refine F_val rfl rfl rfl (O_pickF rfl rfl rfl) ?_
                              refine F_nil ?_
                              refine L_condP rfl (fun c841 => ?_) (fun c841 => ?_)
                              · have H := of_pos H c841
                                refine L_seq ?_
                                refine L_region ?_
                                refine F_val rfl rfl rfl (O_assign rfl rfl) ?_
                                refine F_nil ?_
                                refine L_ret (fun a ha => (hO729 .ret a _ rfl (hOp715 .ret a _ rfl (hOb468 .ret a _ rfl (hOj80 .ret a _ rfl (post_ret1 ha rfl rfl ?_))))))
                                obtain rfl := Option.some.inj H
                                obtain rfl := Option.some.inj (show (some false : Option (Bool)) = some _ from HOj80)
                                exact ⟨rfl, HS840.sel [] rfl⟩
                              · have H := of_neg H c841
                                refine L_skip ?_
                                refine L_region ?_
                                refine F_val rfl rfl rfl (O_move rfl rfl) ?_
                                refine F_val rfl rfl rfl (O_move rfl rfl) ?_
                                refine F_val rfl rfl rfl (O_add rfl rfl rfl) ?_
                                obtain ⟨x842, h843, H⟩ := of_bnd H
                                refine F_val rfl rfl rfl (O_assign' rfl rfl (congrArg (Value.int .i64) h843)) ?_
                                refine F_nil ?_
                                refine L_endB hN729 ?_
                                refine L_region ?_
                                refine F_val rfl rfl rfl (O_move rfl rfl) ?_
                                refine F_val rfl rfl rfl (O_add rfl rfl rfl) ?_
                                obtain ⟨x844, h845, H⟩ := of_bnd H
                                refine F_val rfl rfl rfl (O_assign' rfl rfl (congrArg (Value.int .i64) h845)) ?_
                                refine F_nil ?_
                                refine L_nil (fun a ha => hNp715 _ a _ (Nat.lt_succ_self _) ⟨_, _, _, _, _, _, _, _, _, _, Is.cons ha (Is.cons ha (Is.cons ha (Is.cons ha (Is.cons ha (Is.cons ha (Is.nil ha) rfl) rfl) rfl) rfl) rfl) rfl, HS840.sel [0, 1, 2, 3, 4, 5] rfl, H⟩)
            · have H := of_neg H c728
              refine L_exitB (fun a w h => hOp715 (.exit 0) a w rfl (hXb468 a w h)) ?_
              refine L_nil (fun a ha => hNj80 a _ ⟨_, _, _, _, _, _, _, _, _, (Option.some.inj H).symm, Is.cons ha (Is.cons ha (Is.cons ha (Is.nil ha) rfl) rfl) rfl, HS727.sel [0, 1, 2, 3, 4, 5] rfl⟩)
        · obtain ⟨l461, l464, y465, y466, at_467, A459, c460, A462, c463, rfl, ha, HS847⟩ := hR
          refine wpLF_app ?_ ha
          have H := (onR_inr _ _ _).symm.trans H
          refine L_seq ?_
          refine L_region ?_
          refine F_val rfl rfl rfl (O_move rfl rfl) ?_
          obtain ⟨z852, h851, H⟩ := of_bind H
          refine F_call (xs := [.tmp 145]) rfl rfl rfl rfl Try.func29 nm29 rfl rfl ((bits_Reader_At.calls (HS847.give [] rfl (Lent.box HS847 (Lent.own HS847 (Lent.nil) (i := 3) rfl rfl ((HS847.cells_own (i := 3) rfl).self)) (i := 2) rfl rfl (HS847.cells_box (i := 2) rfl).self)) h851).mono (fun e w hc => ?_))
          obtain ⟨rfl, HSo⟩ := hc
          refine ⟨.int .i64 z852, rfl, ?_⟩
          have HS854 : Hp S0 w0 w [.rd A_data_0 (rowC (Eint .u8) l_data_0), .rd A_steps_1 (rowC (Eint .i64) l_steps_1), .box g49 [.slice A459 l461.length c460, .int .i64 y465] 102, .own A459 c460 (rowC (Eint .u8) l461) 5 (Eint .u8).sz, .box g75 [.slice A462 l464.length c463, .int .i64 y466] 102, .own A462 c463 (rowC (Eint .u8) l464) 5 (Eint .u8).sz] := (HS847.back [] HSo rfl).sel [0, 1, 2, 3, 4, 5] rfl
          refine F_val rfl rfl rfl (O_move rfl rfl) ?_
          refine F_val rfl rfl rfl (O_eq rfl rfl rfl) ?_
          refine F_val rfl rfl rfl (O_move rfl rfl) ?_
          rcases Decidable.em (z852 = at_467) with c855 | c855
          · have H := of_pos H c855
            refine F_know (i := 149) rfl (dec_t c855) ?_
            refine F_gval rfl rfl rfl rfl rfl rfl (O_move rfl rfl) ?_
            obtain ⟨z860, h859, H⟩ := of_bind H
            refine F_gcall (xs := [.tmp 150]) rfl rfl rfl rfl rfl rfl rfl Try.func29 nm29 rfl rfl ((bits_Reader_At.calls (HS854.give [] rfl (Lent.box HS854 (Lent.own HS854 (Lent.nil) (i := 5) rfl rfl ((HS854.cells_own (i := 5) rfl).self)) (i := 4) rfl rfl (HS854.cells_box (i := 4) rfl).self)) h859).mono (fun e w hc => ?_))
            obtain ⟨rfl, HSo⟩ := hc
            refine ⟨.int .i64 z860, rfl, ?_⟩
            have HS862 : Hp S0 w0 w [.rd A_data_0 (rowC (Eint .u8) l_data_0), .rd A_steps_1 (rowC (Eint .i64) l_steps_1), .box g49 [.slice A459 l461.length c460, .int .i64 y465] 102, .own A459 c460 (rowC (Eint .u8) l461) 5 (Eint .u8).sz, .box g75 [.slice A462 l464.length c463, .int .i64 y466] 102, .own A462 c463 (rowC (Eint .u8) l464) 5 (Eint .u8).sz] := (HS854.back [] HSo rfl).sel [0, 1, 2, 3, 4, 5] rfl
            refine F_gval rfl rfl rfl rfl rfl rfl (O_move rfl rfl) ?_
            refine F_gval rfl rfl rfl rfl rfl rfl (O_eq rfl rfl rfl) ?_
            refine F_val rfl rfl rfl (O_pickT rfl rfl rfl) ?_
            refine F_val rfl rfl rfl (O_assign rfl rfl) ?_
            refine F_nil ?_
            refine L_ret (fun a ha => (post_ret1 ha rfl rfl ?_))
            obtain rfl := Option.some.inj H
            exact ⟨rfl, HS862.sel [] rfl⟩
          · have H := of_neg H c855
            refine F_know (i := 149) rfl (dec_f c855) ?_
            refine F_gskip rfl rfl rfl rfl rfl rfl rfl ?_
            refine F_gskip rfl rfl rfl rfl rfl rfl rfl ?_
            refine F_gskip rfl rfl rfl rfl rfl rfl rfl ?_
            refine F_gskip rfl rfl rfl rfl rfl rfl rfl ?_
            refine F_val rfl rfl rfl (O_pickF rfl rfl rfl) ?_
            refine F_val rfl rfl rfl (O_assign rfl rfl) ?_
            refine F_nil ?_
            refine L_ret (fun a ha => (post_ret1 ha rfl rfl ?_))
            obtain rfl := Option.some.inj H
            exact ⟨rfl, HS854.sel [] rfl⟩

end Go.Proofs.Ytmbcoaiaeeckiaa
