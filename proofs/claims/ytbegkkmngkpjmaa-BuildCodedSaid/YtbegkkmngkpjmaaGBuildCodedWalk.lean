import Derived.Test.YtbegkkmngkpjmaaGBuildCodedWalk2
set_option linter.unusedVariables false
set_option linter.unusedSimpArgs false
set_option maxRecDepth 10000
set_option maxHeartbeats 1000000
namespace Go.Proofs.Ytbegkkmngkpjmaa
open Go Go.V Go.V.Pu
/-! function 62: (*valise/bits.Writer).Bytes -/
theorem bits_Writer_Bytes.calls {S0 : Nat → Prop} {w0 : World} {g_w_0 : Nat} {A_w_0_bytes : Option Addr} {c_w_0_bytes : Nat} {w_0_bytes : List Int} {w_0_count : Int} {r : List Int} (HS0 : Hp S0 w0 w0 [.rd (some ⟨g_w_0, 0, none⟩) [.slice A_w_0_bytes w_0_bytes.length c_w_0_bytes, .int .i64 w_0_count], .rd A_w_0_bytes (rowC (Eint .u8) w_0_bytes)]) (h : bits_Writer_Bytes.f w_0_bytes w_0_count = some r) :
    Calls Try.prog 62 ([.pointer (some ⟨g_w_0, 0, none⟩)] : List Value).toArray w0 (fun e w => ∃ (A1 : Option Addr), ∃ (c1 : Nat), e = .returned (.slice A1 r.length c1) ∧ Hp S0 w0 w [.own A1 c1 (rowC (Eint .u8) r) 5 (Eint .u8).sz]) := by
  have H : ((if (w_0_bytes.length : Int) = 0 then (some ([] : List Int)) else (gd ((0 : Int) ≤ (w_0_bytes.length : Int) ∧ (w_0_bytes.length : Int) * 1 ≤ 281474976710656) (bnd (List.replicate ((w_0_bytes.length : Int) : Int).toNat (0 : Int)) fun l8 => bnd (cpy l8 w_0_bytes) fun l15 => some l15))) : Option (List Int)) = some r := h
  refine calls_start Try.func62 rfl rfl ?_
  refine L_seq ?_
  refine L_region ?_
  refine F_val rfl rfl rfl (O_assign rfl rfl) ?_
  refine F_nil ?_
  refine L_seq ?_
  refine L_seq ?_
  refine L_region ?_
  refine F_val rfl rfl rfl (O_move rfl rfl) ?_
  refine F_val rfl rfl rfl (O_peq rfl rfl rfl Try.underlying78) ?_
  refine F_val rfl rfl rfl (O_move rfl rfl) ?_
  refine F_gval rfl rfl rfl rfl rfl rfl (O_move rfl rfl) ?_
  refine F_gval rfl rfl rfl rfl rfl rfl (O_nilCheck rfl rfl) ?_
  refine F_gval rfl rfl rfl rfl rfl rfl (O_fieldB rfl rfl field101_0) ?_
  refine F_gval rfl rfl rfl rfl rfl rfl (O_loadB rfl rfl flat46 (HS0.cells_rd (i := 0) rfl) rfl) ?_
  refine F_gval rfl rfl rfl rfl rfl rfl (O_len rfl rfl Try.underlying46) ?_
  refine F_gval rfl rfl rfl rfl rfl rfl (O_eq rfl rfl rfl) ?_
  refine F_val rfl rfl rfl (O_pickF rfl rfl rfl) ?_
  refine F_nil ?_
  refine L_condP rfl (fun c1 => ?_) (fun c1 => ?_)
  · have H := of_pos H c1
    refine L_seq ?_
    refine L_region ?_
    refine F_val rfl rfl rfl (O_assign rfl rfl) ?_
    refine F_nil ?_
    have HS2 := HS0.addNil 5 (Eint .u8).sz
    refine L_ret (fun a ha => (post_ret1 ha rfl rfl ?_))
    obtain rfl := Option.some.inj H
    exact ⟨_, _, rfl, HS2.sel [2] rfl⟩
  · have H := of_neg H c1
    refine L_skip ?_
    refine L_seq ?_
    refine L_region ?_
    refine F_val rfl rfl rfl (O_move rfl rfl) ?_
    refine F_val rfl rfl rfl (O_nilCheck rfl rfl) ?_
    refine F_val rfl rfl rfl (O_fieldB rfl rfl field101_0) ?_
    refine F_val rfl rfl rfl (O_loadB rfl rfl flat46 (HS0.cells_rd (i := 0) rfl) rfl) ?_
    refine F_val rfl rfl rfl (O_len rfl rfl Try.underlying46) ?_
    obtain ⟨⟨g6, g7⟩, H⟩ := of_gd H
    obtain ⟨l8, h9, H⟩ := of_bnd H
    refine F_makeE (E := (Eint .u8)) rfl rfl rfl rfl rfl rfl Try.underlying46 info5 rfl (by decide) (by decide) g6 g7 HS0 h9 (fun w4 A10 c11 HS5 => ?_)
    have HS5 : Hp S0 w0 w4 [.rd (some ⟨g_w_0, 0, none⟩) [.slice A_w_0_bytes w_0_bytes.length c_w_0_bytes, .int .i64 w_0_count], .rd A_w_0_bytes (rowC (Eint .u8) w_0_bytes), .own A10 c11 (rowC (Eint .u8) l8) 5 (Eint .u8).sz] := HS5
    refine F_val rfl rfl rfl (O_assign rfl rfl) ?_
    refine F_nil ?_
    refine L_seq ?_
    refine L_region ?_
    refine F_val rfl rfl rfl (O_move rfl rfl) ?_
    refine F_val rfl rfl rfl (O_move rfl rfl) ?_
    refine F_val rfl rfl rfl (O_nilCheck rfl rfl) ?_
    refine F_val rfl rfl rfl (O_fieldB rfl rfl field101_0) ?_
    refine F_val rfl rfl rfl (O_loadB rfl rfl flat46 (HS5.cells_rd (i := 0) rfl) rfl) ?_
    obtain ⟨l15, h16, H⟩ := of_bnd H
    refine F_copyE (E := (Eint .u8)) (xs := l8) (ys := w_0_bytes) (i := 2) rfl rfl rfl rfl Try.underlying46 size5 rfl rfl HS5 rfl (HS5.cells_rd (i := 1) rfl) h16 (fun w13 HS14 => ?_)
    have e17 : l8.length = l15.length := by rw [← h16, cpy_length]
    refine F_know (i := 3) rfl (congrArg (fun n => Value.slice A10 n c11) e17) ?_
    have HS14 : Hp S0 w0 w13 [.rd (some ⟨g_w_0, 0, none⟩) [.slice A_w_0_bytes w_0_bytes.length c_w_0_bytes, .int .i64 w_0_count], .rd A_w_0_bytes (rowC (Eint .u8) w_0_bytes), .own A10 c11 (rowC (Eint .u8) l15) 5 (Eint .u8).sz] := HS14
    refine F_nil ?_
    refine L_seq ?_
    refine L_region ?_
    refine F_val rfl rfl rfl (O_move rfl rfl) ?_
    refine F_val rfl rfl rfl (O_assign rfl rfl) ?_
    refine F_nil ?_
    refine L_ret (fun a ha => (post_ret1 ha rfl rfl ?_))
    obtain rfl := Option.some.inj H
    exact ⟨_, _, rfl, HS14.sel [2] rfl⟩

/-! function 61: valise/bits.NewReader -/
theorem bits_NewReader.calls {S0 : Nat → Prop} {w0 : World} {A_data_0 : Option Addr} {c_data_0 : Nat} {l_data_0 : List Int} {r : Option (List Int × Int)} (HS0 : Hp S0 w0 w0 [.rd A_data_0 (rowC (Eint .u8) l_data_0)]) (hc_data_0 : l_data_0.length ≤ c_data_0) (h : bits_NewReader.f l_data_0 = some r) :
    Calls Try.prog 61 ([.slice A_data_0 l_data_0.length c_data_0] : List Value).toArray w0 (fun e w => match r with | none => e = .returned (.pointer none) ∧ Hp S0 w0 w [] | some x => ∃ (g0 : Nat), ∃ (A0_0 : Option Addr), ∃ (c0_0 : Nat), e = .returned (.pointer (some ⟨g0, 0, none⟩)) ∧ Hp S0 w0 w [.box g0 [.slice A0_0 x.1.length c0_0, .int .i64 x.2] 119, .own A0_0 c0_0 (rowC (Eint .u8) x.1) 5 (Eint .u8).sz]) := by
  have H : ((if 33554432 < (l_data_0.length : Int) then (some none) else (gd ((0 : Int) ≤ (l_data_0.length : Int) ∧ (l_data_0.length : Int) * 1 ≤ 281474976710656) (bnd (List.replicate ((l_data_0.length : Int) : Int).toNat (0 : Int)) fun l6 => bnd (cpy l6 l_data_0) fun l13 => some (some (l13, 0))))) : Option (Option (List Int × Int))) = some r := h
  refine calls_start Try.func61 rfl rfl ?_
  refine L_seq ?_
  refine L_region ?_
  refine F_val rfl rfl rfl (O_assign rfl rfl) ?_
  refine F_nil ?_
  refine L_seq ?_
  refine L_seq ?_
  refine L_region ?_
  refine F_val rfl rfl rfl (O_move rfl rfl) ?_
  refine F_val rfl rfl rfl (O_len rfl rfl Try.underlying46) ?_
  refine F_val rfl rfl rfl (O_gt rfl rfl rfl) ?_
  refine F_nil ?_
  refine L_condP rfl (fun c1 => ?_) (fun c1 => ?_)
  · have H := of_pos H c1
    refine L_seq ?_
    refine L_region ?_
    refine F_val rfl rfl rfl (O_assign rfl rfl) ?_
    refine F_nil ?_
    refine L_ret (fun a ha => (post_ret1 ha rfl rfl ?_))
    obtain rfl := Option.some.inj H
    exact ⟨rfl, HS0.sel [] rfl⟩
  · have H := of_neg H c1
    refine L_skip ?_
    refine L_seq ?_
    refine L_region ?_
    refine F_val rfl rfl rfl (O_move rfl rfl) ?_
    refine F_val rfl rfl rfl (O_len rfl rfl Try.underlying46) ?_
    obtain ⟨⟨g4, g5⟩, H⟩ := of_gd H
    obtain ⟨l6, h7, H⟩ := of_bnd H
    refine F_makeE (E := (Eint .u8)) rfl rfl rfl rfl rfl rfl Try.underlying46 info5 rfl (by decide) (by decide) g4 g5 HS0 h7 (fun w2 A8 c9 HS3 => ?_)
    have HS3 : Hp S0 w0 w2 [.rd A_data_0 (rowC (Eint .u8) l_data_0), .own A8 c9 (rowC (Eint .u8) l6) 5 (Eint .u8).sz] := HS3
    refine F_val rfl rfl rfl (O_assign rfl rfl) ?_
    refine F_nil ?_
    refine L_seq ?_
    refine L_region ?_
    refine F_val rfl rfl rfl (O_move rfl rfl) ?_
    refine F_val rfl rfl rfl (O_move rfl rfl) ?_
    obtain ⟨l13, h14, H⟩ := of_bnd H
    refine F_copyE (E := (Eint .u8)) (xs := l6) (ys := l_data_0) (i := 1) rfl rfl rfl rfl Try.underlying46 size5 rfl rfl HS3 rfl (HS3.cells_rd (i := 0) rfl) h14 (fun w11 HS12 => ?_)
    have e15 : l6.length = l13.length := by rw [← h14, cpy_length]
    refine F_know (i := 3) rfl (congrArg (fun n => Value.slice A8 n c9) e15) ?_
    have HS12 : Hp S0 w0 w11 [.rd A_data_0 (rowC (Eint .u8) l_data_0), .own A8 c9 (rowC (Eint .u8) l13) 5 (Eint .u8).sz] := HS12
    refine F_nil ?_
    refine L_seq ?_
    refine L_region ?_
    refine F_val rfl rfl rfl (O_move rfl rfl) ?_
    refine F_val rfl rfl rfl (O_build (vs := [(0, .slice A8 l13.length c9)]) (v := .agg #[.slice A8 l13.length c9, .int .i64 0]) rfl rfl rfl (fun w => by kernel_rfl)) ?_
    refine F_box (C := [.slice A8 l13.length c9, .int .i64 0]) rfl rfl rfl rfl rfl rfl HS12 (fun w16 g18 HS17 => ?_)
    have HS17 : Hp S0 w0 w16 [.rd A_data_0 (rowC (Eint .u8) l_data_0), .own A8 c9 (rowC (Eint .u8) l13) 5 (Eint .u8).sz, .box g18 [.slice A8 l13.length c9, .int .i64 0] 119] := HS17
    refine F_val rfl rfl rfl (O_assign rfl rfl) ?_
    refine F_nil ?_
    refine L_ret (fun a ha => (post_ret1 ha rfl rfl ?_))
    obtain rfl := Option.some.inj H
    exact ⟨_, _, _, rfl, HS17.sel [2, 1] rfl⟩

/-! function 63: valise/code.NewDecoder -/
theorem code_NewDecoder.calls {S0 : Nat → Prop} {w0 : World} {A_lens_0 : Option Addr} {c_lens_0 : Nat} {l_lens_0 : List Int} {r : Option (List Int × List Int × List Int × List Int × List Int) × Int} (HS0 : Hp S0 w0 w0 [.rd A_lens_0 (rowC (Eint .i64) l_lens_0)]) (hc_lens_0 : l_lens_0.length ≤ c_lens_0) (h : code_NewDecoder.f l_lens_0 = some r) :
    Calls Try.prog 63 ([.slice A_lens_0 l_lens_0.length c_lens_0] : List Value).toArray w0 (fun e w => match r.1 with | none => e = .returned (.tuple #[.pointer none, .int .i64 r.2]) ∧ Hp S0 w0 w [] | some x => ∃ (g0 : Nat), ∃ (A0_0 : Option Addr), ∃ (c0_0 : Nat), ∃ (A0_1 : Option Addr), ∃ (c0_1 : Nat), ∃ (A0_2 : Option Addr), ∃ (c0_2 : Nat), e = .returned (.tuple #[.pointer (some ⟨g0, 0, none⟩), .int .i64 r.2]) ∧ Hp S0 w0 w [.box g0 (([.slice A0_0 x.1.length c0_0, .slice A0_1 x.2.1.length c0_1] : List Value) ++ rowC (Eint .i64) x.2.2.1 ++ rowC (Eint .i64) x.2.2.2.1 ++ ([.slice A0_2 x.2.2.2.2.length c0_2] : List Value)) 121, .own A0_0 c0_0 (rowC (Eint .i64) x.1) 3 (Eint .i64).sz, .own A0_1 c0_1 (rowC (Eint .i64) x.2.1) 3 (Eint .i64).sz, .own A0_2 c0_2 (rowC (Eint .i64) x.2.2.2.2) 3 (Eint .i64).sz]) := by
  have H : (((code_count.f l_lens_0).bind fun (z5, z6) => gd (z5.length = 16) (if z6 ≠ 0 then (some (none, z6)) else ((code_shape.f z5).bind fun z19 => if z19 = 0 then (some (none, 53)) else ((code_refused.f z19).bind fun z26 => if z26 ≠ 0 then (some (none, z26)) else ((code_makeTable.f l_lens_0 z5).bind fun (z35, z36, z37, z38) => gd (z37.length = 16) (gd (z38.length = 16) ((code_NewDecoder.l11 FU ([] : List Int) 1 z35).bind fun l927 => some (some (z35, z36, z37, z38, l927), 0)))))))) : Option (Option (List Int × List Int × List Int × List Int × List Int) × Int)) = some r := h
  refine calls_start Try.func63 rfl rfl ?_
  refine L_seq ?_
  refine L_region ?_
  refine F_val rfl rfl rfl (O_assign rfl rfl) ?_
  refine F_val rfl rfl rfl (O_assign rfl rfl) ?_
  refine F_nil ?_
  refine L_seq ?_
  refine L_region ?_
  refine F_val rfl rfl rfl (O_move rfl rfl) ?_
  obtain ⟨⟨z5, z6⟩, h4, H⟩ := of_bind H
  refine F_call (xs := [.tmp 12]) rfl rfl rfl rfl Try.func71 nm71 rfl rfl ((code_count.calls (HS0.give [] rfl (Lent.rd HS0 (Lent.nil) (i := 0) rfl ((HS0.cells_rd (i := 0) rfl).self))) hc_lens_0 h4).mono (fun e w hc => ?_))
  obtain ⟨rfl, HSo⟩ := hc
  refine ⟨.tuple #[.agg (rowC (Eint .i64) z5).toArray, .int .i64 z6], rfl, ?_⟩
  have HS8 : Hp S0 w0 w [.rd A_lens_0 (rowC (Eint .i64) l_lens_0)] := (HS0.back [] HSo rfl).sel [0] rfl
  refine F_val rfl rfl rfl (O_move rfl rfl) ?_
  refine F_val rfl rfl rfl (O_extract (v := .agg (rowC (Eint .i64) z5).toArray) rfl rfl rfl) ?_
  refine F_val rfl rfl rfl (O_extract (v := .int .i64 z6) rfl rfl rfl) ?_
  refine F_alloc (C := rowC (Eint .i64) (List.replicate 16 (0 : Int))) rfl rfl rfl rfl zero103 rfl HS8 (fun w9 g11 HS10 => ?_)
  have HS10 : Hp S0 w0 w9 [.rd A_lens_0 (rowC (Eint .i64) l_lens_0), .box g11 (rowC (Eint .i64) (List.replicate 16 (0 : Int))) 103] := HS10
  obtain ⟨g15, H⟩ := of_gd H
  refine F_stSg 1 (rowC (Eint .i64) z5) [] (rowC (Eint .i64) (List.replicate 16 (0 : Int))) (rowC (Eint .i64) z5) [] rfl rfl rfl rfl rfl size103 HS10 rfl rfl ones_row (by simp only [List.append_assoc, List.cons_append, List.nil_append, List.append_nil]) (by simp only [List.append_assoc, List.cons_append, List.nil_append, List.append_nil]) rfl (row_len List.length_replicate) (row_len g15) (fun w13 HS14 => ?_)
  have HS14 : Hp S0 w0 w13 [.rd A_lens_0 (rowC (Eint .i64) l_lens_0), .box g11 (rowC (Eint .i64) z5) 103] := HS14
  refine F_val rfl rfl rfl (O_assign rfl rfl) ?_
  refine F_nil ?_
  refine L_seq ?_
  refine L_seq ?_
  refine L_region ?_
  refine F_val rfl rfl rfl (O_move rfl rfl) ?_
  refine F_val rfl rfl rfl (O_ne rfl rfl rfl) ?_
  refine F_nil ?_
  refine L_condP rfl (fun c16 => ?_) (fun c16 => ?_)
  · have H := of_pos H c16
    refine L_seq ?_
    refine L_region ?_
    refine F_val rfl rfl rfl (O_move rfl rfl) ?_
    refine F_val rfl rfl rfl (O_assign rfl rfl) ?_
    refine F_val rfl rfl rfl (O_assign rfl rfl) ?_
    refine F_nil ?_
    refine L_ret (fun a ha => (post_ret2 ha rfl rfl rfl ?_))
    obtain rfl := Option.some.inj H
    exact ⟨rfl, HS14.sel [] rfl⟩
  · have H := of_neg H c16
    refine L_skip ?_
    refine L_seq ?_
    refine L_region ?_
    refine F_val rfl rfl rfl (O_loadSg [] (rowC (Eint .i64) z5) [] rfl rfl wide103 (HS14.cells_box (i := 1) rfl) (by simp only [List.append_assoc, List.cons_append, List.nil_append, List.append_nil]) rfl (row_len g15) (by decide)) ?_
    obtain ⟨z19, h18, H⟩ := of_bind H
    refine F_qcall (v := .int .i64 z19) (xs := [.tmp 19]) rfl rfl rfl rfl Try.func73 nm73 rfl rfl ((code_shape.calls (HS14.give [] rfl (Lent.nil)) h18).mono (fun e w hc => ?_)) (fun w20 hw21 => ?_)
    · obtain ⟨rfl, h⟩ := hc
      exact ⟨rfl, h.chg0⟩
    have HS22 := HS14.keep hw21
    refine F_val rfl rfl rfl (O_assign rfl rfl) ?_
    refine F_nil ?_
    refine L_seq ?_
    refine L_seq ?_
    refine L_region ?_
    refine F_val rfl rfl rfl (O_move rfl rfl) ?_
    refine F_val rfl rfl rfl (O_eq rfl rfl rfl) ?_
    refine F_nil ?_
    refine L_condP rfl (fun c23 => ?_) (fun c23 => ?_)
    · have H := of_pos H c23
      refine L_seq ?_
      refine L_region ?_
      refine F_val rfl rfl rfl (O_assign rfl rfl) ?_
      refine F_val rfl rfl rfl (O_assign rfl rfl) ?_
      refine F_nil ?_
      refine L_ret (fun a ha => (post_ret2 ha rfl rfl rfl ?_))
      obtain rfl := Option.some.inj H
      exact ⟨rfl, HS22.sel [] rfl⟩
    · have H := of_neg H c23
      refine L_skip ?_
      refine L_seq ?_
      refine L_seq ?_
      refine L_region ?_
      refine F_val rfl rfl rfl (O_move rfl rfl) ?_
      obtain ⟨z26, h25, H⟩ := of_bind H
      refine F_qcall (v := .int .i64 z26) (xs := [.tmp 23]) rfl rfl rfl rfl Try.func72 nm72 rfl rfl ((code_refused.calls (HS22.give [] rfl (Lent.nil)) h25).mono (fun e w hc => ?_)) (fun w27 hw28 => ?_)
      · obtain ⟨rfl, h⟩ := hc
        exact ⟨rfl, h.chg0⟩
      have HS29 := HS22.keep hw28
      refine F_val rfl rfl rfl (O_assign rfl rfl) ?_
      refine F_nil ?_
      refine L_seq ?_
      refine L_region ?_
      refine F_val rfl rfl rfl (O_move rfl rfl) ?_
      refine F_val rfl rfl rfl (O_ne rfl rfl rfl) ?_
      refine F_nil ?_
      refine L_condP rfl (fun c30 => ?_) (fun c30 => ?_)
      · have H := of_pos H c30
        refine L_seq ?_
        refine L_region ?_
        refine F_val rfl rfl rfl (O_move rfl rfl) ?_
        refine F_val rfl rfl rfl (O_assign rfl rfl) ?_
        refine F_val rfl rfl rfl (O_assign rfl rfl) ?_
        refine F_nil ?_
        refine L_ret (fun a ha => (post_ret2 ha rfl rfl rfl ?_))
        obtain rfl := Option.some.inj H
        exact ⟨rfl, HS29.sel [] rfl⟩
      · have H := of_neg H c30
        refine L_skip ?_
        refine L_seq ?_
        refine L_region ?_
        refine F_val rfl rfl rfl (O_move rfl rfl) ?_
        refine F_val rfl rfl rfl (O_loadSg [] (rowC (Eint .i64) z5) [] rfl rfl wide103 (HS29.cells_box (i := 1) rfl) (by simp only [List.append_assoc, List.cons_append, List.nil_append, List.append_nil]) rfl (row_len g15) (by decide)) ?_
        obtain ⟨⟨z35, z36, z37, z38⟩, h34, H⟩ := of_bind H
        refine F_call (xs := [.tmp 28, .tmp 29]) rfl rfl rfl rfl Try.func74 nm74 rfl rfl ((code_makeTable.calls (HS29.give [] rfl (Lent.rd HS29 (Lent.nil) (i := 0) rfl ((HS29.cells_rd (i := 0) rfl).self))) hc_lens_0 h34).mono (fun e w hc => ?_))
        obtain ⟨A41, c42, A44, c45, rfl, HSo⟩ := hc
        refine ⟨.agg (([.slice A41 z35.length c42, .slice A44 z36.length c45] : List Value) ++ rowC (Eint .i64) z37 ++ rowC (Eint .i64) z38).toArray, rfl, ?_⟩
        have HS40 : Hp S0 w0 w [.rd A_lens_0 (rowC (Eint .i64) l_lens_0), .box g11 (rowC (Eint .i64) z5) 103, .own A41 c42 (rowC (Eint .i64) z35) 3 (Eint .i64).sz, .own A44 c45 (rowC (Eint .i64) z36) 3 (Eint .i64).sz] := (HS29.back [] HSo rfl).sel [0, 1, 2, 3] rfl
        obtain ⟨g47, H⟩ := of_gd H
        obtain ⟨g48, H⟩ := of_gd H
        refine F_val rfl rfl rfl (O_buildS (C := ([.slice A41 z35.length c42, .slice A44 z36.length c45] : List Value) ++ rowC (Eint .i64) z37 ++ rowC (Eint .i64) z38 ++ ([.slice none 0 0] : List Value)) [(0, .agg (([.slice A41 z35.length c42, .slice A44 z36.length c45] : List Value) ++ rowC (Eint .i64) z37 ++ rowC (Eint .i64) z38).toArray)] rfl rfl rfl struct121 (Fills.cons [] [.slice none 0 0, .slice none 0 0, .int .i64 0, .int .i64 0, .int .i64 0, .int .i64 0, .int .i64 0, .int .i64 0, .int .i64 0, .int .i64 0, .int .i64 0, .int .i64 0, .int .i64 0, .int .i64 0, .int .i64 0, .int .i64 0, .int .i64 0, .int .i64 0, .int .i64 0, .int .i64 0, .int .i64 0, .int .i64 0, .int .i64 0, .int .i64 0, .int .i64 0, .int .i64 0, .int .i64 0, .int .i64 0, .int .i64 0, .int .i64 0, .int .i64 0, .int .i64 0, .int .i64 0, .int .i64 0] (([.slice A41 z35.length c42, .slice A44 z36.length c45] : List Value) ++ rowC (Eint .i64) z37 ++ rowC (Eint .i64) z38) [.slice none 0 0] (([.slice A41 z35.length c42, .slice A44 z36.length c45] : List Value) ++ rowC (Eint .i64) z37 ++ rowC (Eint .i64) z38 ++ ([.slice none 0 0] : List Value)) rfl (by simp only [List.append_assoc, List.cons_append, List.nil_append, List.append_nil]) rfl rfl rfl (app_len (app_len rfl (row_len g47) rfl) (row_len g48) rfl) (by simp only [List.append_assoc, List.cons_append, List.nil_append, List.append_nil]) (Fills.nil _))) ?_
        have HS53 := HS40.addNil 3 (Eint .i64).sz
        have HS53 : Hp S0 w0 w [.rd A_lens_0 (rowC (Eint .i64) l_lens_0), .box g11 (rowC (Eint .i64) z5) 103, .own A41 c42 (rowC (Eint .i64) z35) 3 (Eint .i64).sz, .own A44 c45 (rowC (Eint .i64) z36) 3 (Eint .i64).sz, .own none 0 (rowC (Eint .i64) ([] : List Int)) 3 (Eint .i64).sz] := HS53
        refine F_box (C := ([.slice A41 z35.length c42, .slice A44 z36.length c45] : List Value) ++ rowC (Eint .i64) z37 ++ rowC (Eint .i64) z38 ++ ([.slice none ([] : List Int).length 0] : List Value)) rfl rfl rfl rfl rfl rfl HS53 (fun w49 g51 HS50 => ?_)
        have HS50 : Hp S0 w0 w49 [.rd A_lens_0 (rowC (Eint .i64) l_lens_0), .box g11 (rowC (Eint .i64) z5) 103, .own A41 c42 (rowC (Eint .i64) z35) 3 (Eint .i64).sz, .own A44 c45 (rowC (Eint .i64) z36) 3 (Eint .i64).sz, .own none 0 (rowC (Eint .i64) ([] : List Int)) 3 (Eint .i64).sz, .box g51 (([.slice A41 z35.length c42, .slice A44 z36.length c45] : List Value) ++ rowC (Eint .i64) z37 ++ rowC (Eint .i64) z38 ++ ([.slice none ([] : List Int).length 0] : List Value)) 121] := HS50
        refine F_val rfl rfl rfl (O_assign rfl rfl) ?_
        refine F_nil ?_
        refine L_seq ?_
        refine L_seq ?_
        refine L_region ?_
        refine F_val rfl rfl rfl (O_assign rfl rfl) ?_
        refine F_nil ?_
        obtain ⟨yj55, Hyj55, H⟩ := of_bind H
        refine L_join (fun a w => ∃ (l927 : List Int), ∃ (A925 : Option Addr), ∃ (c926 : Nat), yj55 = l927 ∧ Is Try.f63.ntmps a [(7, .pointer (some ⟨g51, 0, none⟩))] ∧ Hp S0 w0 w [.rd A_lens_0 (rowC (Eint .i64) l_lens_0), .box g51 (([.slice A41 z35.length c42, .slice A44 z36.length c45] : List Value) ++ rowC (Eint .i64) z37 ++ rowC (Eint .i64) z38 ++ ([.slice A925 l927.length c926] : List Value)) 121, .own A41 c42 (rowC (Eint .i64) z35) 3 (Eint .i64).sz, .own A44 c45 (rowC (Eint .i64) z36) 3 (Eint .i64).sz, .own A925 c926 (rowC (Eint .i64) l927) 3 (Eint .i64).sz]) (fun Qj55 hNj55 hOj55 => ?_) (fun a w hR => ?_)
        · skip
          have H := Hyj55
          refine L_blk (fun Qb928 hNb928 hXb928 hOb928 => ?_)
          refine L_lp (fun k a w => ∃ (l1507 : List Int), ∃ (l_1508 : Int), ∃ (A1505 : Option Addr), ∃ (c1506 : Nat), Is Try.f63.ntmps a [(7, .pointer (some ⟨g51, 0, none⟩)), (8, .int .i64 l_1508)] ∧ Hp S0 w0 w [.rd A_lens_0 (rowC (Eint .i64) l_lens_0), .box g51 (([.slice A41 z35.length c42, .slice A44 z36.length c45] : List Value) ++ rowC (Eint .i64) z37 ++ rowC (Eint .i64) z38 ++ ([.slice A1505 l1507.length c1506] : List Value)) 121, .own A41 c42 (rowC (Eint .i64) z35) 3 (Eint .i64).sz, .own A44 c45 (rowC (Eint .i64) z36) 3 (Eint .i64).sz, .own A1505 c1506 (rowC (Eint .i64) l1507) 3 (Eint .i64).sz] ∧ code_NewDecoder.l11 k l1507 l_1508 z35 = some yj55) FU (fun a ha => ⟨_, _, _, _, Is.cons ha (Is.cons ha (Is.nil ha) rfl) rfl, HS50.sel [0, 5, 2, 3, 4] rfl, H⟩) (fun kp1504 a w1509 hI Qp1504 hNp1504 hOp1504 => ?_)
          obtain ⟨l1507, l_1508, A1505, c1506, ha, HS1510, HAp1504⟩ := hI
          cases kp1504 with
          | zero => cases (show (none : Option _) = some _ from HAp1504)
          | succ kp1504 =>
            have H := (code_NewDecoder.l11.eq_2 ..).symm.trans HAp1504
            refine wpLF_app ?_ ha
            refine L_seq ?_
            refine L_seq ?_
            refine L_region ?_
            refine F_val rfl rfl rfl (O_move rfl rfl) ?_
            refine F_val rfl rfl rfl (O_le rfl rfl rfl) ?_
            refine F_nil ?_
            refine L_condP rfl (fun c1511 => ?_) (fun c1511 => ?_)
            · have H := of_pos H c1511
              refine L_skip ?_
              refine L_seq ?_
              refine L_blk (fun Q1512 hN1512 hX1512 hO1512 => ?_)
              refine L_seq ?_
              refine L_region ?_
              refine F_val rfl rfl rfl (O_move rfl rfl) ?_
              refine F_val rfl rfl rfl (O_nilCheck rfl rfl) ?_
              refine F_val rfl rfl rfl (O_fieldB rfl rfl field121_0) ?_
              refine F_val rfl rfl rfl (O_fieldB rfl rfl field109_0) ?_
              refine F_val rfl rfl rfl (O_loadB rfl rfl flat22 (HS1510.cells_box (i := 1) rfl) (cell_seg (j := 0) [] [.slice A41 z35.length c42] (([.slice A44 z36.length c45] : List Value) ++ rowC (Eint .i64) z37 ++ rowC (Eint .i64) z38 ++ ([.slice A1505 l1507.length c1506] : List Value)) (by simp only [List.append_assoc, List.cons_append, List.nil_append, List.append_nil]) rfl rfl)) ?_
              refine F_val rfl rfl rfl (O_len rfl rfl Try.underlying22) ?_
              refine F_val rfl rfl rfl (O_move rfl rfl) ?_
              refine F_nil ?_
              obtain ⟨yj1513, Hyj1513, H⟩ := of_bind H
              refine L_join (fun a w => ∃ (l1654 : List Int), ∃ (A1652 : Option Addr), ∃ (c1653 : Nat), yj1513 = l1654 ∧ Is Try.f63.ntmps a [(7, .pointer (some ⟨g51, 0, none⟩)), (8, .int .i64 l_1508)] ∧ Hp S0 w0 w [.rd A_lens_0 (rowC (Eint .i64) l_lens_0), .box g51 (([.slice A41 z35.length c42, .slice A44 z36.length c45] : List Value) ++ rowC (Eint .i64) z37 ++ rowC (Eint .i64) z38 ++ ([.slice A1652 l1654.length c1653] : List Value)) 121, .own A41 c42 (rowC (Eint .i64) z35) 3 (Eint .i64).sz, .own A44 c45 (rowC (Eint .i64) z36) 3 (Eint .i64).sz, .own A1652 c1653 (rowC (Eint .i64) l1654) 3 (Eint .i64).sz]) (fun Qj1513 hNj1513 hOj1513 => ?_) (fun a w hR => ?_)
              · skip
                have H := Hyj1513
                refine L_blk (fun Qb1655 hNb1655 hXb1655 hOb1655 => ?_)
                refine L_lp (fun k a w => ∃ (l1747 : List Int), ∃ (t1748 : Int), ∃ (A1745 : Option Addr), ∃ (c1746 : Nat), Is Try.f63.ntmps a [(7, .pointer (some ⟨g51, 0, none⟩)), (8, .int .i64 l_1508), (41, .slice A41 z35.length c42), (42, .int .i64 (z35.length : Int)), (43, .int .i64 t1748)] ∧ Hp S0 w0 w [.rd A_lens_0 (rowC (Eint .i64) l_lens_0), .box g51 (([.slice A41 z35.length c42, .slice A44 z36.length c45] : List Value) ++ rowC (Eint .i64) z37 ++ rowC (Eint .i64) z38 ++ ([.slice A1745 l1747.length c1746] : List Value)) 121, .own A41 c42 (rowC (Eint .i64) z35) 3 (Eint .i64).sz, .own A44 c45 (rowC (Eint .i64) z36) 3 (Eint .i64).sz, .own A1745 c1746 (rowC (Eint .i64) l1747) 3 (Eint .i64).sz] ∧ code_NewDecoder.l13 k l1747 t1748 z35 l_1508 = some yj1513) FU (fun a ha => ⟨_, _, _, _, Is.cons ha (Is.cons ha (Is.cons ha (Is.cons ha (Is.cons ha (Is.nil ha) rfl) rfl) rfl) rfl) rfl, HS1510.sel [0, 1, 2, 3, 4] rfl, H⟩) (fun kp1744 a w1749 hI Qp1744 hNp1744 hOp1744 => ?_)
                obtain ⟨l1747, t1748, A1745, c1746, ha, HS1750, HAp1744⟩ := hI
                cases kp1744 with
                | zero => cases (show (none : Option _) = some _ from HAp1744)
                | succ kp1744 =>
                  have H := (code_NewDecoder.l13.eq_2 ..).symm.trans HAp1744
                  refine wpLF_app ?_ ha
                  refine L_seq ?_
                  refine L_region ?_
                  refine F_val rfl rfl rfl (O_lt rfl rfl rfl) ?_
                  refine F_nil ?_
                  refine L_seq ?_
                  refine L_condP rfl (fun c1751 => ?_) (fun c1751 => ?_)
                  · have H := of_pos H c1751
                    refine L_skip ?_
                    refine L_seq ?_
                    refine L_blk (fun Q1752 hN1752 hX1752 hO1752 => ?_)
                    refine L_seq ?_
                    refine L_region ?_
                    refine F_val rfl rfl rfl (O_move rfl rfl) ?_
                    obtain ⟨⟨g1753, g1754⟩, H⟩ := of_gd H
                    refine F_val rfl rfl rfl (O_idx rfl rfl rfl Try.underlying22 size3 g1753 g1754 (Cells.isA (HS1750.cells_own (i := 2) rfl) (rowC_ne (E := (Eint .i64)) g1753 g1754 (by decide)))) ?_
                    refine F_val rfl rfl rfl (O_loadC rfl rfl flat3 (HS1750.cells_own (i := 2) rfl) (int_cell g1753 g1754)) ?_
                    refine F_val rfl rfl rfl (O_assign rfl rfl) ?_
                    obtain ⟨x1755, h1756, H⟩ := of_bnd H
                    refine F_val rfl rfl rfl (O_assign' rfl rfl (congrArg (Value.int .i64) h1756)) ?_
                    refine F_nil ?_
                    refine L_seq ?_
                    refine L_region ?_
                    refine F_val rfl rfl rfl (O_move rfl rfl) ?_
                    refine F_val rfl rfl rfl (O_move rfl rfl) ?_
                    refine F_val rfl rfl rfl (O_eq rfl rfl rfl) ?_
                    refine F_nil ?_
                    obtain ⟨yj1757, Hyj1757, H⟩ := of_bind H
                    refine L_join (fun a w => ∃ (l1775 : List Int), ∃ (A1773 : Option Addr), ∃ (c1774 : Nat), yj1757 = l1775 ∧ Is Try.f63.ntmps a [(7, .pointer (some ⟨g51, 0, none⟩)), (8, .int .i64 l_1508), (41, .slice A41 z35.length c42), (42, .int .i64 (z35.length : Int)), (43, .int .i64 t1748)] ∧ Hp S0 w0 w [.rd A_lens_0 (rowC (Eint .i64) l_lens_0), .box g51 (([.slice A41 z35.length c42, .slice A44 z36.length c45] : List Value) ++ rowC (Eint .i64) z37 ++ rowC (Eint .i64) z38 ++ ([.slice A1773 l1775.length c1774] : List Value)) 121, .own A41 c42 (rowC (Eint .i64) z35) 3 (Eint .i64).sz, .own A44 c45 (rowC (Eint .i64) z36) 3 (Eint .i64).sz, .own A1773 c1774 (rowC (Eint .i64) l1775) 3 (Eint .i64).sz]) (fun Qj1757 hNj1757 hOj1757 => ?_) (fun a w hR => ?_)
                    · skip
                      have H := Hyj1757
                      refine L_condP rfl (fun c1776 => ?_) (fun c1776 => ?_)
                      · have H := of_pos H c1776
                        refine L_region ?_
                        refine F_val rfl rfl rfl (O_move rfl rfl) ?_
                        refine F_val rfl rfl rfl (O_move rfl rfl) ?_
                        refine F_val rfl rfl rfl (O_nilCheck rfl rfl) ?_
                        refine F_val rfl rfl rfl (O_fieldB rfl rfl field121_1) ?_
                        refine F_val rfl rfl rfl (O_loadB rfl rfl flat22 (HS1750.cells_box (i := 1) rfl) (cell_seg (j := 0) (([.slice A41 z35.length c42, .slice A44 z36.length c45] : List Value) ++ rowC (Eint .i64) z37 ++ rowC (Eint .i64) z38) [.slice A1745 l1747.length c1746] [] (by simp only [List.append_assoc, List.cons_append, List.nil_append, List.append_nil]) (app_len (app_len rfl (row_len g47) rfl) (row_len g48) rfl) rfl)) ?_
                        refine F_val rfl rfl rfl (O_move rfl rfl) ?_
                        refine F_litE (E := (Eint .i64)) (e := 3) [(0, .int .i64 t1748)] [t1748] rfl rfl rfl rfl rfl rfl rfl (by decide) (fun w => by kernel_rfl) HS1750 (fun w1777 A1779 c1780 HS1778 => ?_)
                        have HS1778 : Hp S0 w0 w1777 [.rd A_lens_0 (rowC (Eint .i64) l_lens_0), .box g51 (([.slice A41 z35.length c42, .slice A44 z36.length c45] : List Value) ++ rowC (Eint .i64) z37 ++ rowC (Eint .i64) z38 ++ ([.slice A1745 l1747.length c1746] : List Value)) 121, .own A41 c42 (rowC (Eint .i64) z35) 3 (Eint .i64).sz, .own A44 c45 (rowC (Eint .i64) z36) 3 (Eint .i64).sz, .own A1745 c1746 (rowC (Eint .i64) l1747) 3 (Eint .i64).sz, .own A1779 c1780 (rowC (Eint .i64) [t1748]) 3 (Eint .i64).sz] := HS1778
                        obtain ⟨l1784, h1785, H⟩ := of_bnd H
                        obtain ⟨g1786, H⟩ := of_gd H
                        refine F_appE (E := (Eint .i64)) (xs := l1747) (ys := [t1748]) (i := 4) rfl rfl rfl rfl Try.underlying22 info3 rfl (by decide) (by decide) rfl rfl HS1778 rfl (HS1778.cells_own (i := 5) rfl) h1785 g1786 (fun w1782 A1787 c1788 HS1783 => ?_)
                        have HS1783 : Hp S0 w0 w1782 [.rd A_lens_0 (rowC (Eint .i64) l_lens_0), .box g51 (([.slice A41 z35.length c42, .slice A44 z36.length c45] : List Value) ++ rowC (Eint .i64) z37 ++ rowC (Eint .i64) z38 ++ ([.slice A1745 l1747.length c1746] : List Value)) 121, .own A41 c42 (rowC (Eint .i64) z35) 3 (Eint .i64).sz, .own A44 c45 (rowC (Eint .i64) z36) 3 (Eint .i64).sz, .own A1787 c1788 (rowC (Eint .i64) l1784) 3 (Eint .i64).sz, .own A1779 c1780 (rowC (Eint .i64) [t1748]) 3 (Eint .i64).sz] := HS1783
                        refine F_val rfl rfl rfl (O_nilCheck rfl rfl) ?_
                        refine F_val rfl rfl rfl (O_fieldB rfl rfl field121_1) ?_
                        refine F_stSg 1 (([.slice A41 z35.length c42, .slice A44 z36.length c45] : List Value) ++ rowC (Eint .i64) z37 ++ rowC (Eint .i64) z38 ++ ([.slice A1787 l1784.length c1788] : List Value)) (([.slice A41 z35.length c42, .slice A44 z36.length c45] : List Value) ++ rowC (Eint .i64) z37 ++ rowC (Eint .i64) z38) [.slice A1745 l1747.length c1746] [.slice A1787 l1784.length c1788] [] rfl rfl rfl rfl rfl size22 HS1783 rfl rfl (ones_lit rfl) (by simp only [List.append_assoc, List.cons_append, List.nil_append, List.append_nil]) (by simp only [List.append_assoc, List.cons_append, List.nil_append, List.append_nil]) (app_len (app_len rfl (row_len g47) rfl) (row_len g48) rfl) rfl rfl (fun w1789 HS1790 => ?_)
                        have HS1790 : Hp S0 w0 w1789 [.rd A_lens_0 (rowC (Eint .i64) l_lens_0), .box g51 (([.slice A41 z35.length c42, .slice A44 z36.length c45] : List Value) ++ rowC (Eint .i64) z37 ++ rowC (Eint .i64) z38 ++ ([.slice A1787 l1784.length c1788] : List Value)) 121, .own A41 c42 (rowC (Eint .i64) z35) 3 (Eint .i64).sz, .own A44 c45 (rowC (Eint .i64) z36) 3 (Eint .i64).sz, .own A1787 c1788 (rowC (Eint .i64) l1784) 3 (Eint .i64).sz, .own A1779 c1780 (rowC (Eint .i64) [t1748]) 3 (Eint .i64).sz] := HS1790
                        refine F_nil ?_
                        refine L_nil (fun a ha => hNj1757 a _ ⟨_, _, _, (Option.some.inj H).symm, Is.cons ha (Is.cons ha (Is.cons ha (Is.cons ha (Is.cons ha (Is.nil ha) rfl) rfl) rfl) rfl) rfl, HS1790.sel [0, 1, 2, 3, 4] rfl⟩)
                      · have H := of_neg H c1776
                        refine L_skip ?_
                        refine L_nil (fun a ha => hNj1757 a _ ⟨_, _, _, (Option.some.inj H).symm, Is.cons ha (Is.cons ha (Is.cons ha (Is.cons ha (Is.cons ha (Is.nil ha) rfl) rfl) rfl) rfl) rfl, HS1750.sel [0, 1, 2, 3, 4] rfl⟩)
                    · obtain ⟨l1775, A1773, c1774, ej, ha, HS1792⟩ := hR
                      obtain rfl := ej.symm
                      refine wpLF_app ?_ ha
                      refine L_endB hN1752 ?_
                      refine L_region ?_
                      refine F_val rfl rfl rfl (O_add rfl rfl rfl) ?_
                      refine F_val rfl rfl rfl (O_move rfl rfl) ?_
                      refine F_nil ?_
                      refine L_nil (fun a ha => hNp1744 _ a _ (Nat.lt_succ_self _) ⟨_, _, _, _, Is.cons ha (Is.cons ha (Is.cons ha (Is.cons ha (Is.cons ha (Is.nil ha) rfl) rfl) rfl) rfl) rfl, HS1792.sel [0, 1, 2, 3, 4] rfl, H⟩)
                  · have H := of_neg H c1751
                    refine L_exitB (fun a w h => hOp1744 (.exit 2) a w rfl (hXb1655 a w h)) ?_
                    refine L_nil (fun a ha => hNj1513 a _ ⟨_, _, _, (Option.some.inj H).symm, Is.cons ha (Is.cons ha (Is.nil ha) rfl) rfl, HS1750.sel [0, 1, 2, 3, 4] rfl⟩)
              · obtain ⟨l1654, A1652, c1653, ej, ha, HS1794⟩ := hR
                obtain rfl := ej.symm
                refine wpLF_app ?_ ha
                refine L_endB hN1512 ?_
                refine L_region ?_
                refine F_val rfl rfl rfl (O_move rfl rfl) ?_
                refine F_val rfl rfl rfl (O_add rfl rfl rfl) ?_
                obtain ⟨x1795, h1796, H⟩ := of_bnd H
                refine F_val rfl rfl rfl (O_assign' rfl rfl (congrArg (Value.int .i64) h1796)) ?_
                refine F_nil ?_
                refine L_nil (fun a ha => hNp1504 _ a _ (Nat.lt_succ_self _) ⟨_, _, _, _, Is.cons ha (Is.cons ha (Is.nil ha) rfl) rfl, HS1794.sel [0, 1, 2, 3, 4] rfl, H⟩)
            · have H := of_neg H c1511
              refine L_exitB (fun a w h => hOp1504 (.exit 0) a w rfl (hXb928 a w h)) ?_
              refine L_nil (fun a ha => hNj55 a _ ⟨_, _, _, (Option.some.inj H).symm, Is.cons ha (Is.nil ha) rfl, HS1510.sel [0, 1, 2, 3, 4] rfl⟩)
        · obtain ⟨l927, A925, c926, ej, ha, HS1798⟩ := hR
          obtain rfl := ej.symm
          refine wpLF_app ?_ ha
          refine L_seq ?_
          refine L_region ?_
          refine F_val rfl rfl rfl (O_move rfl rfl) ?_
          refine F_val rfl rfl rfl (O_assign rfl rfl) ?_
          refine F_val rfl rfl rfl (O_assign rfl rfl) ?_
          refine F_nil ?_
          refine L_ret (fun a ha => (post_ret2 ha rfl rfl rfl ?_))
          obtain rfl := Option.some.inj H
          exact ⟨_, _, _, _, _, _, _, rfl, HS1798.sel [1, 2, 3, 4] rfl⟩

/-! function 86: (*valise/bits.Reader).ahead -/
theorem bits_Reader_ahead.calls {S0 : Nat → Prop} {w0 : World} {g_r_0 : Nat} {A_r_0_data : Option Addr} {c_r_0_data : Nat} {r_0_data : List Int} {r_0_at : Int} {n_1 : Int} {r : Int} (HS0 : Hp S0 w0 w0 [.rd (some ⟨g_r_0, 0, none⟩) [.slice A_r_0_data r_0_data.length c_r_0_data, .int .i64 r_0_at], .rd A_r_0_data (rowC (Eint .u8) r_0_data)]) (h : bits_Reader_ahead.f r_0_data r_0_at n_1 = some r) :
    Calls Try.prog 86 ([.pointer (some ⟨g_r_0, 0, none⟩), .int .i64 n_1] : List Value).toArray w0 (fun e w => e = .returned (.int .u32 r) ∧ Hp S0 w0 w []) := by
  have H : (((bits_Reader_ahead.l1 FU 0 0 r_0_at r_0_data n_1).bind fun v_81 => some (IntKind.u32.wrap v_81)) : Option (Int)) = some r := h
  refine calls_start Try.func86 rfl rfl ?_
  refine L_seq ?_
  refine L_region ?_
  refine F_val rfl rfl rfl (O_assign rfl rfl) ?_
  refine F_nil ?_
  refine L_seq ?_
  refine L_region ?_
  refine F_val rfl rfl rfl (O_assign rfl rfl) ?_
  refine F_nil ?_
  refine L_seq ?_
  refine L_region ?_
  refine F_val rfl rfl rfl (O_assign rfl rfl) ?_
  refine F_nil ?_
  refine L_seq ?_
  refine L_seq ?_
  refine L_region ?_
  refine F_val rfl rfl rfl (O_move rfl rfl) ?_
  refine F_val rfl rfl rfl (O_nilCheck rfl rfl) ?_
  refine F_val rfl rfl rfl (O_fieldB rfl rfl field119_1) ?_
  refine F_val rfl rfl rfl (O_loadB rfl rfl flat3 (HS0.cells_rd (i := 0) rfl) rfl) ?_
  refine F_val rfl rfl rfl (O_assign rfl rfl) ?_
  refine F_nil ?_
  obtain ⟨yj1, Hyj1, H⟩ := of_bind H
  refine L_join (fun a w => ∃ (v_81 : Int), yj1 = v_81 ∧ Is Try.f86.ntmps a [(5, .int .u64 v_81)] ∧ Hp S0 w0 w [.rd (some ⟨g_r_0, 0, none⟩) [.slice A_r_0_data r_0_data.length c_r_0_data, .int .i64 r_0_at], .rd A_r_0_data (rowC (Eint .u8) r_0_data)]) (fun Qj1 hNj1 hOj1 => ?_) (fun a w hR => ?_)
  · skip
    have H := Hyj1
    refine L_blk (fun Qb82 hNb82 hXb82 hOb82 => ?_)
    refine L_lp (fun k a w => ∃ (v_133 : Int), ∃ (got_134 : Int), ∃ (at_135 : Int), Is Try.f86.ntmps a [(0, .pointer (some ⟨g_r_0, 0, none⟩)), (1, .int .i64 n_1), (5, .int .u64 v_133), (6, .int .i64 got_134), (7, .int .i64 at_135)] ∧ Hp S0 w0 w [.rd (some ⟨g_r_0, 0, none⟩) [.slice A_r_0_data r_0_data.length c_r_0_data, .int .i64 r_0_at], .rd A_r_0_data (rowC (Eint .u8) r_0_data)] ∧ bits_Reader_ahead.l1 k v_133 got_134 at_135 r_0_data n_1 = some yj1) FU (fun a ha => ⟨_, _, _, Is.cons ha (Is.cons ha (Is.cons ha (Is.cons ha (Is.cons ha (Is.nil ha) rfl) rfl) rfl) rfl) rfl, HS0.sel [0, 1] rfl, H⟩) (fun kp132 a w136 hI Qp132 hNp132 hOp132 => ?_)
    obtain ⟨v_133, got_134, at_135, ha, HS137, HAp132⟩ := hI
    cases kp132 with
    | zero => cases (show (none : Option _) = some _ from HAp132)
    | succ kp132 =>
      have H := (bits_Reader_ahead.l1.eq_2 ..).symm.trans HAp132
      refine wpLF_app ?_ ha
      refine L_seq ?_
      refine L_seq ?_
      refine L_region ?_
      refine F_val rfl rfl rfl (O_move rfl rfl) ?_
      refine F_val rfl rfl rfl (O_move rfl rfl) ?_
      refine F_val rfl rfl rfl (O_lt rfl rfl rfl) ?_
      refine F_val rfl rfl rfl (O_move rfl rfl) ?_
      refine F_grp 9 [(27, .bool (decide ((got_134 < n_1) ∧ (at_135 < IntKind.i64.wrap (8 * (r_0_data.length : Int)))))), (0, .pointer (some ⟨g_r_0, 0, none⟩)), (1, .int .i64 n_1), (5, .int .u64 v_133), (6, .int .i64 got_134), (7, .int .i64 at_135)] ?_ ?_
      · rcases Decidable.em (got_134 < n_1) with c141 | c141
        · refine F_know (i := 18) rfl (dec_t c141) ?_
          refine F_gval rfl rfl rfl rfl rfl rfl (O_move rfl rfl) ?_
          refine F_gval rfl rfl rfl rfl rfl rfl (O_move rfl rfl) ?_
          refine F_gval rfl rfl rfl rfl rfl rfl (O_nilCheck rfl rfl) ?_
          refine F_gval rfl rfl rfl rfl rfl rfl (O_fieldB rfl rfl field119_0) ?_
          refine F_gval rfl rfl rfl rfl rfl rfl (O_loadB rfl rfl flat46 (HS137.cells_rd (i := 0) rfl) rfl) ?_
          refine F_gval rfl rfl rfl rfl rfl rfl (O_len rfl rfl Try.underlying46) ?_
          refine F_gval rfl rfl rfl rfl rfl rfl (O_mul rfl rfl rfl) ?_
          refine F_gval rfl rfl rfl rfl rfl rfl (O_lt rfl rfl rfl) ?_
          refine F_val rfl rfl rfl (O_pickT rfl rfl rfl) ?_
          refine F_know (i := 27) rfl (dec_and_t (q := at_135 < IntKind.i64.wrap (8 * (r_0_data.length : Int))) c141) ?_
          exact F_grpE (fun a ha => Is.cons ha (Is.cons ha (Is.cons ha (Is.cons ha (Is.cons ha (Is.cons ha (Is.nil ha) rfl) rfl) rfl) rfl) rfl) rfl)
        · refine F_know (i := 18) rfl (dec_f c141) ?_
          refine F_gskip rfl rfl rfl rfl rfl rfl rfl ?_
          refine F_gskip rfl rfl rfl rfl rfl rfl rfl ?_
          refine F_gskip rfl rfl rfl rfl rfl rfl rfl ?_
          refine F_gskip rfl rfl rfl rfl rfl rfl rfl ?_
          refine F_gskip rfl rfl rfl rfl rfl rfl rfl ?_
          refine F_gskip rfl rfl rfl rfl rfl rfl rfl ?_
          refine F_gskip rfl rfl rfl rfl rfl rfl rfl ?_
          refine F_gskip rfl rfl rfl rfl rfl rfl rfl ?_
          refine F_val rfl rfl rfl (O_pickF rfl rfl rfl) ?_
          refine F_know (i := 27) rfl (dec_and_f (q := at_135 < IntKind.i64.wrap (8 * (r_0_data.length : Int))) c141) ?_
          exact F_grpE (fun a ha => Is.cons ha (Is.cons ha (Is.cons ha (Is.cons ha (Is.cons ha (Is.cons ha (Is.nil ha) rfl) rfl) rfl) rfl) rfl) rfl)
      · skip
        refine F_nil ?_
        refine L_condP rfl (fun c142 => ?_) (fun c142 => ?_)
        · have H := of_pos H c142
          refine L_skip ?_
          refine L_blk (fun Q143 hN143 hX143 hO143 => ?_)
          refine L_seq ?_
          refine L_region ?_
          refine F_val rfl rfl rfl (O_move rfl rfl) ?_
          refine F_val rfl rfl rfl (O_rem rfl rfl rfl (by decide)) ?_
          obtain ⟨x144, h145, H⟩ := of_bnd H
          refine F_val rfl rfl rfl (O_assign' rfl rfl (congrArg (Value.int .i64) h145)) ?_
          refine F_nil ?_
          refine L_seq ?_
          refine L_region ?_
          refine F_val rfl rfl rfl (O_move rfl rfl) ?_
          refine F_val rfl rfl rfl (O_sub rfl rfl rfl) ?_
          refine F_val rfl rfl rfl (O_move rfl rfl) ?_
          refine F_val rfl rfl rfl (O_move rfl rfl) ?_
          refine F_val rfl rfl rfl (O_sub rfl rfl rfl) ?_
          refine F_val rfl rfl rfl (O_min rfl rfl rfl) ?_
          obtain ⟨x146, h147, H⟩ := of_bnd H
          refine F_val rfl rfl rfl (O_assign' rfl rfl (congrArg (Value.int .i64) h147)) ?_
          refine F_nil ?_
          refine L_seq ?_
          refine L_region ?_
          refine F_val rfl rfl rfl (O_move rfl rfl) ?_
          refine F_val rfl rfl rfl (O_nilCheck rfl rfl) ?_
          refine F_val rfl rfl rfl (O_fieldB rfl rfl field119_0) ?_
          refine F_val rfl rfl rfl (O_loadB rfl rfl flat46 (HS137.cells_rd (i := 0) rfl) rfl) ?_
          refine F_val rfl rfl rfl (O_move rfl rfl) ?_
          refine F_val rfl rfl rfl (O_quo rfl rfl rfl (by decide)) ?_
          obtain ⟨⟨g148, g149⟩, H⟩ := of_gd H
          refine F_val rfl rfl rfl (O_idx rfl rfl rfl Try.underlying46 size5 g148 g149 (Cells.isA (HS137.cells_rd (i := 1) rfl) (rowC_ne (E := (Eint .u8)) g148 g149 (by decide)))) ?_
          refine F_val rfl rfl rfl (O_loadC rfl rfl flat5 (HS137.cells_rd (i := 1) rfl) (int_cell g148 g149)) ?_
          refine F_val rfl rfl rfl (O_move rfl rfl) ?_
          refine F_val rfl rfl rfl (O_conv rfl rfl ⟨_, Try.underlying3⟩ Try.underlying43) ?_
          obtain ⟨g150, H⟩ := of_gd H
          refine F_val rfl rfl rfl (O_shr rfl rfl rfl g150) ?_
          refine F_val rfl rfl rfl (O_conv rfl rfl ⟨_, Try.underlying5⟩ Try.underlying129) ?_
          refine F_val rfl rfl rfl (O_move rfl rfl) ?_
          refine F_val rfl rfl rfl (O_conv rfl rfl ⟨_, Try.underlying3⟩ Try.underlying43) ?_
          obtain ⟨g151, H⟩ := of_gd H
          refine F_val rfl rfl rfl (O_shl rfl rfl rfl g151) ?_
          refine F_val rfl rfl rfl (O_sub rfl rfl rfl) ?_
          refine F_val rfl rfl rfl (O_and rfl rfl rfl) ?_
          obtain ⟨x152, h153, H⟩ := of_bnd H
          refine F_val rfl rfl rfl (O_assign' rfl rfl (congrArg (Value.int .u64) h153)) ?_
          refine F_nil ?_
          refine L_seq ?_
          refine L_region ?_
          refine F_val rfl rfl rfl (O_move rfl rfl) ?_
          refine F_val rfl rfl rfl (O_move rfl rfl) ?_
          refine F_val rfl rfl rfl (O_move rfl rfl) ?_
          refine F_val rfl rfl rfl (O_conv rfl rfl ⟨_, Try.underlying3⟩ Try.underlying43) ?_
          obtain ⟨g154, H⟩ := of_gd H
          refine F_val rfl rfl rfl (O_shl rfl rfl rfl g154) ?_
          refine F_val rfl rfl rfl (O_or rfl rfl rfl) ?_
          obtain ⟨x155, h156, H⟩ := of_bnd H
          refine F_val rfl rfl rfl (O_assign' rfl rfl (congrArg (Value.int .u64) h156)) ?_
          refine F_nil ?_
          refine L_seq ?_
          refine L_region ?_
          refine F_val rfl rfl rfl (O_move rfl rfl) ?_
          refine F_val rfl rfl rfl (O_move rfl rfl) ?_
          refine F_val rfl rfl rfl (O_add rfl rfl rfl) ?_
          obtain ⟨x157, h158, H⟩ := of_bnd H
          refine F_val rfl rfl rfl (O_assign' rfl rfl (congrArg (Value.int .i64) h158)) ?_
          refine F_nil ?_
          refine L_region ?_
          refine F_val rfl rfl rfl (O_move rfl rfl) ?_
          refine F_val rfl rfl rfl (O_move rfl rfl) ?_
          refine F_val rfl rfl rfl (O_add rfl rfl rfl) ?_
          obtain ⟨x159, h160, H⟩ := of_bnd H
          refine F_val rfl rfl rfl (O_assign' rfl rfl (congrArg (Value.int .i64) h160)) ?_
          refine F_nil ?_
          refine L_endB hN143 ?_
          refine L_nil (fun a ha => hNp132 _ a _ (Nat.lt_succ_self _) ⟨_, _, _, Is.cons ha (Is.cons ha (Is.cons ha (Is.cons ha (Is.cons ha (Is.nil ha) rfl) rfl) rfl) rfl) rfl, HS137.sel [0, 1] rfl, H⟩)
        · have H := of_neg H c142
          refine L_exitB (fun a w h => hOp132 (.exit 0) a w rfl (hXb82 a w h)) ?_
          refine L_nil (fun a ha => hNj1 a _ ⟨_, (Option.some.inj H).symm, Is.cons ha (Is.nil ha) rfl, HS137.sel [0, 1] rfl⟩)
  · obtain ⟨v_81, ej, ha, HS162⟩ := hR
    obtain rfl := ej.symm
    refine wpLF_app ?_ ha
    refine L_seq ?_
    refine L_region ?_
    refine F_val rfl rfl rfl (O_move rfl rfl) ?_
    refine F_val rfl rfl rfl (O_conv rfl rfl ⟨_, Try.underlying129⟩ Try.underlying114) ?_
    refine F_val rfl rfl rfl (O_assign rfl rfl) ?_
    refine F_nil ?_
    refine L_ret (fun a ha => (post_ret1 ha rfl rfl ?_))
    obtain rfl := Option.some.inj H
    exact ⟨rfl, HS162.sel [] rfl⟩

/-! function 87: (*valise/bits.Reader).Left -/
theorem bits_Reader_Left.calls {S0 : Nat → Prop} {w0 : World} {g_r_0 : Nat} {A_r_0_data : Option Addr} {c_r_0_data : Nat} {r_0_data : List Int} {r_0_at : Int} {r : Int} (HS0 : Hp S0 w0 w0 [.rd (some ⟨g_r_0, 0, none⟩) [.slice A_r_0_data r_0_data.length c_r_0_data, .int .i64 r_0_at], .rd A_r_0_data (rowC (Eint .u8) r_0_data)]) (h : bits_Reader_Left.f r_0_data r_0_at = some r) :
    Calls Try.prog 87 ([.pointer (some ⟨g_r_0, 0, none⟩)] : List Value).toArray w0 (fun e w => e = .returned (.int .i64 r) ∧ Hp S0 w0 w []) := by
  have H : ((some (IntKind.i64.wrap ((IntKind.i64.wrap (8 * (r_0_data.length : Int))) - r_0_at))) : Option (Int)) = some r := h
  refine calls_start Try.func87 rfl rfl ?_
  refine L_seq ?_
  refine L_region ?_
  refine F_val rfl rfl rfl (O_assign rfl rfl) ?_
  refine F_nil ?_
  refine L_seq ?_
  refine L_seq ?_
  refine L_region ?_
  refine F_val rfl rfl rfl (O_move rfl rfl) ?_
  refine F_val rfl rfl rfl (O_peq rfl rfl rfl Try.underlying84) ?_
  refine F_nil ?_
  refine L_cond rfl (fun hx => by cases hx) (fun _ => ?_)
  refine L_skip ?_
  refine L_seq ?_
  refine L_quiet mix (by kernel_rfl) ?_
  refine Q_val rfl rfl rfl (fun wq hq => O_move rfl rfl) ?_
  refine Q_val rfl rfl rfl (fun wq hq => O_nilCheck rfl rfl) ?_
  refine Q_val rfl rfl rfl (fun wq hq => O_fieldB rfl rfl field119_0) ?_
  refine Q_val rfl rfl rfl (fun wq hq => O_loadB rfl rfl flat46 ((HS0.keep hq).cells_rd (i := 0) rfl) rfl) ?_
  refine Q_val rfl rfl rfl (fun wq hq => O_len rfl rfl Try.underlying46) ?_
  refine Q_val rfl rfl rfl (fun wq hq => O_mul rfl rfl rfl) ?_
  refine Q_val rfl rfl rfl (fun wq hq => O_move rfl rfl) ?_
  refine Q_val rfl rfl rfl (fun wq hq => O_nilCheck rfl rfl) ?_
  refine Q_val rfl rfl rfl (fun wq hq => O_fieldB rfl rfl field119_1) ?_
  refine Q_val rfl rfl rfl (fun wq hq => O_loadB rfl rfl flat3 ((HS0.keep hq).cells_rd (i := 0) rfl) rfl) ?_
  refine Q_val rfl rfl rfl (fun wq hq => O_sub rfl rfl rfl) ?_
  refine Q_val rfl rfl rfl (fun wq hq => O_assign rfl rfl) ?_
  refine Q_nil (fun w1 hw2 => ?_)
  have HS3 := HS0.keep hw2
  refine L_ret (fun a ha => (post_ret1 ha rfl rfl ?_))
  obtain rfl := Option.some.inj H
  exact ⟨rfl, HS3.sel [] rfl⟩

/-! function 78: (*valise/bits.Reader).Peek -/
theorem bits_Reader_Peek.calls {S0 : Nat → Prop} {w0 : World} {g_r_0 : Nat} {A_r_0_data : Option Addr} {c_r_0_data : Nat} {r_0_data : List Int} {r_0_at : Int} {n_1 : Int} {r : Int × Int} (HS0 : Hp S0 w0 w0 [.rd (some ⟨g_r_0, 0, none⟩) [.slice A_r_0_data r_0_data.length c_r_0_data, .int .i64 r_0_at], .rd A_r_0_data (rowC (Eint .u8) r_0_data)]) (h : bits_Reader_Peek.f r_0_data r_0_at n_1 = some r) :
    Calls Try.prog 78 ([.pointer (some ⟨g_r_0, 0, none⟩), .int .i64 n_1] : List Value).toArray w0 (fun e w => e = .returned (.tuple #[.int .u32 r.1, .int .i64 r.2]) ∧ Hp S0 w0 w []) := by
  have H : ((if (n_1 < 0) ∨ (32 < n_1) then (some (0, 0)) else ((bits_Reader_ahead.f r_0_data r_0_at n_1).bind fun z8 => (bits_Reader_Left.f r_0_data r_0_at).bind fun z14 => some (z8, min n_1 z14))) : Option (Int × Int)) = some r := h
  refine calls_start Try.func78 rfl rfl ?_
  refine L_seq ?_
  refine L_region ?_
  refine F_val rfl rfl rfl (O_assign rfl rfl) ?_
  refine F_val rfl rfl rfl (O_assign rfl rfl) ?_
  refine F_nil ?_
  refine L_seq ?_
  refine L_seq ?_
  refine L_region ?_
  refine F_val rfl rfl rfl (O_move rfl rfl) ?_
  refine F_val rfl rfl rfl (O_peq rfl rfl rfl Try.underlying84) ?_
  refine F_val rfl rfl rfl (O_move rfl rfl) ?_
  refine F_gval rfl rfl rfl rfl rfl rfl (O_move rfl rfl) ?_
  refine F_gval rfl rfl rfl rfl rfl rfl (O_lt rfl rfl rfl) ?_
  refine F_val rfl rfl rfl (O_pickF rfl rfl rfl) ?_
  refine F_val rfl rfl rfl (O_move rfl rfl) ?_
  refine F_grp 3 [(15, .bool (decide ((n_1 < 0) ∨ (32 < n_1)))), (0, .pointer (some ⟨g_r_0, 0, none⟩)), (1, .int .i64 n_1)] ?_ ?_
  · rcases Decidable.em (n_1 < 0) with c4 | c4
    · refine F_know (i := 12) rfl (dec_t c4) ?_
      refine F_gskip rfl rfl rfl rfl rfl rfl rfl ?_
      refine F_gskip rfl rfl rfl rfl rfl rfl rfl ?_
      refine F_val rfl rfl rfl (O_pickT rfl rfl rfl) ?_
      refine F_know (i := 15) rfl (dec_or_t (q := 32 < n_1) c4) ?_
      exact F_grpE (fun a ha => Is.cons ha (Is.cons ha (Is.cons ha (Is.nil ha) rfl) rfl) rfl)
    · refine F_know (i := 12) rfl (dec_f c4) ?_
      refine F_gval rfl rfl rfl rfl rfl rfl (O_move rfl rfl) ?_
      refine F_gval rfl rfl rfl rfl rfl rfl (O_gt rfl rfl rfl) ?_
      refine F_val rfl rfl rfl (O_pickF rfl rfl rfl) ?_
      refine F_know (i := 15) rfl (dec_or_f (q := 32 < n_1) c4) ?_
      exact F_grpE (fun a ha => Is.cons ha (Is.cons ha (Is.cons ha (Is.nil ha) rfl) rfl) rfl)
  · skip
    refine F_nil ?_
    refine L_condP rfl (fun c5 => ?_) (fun c5 => ?_)
    · have H := of_pos H c5
      refine L_seq ?_
      refine L_region ?_
      refine F_val rfl rfl rfl (O_assign rfl rfl) ?_
      refine F_val rfl rfl rfl (O_assign rfl rfl) ?_
      refine F_nil ?_
      refine L_ret (fun a ha => (post_ret2 ha rfl rfl rfl ?_))
      obtain rfl := Option.some.inj H
      exact ⟨rfl, HS0.sel [] rfl⟩
    · have H := of_neg H c5
      refine L_skip ?_
      refine L_seq ?_
      refine L_region ?_
      refine F_val rfl rfl rfl (O_move rfl rfl) ?_
      refine F_val rfl rfl rfl (O_move rfl rfl) ?_
      obtain ⟨z8, h7, H⟩ := of_bind H
      refine F_qcall (v := .int .u32 z8) (xs := [.tmp 16, .tmp 17]) rfl rfl rfl rfl Try.func86 nm86 rfl rfl ((bits_Reader_ahead.calls (HS0.give [] rfl (Lent.rd HS0 (Lent.rd HS0 (Lent.nil) (i := 1) rfl ((HS0.cells_rd (i := 1) rfl).self)) (i := 0) rfl (HS0.cells_rd (i := 0) rfl).self)) h7).mono (fun e w hc => ?_)) (fun w9 hw10 => ?_)
      · obtain ⟨rfl, h⟩ := hc
        exact ⟨rfl, h.chg0⟩
      have HS11 := HS0.keep hw10
      refine F_val rfl rfl rfl (O_move rfl rfl) ?_
      refine F_val rfl rfl rfl (O_move rfl rfl) ?_
      obtain ⟨z14, h13, H⟩ := of_bind H
      refine F_qcall (v := .int .i64 z14) (xs := [.tmp 20]) rfl rfl rfl rfl Try.func87 nm87 rfl rfl ((bits_Reader_Left.calls (HS11.give [] rfl (Lent.rd HS11 (Lent.rd HS11 (Lent.nil) (i := 1) rfl ((HS11.cells_rd (i := 1) rfl).self)) (i := 0) rfl (HS11.cells_rd (i := 0) rfl).self)) h13).mono (fun e w hc => ?_)) (fun w15 hw16 => ?_)
      · obtain ⟨rfl, h⟩ := hc
        exact ⟨rfl, h.chg0⟩
      have HS17 := HS11.keep hw16
      refine F_val rfl rfl rfl (O_min rfl rfl rfl) ?_
      refine F_val rfl rfl rfl (O_assign rfl rfl) ?_
      refine F_val rfl rfl rfl (O_assign rfl rfl) ?_
      refine F_nil ?_
      refine L_ret (fun a ha => (post_ret2 ha rfl rfl rfl ?_))
      obtain rfl := Option.some.inj H
      exact ⟨rfl, HS17.sel [] rfl⟩

/-! function 79: (*valise/code.Decoder).none -/
theorem code_Decoder_none.calls {S0 : Nat → Prop} {w0 : World} {g_d_0 : Nat} {A_d_0_table_lens : Option Addr} {c_d_0_table_lens : Nat} {A_d_0_table_words : Option Addr} {c_d_0_table_words : Nat} {A_d_0_symbols : Option Addr} {c_d_0_symbols : Nat} {d_0_table_lens : List Int} {d_0_table_words : List Int} {d_0_table_counts : List Int} {d_0_table_first : List Int} {d_0_symbols : List Int} {word_1 : Int} {l_2 : Int} {r : Bool} (HS0 : Hp S0 w0 w0 [.rd (some ⟨g_d_0, 0, none⟩) (([.slice A_d_0_table_lens d_0_table_lens.length c_d_0_table_lens, .slice A_d_0_table_words d_0_table_words.length c_d_0_table_words] : List Value) ++ rowC (Eint .i64) d_0_table_counts ++ rowC (Eint .i64) d_0_table_first ++ ([.slice A_d_0_symbols d_0_symbols.length c_d_0_symbols] : List Value)), .rd A_d_0_table_lens (rowC (Eint .i64) d_0_table_lens), .rd A_d_0_table_words (rowC (Eint .i64) d_0_table_words), .rd A_d_0_symbols (rowC (Eint .i64) d_0_symbols)]) (h : code_Decoder_none.f d_0_table_lens d_0_table_words d_0_table_counts d_0_table_first d_0_symbols word_1 l_2 = some r) :
    Calls Try.prog 79 ([.pointer (some ⟨g_d_0, 0, none⟩), .int .i64 word_1, .int .i64 l_2] : List Value).toArray w0 (fun e w => e = .returned (.bool r) ∧ Hp S0 w0 w []) := by
  have H : (((if 0 < l_2 then (gd (d_0_table_counts.length = 16) (gd (d_0_table_first.length = 16) (some (decide ((d_0_symbols.length : Int) = 1))))) else (some false)).bind fun b3 => some (decide ((b3 = true) ∧ (0 < word_1)))) : Option (Bool)) = some r := h
  refine calls_start Try.func79 rfl rfl ?_
  refine L_seq ?_
  refine L_region ?_
  refine F_val rfl rfl rfl (O_assign rfl rfl) ?_
  refine F_nil ?_
  refine L_seq ?_
  refine L_region ?_
  refine F_val rfl rfl rfl (O_move rfl rfl) ?_
  refine F_val rfl rfl rfl (O_gt rfl rfl rfl) ?_
  refine F_val rfl rfl rfl (O_move rfl rfl) ?_
  obtain ⟨b3, Hb3, H⟩ := of_bind H
  refine F_grp 7 [(16, .bool b3), (1, .int .i64 word_1)] ?_ ?_
  · rcases Decidable.em (0 < l_2) with c7 | c7
    · refine F_know (i := 9) rfl (dec_t c7) ?_
      have H := of_pos Hb3 c7
      refine F_gval rfl rfl rfl rfl rfl rfl (O_move rfl rfl) ?_
      refine F_gval rfl rfl rfl rfl rfl rfl (O_nilCheck rfl rfl) ?_
      refine F_gval rfl rfl rfl rfl rfl rfl (O_fieldB rfl rfl field121_1) ?_
      obtain ⟨g8, H⟩ := of_gd H
      obtain ⟨g9, H⟩ := of_gd H
      refine F_gval rfl rfl rfl rfl rfl rfl (O_loadB rfl rfl flat22 (HS0.cells_rd (i := 0) rfl) (cell_seg (j := 0) (([.slice A_d_0_table_lens d_0_table_lens.length c_d_0_table_lens, .slice A_d_0_table_words d_0_table_words.length c_d_0_table_words] : List Value) ++ rowC (Eint .i64) d_0_table_counts ++ rowC (Eint .i64) d_0_table_first) [.slice A_d_0_symbols d_0_symbols.length c_d_0_symbols] [] (by simp only [List.append_assoc, List.cons_append, List.nil_append, List.append_nil]) (app_len (app_len rfl (row_len g8) rfl) (row_len g9) rfl) rfl)) ?_
      refine F_gval rfl rfl rfl rfl rfl rfl (O_len rfl rfl Try.underlying22) ?_
      refine F_gval rfl rfl rfl rfl rfl rfl (O_eq rfl rfl rfl) ?_
      refine F_val rfl rfl rfl (O_pickT rfl rfl rfl) ?_
      refine F_know (i := 16) rfl (congrArg Value.bool (Option.some.inj H)) ?_
      exact F_grpE (fun a ha => Is.cons ha (Is.cons ha (Is.nil ha) rfl) rfl)
    · refine F_know (i := 9) rfl (dec_f c7) ?_
      have H := of_neg Hb3 c7
      refine F_gskip rfl rfl rfl rfl rfl rfl rfl ?_
      refine F_gskip rfl rfl rfl rfl rfl rfl rfl ?_
      refine F_gskip rfl rfl rfl rfl rfl rfl rfl ?_
      refine F_gskip rfl rfl rfl rfl rfl rfl rfl ?_
      refine F_gskip rfl rfl rfl rfl rfl rfl rfl ?_
      refine F_gskip rfl rfl rfl rfl rfl rfl rfl ?_
      refine F_val rfl rfl rfl (O_pickF rfl rfl rfl) ?_
      refine F_know (i := 16) rfl (congrArg Value.bool (Option.some.inj H)) ?_
      exact F_grpE (fun a ha => Is.cons ha (Is.cons ha (Is.nil ha) rfl) rfl)
  · skip
    refine F_val rfl rfl rfl (O_move rfl rfl) ?_
    refine F_grp 3 [(20, .bool (decide ((b3 = true) ∧ (0 < word_1))))] ?_ ?_
    · rcases Decidable.em (b3 = true) with c13 | c13
      · refine F_know (i := 17) rfl (congrArg Value.bool c13) ?_
        refine F_gval rfl rfl rfl rfl rfl rfl (O_move rfl rfl) ?_
        refine F_gval rfl rfl rfl rfl rfl rfl (O_gt rfl rfl rfl) ?_
        refine F_val rfl rfl rfl (O_pickT rfl rfl rfl) ?_
        refine F_know (i := 20) rfl (dec_and_t (q := 0 < word_1) c13) ?_
        exact F_grpE (fun a ha => Is.cons ha (Is.nil ha) rfl)
      · refine F_know (i := 17) rfl (congrArg Value.bool (Bool.eq_false_iff.mpr c13)) ?_
        refine F_gskip rfl rfl rfl rfl rfl rfl rfl ?_
        refine F_gskip rfl rfl rfl rfl rfl rfl rfl ?_
        refine F_val rfl rfl rfl (O_pickF rfl rfl rfl) ?_
        refine F_know (i := 20) rfl (dec_and_f (q := 0 < word_1) c13) ?_
        exact F_grpE (fun a ha => Is.cons ha (Is.nil ha) rfl)
    · skip
      refine F_val rfl rfl rfl (O_assign rfl rfl) ?_
      refine F_nil ?_
      refine L_ret (fun a ha => (post_ret1 ha rfl rfl ?_))
      obtain rfl := Option.some.inj H
      exact ⟨rfl, HS0.sel [] rfl⟩

/-! function 80: (*valise/bits.Reader).Skip -/
theorem bits_Reader_Skip.calls {S0 : Nat → Prop} {w0 : World} {g_r_0 : Nat} {A_r_0_data : Option Addr} {c_r_0_data : Nat} {r_0_data : List Int} {r_0_at : Int} {n_1 : Int} {r : Int × List Int × Int} (HS0 : Hp S0 w0 w0 [.box g_r_0 [.slice A_r_0_data r_0_data.length c_r_0_data, .int .i64 r_0_at] 119, .own A_r_0_data c_r_0_data (rowC (Eint .u8) r_0_data) 5 (Eint .u8).sz]) (h : bits_Reader_Skip.f r_0_data r_0_at n_1 = some r) :
    Calls Try.prog 80 ([.pointer (some ⟨g_r_0, 0, none⟩), .int .i64 n_1] : List Value).toArray w0 (fun e w => ∃ (A_r_0_data' : Option Addr), ∃ (c_r_0_data' : Nat), e = .returned (.int .i64 r.1) ∧ Hp S0 w0 w [.box g_r_0 [.slice A_r_0_data' r.2.1.length c_r_0_data', .int .i64 r.2.2] 119, .own A_r_0_data' c_r_0_data' (rowC (Eint .u8) r.2.1) 5 (Eint .u8).sz]) := by
  have H : ((if n_1 < 0 then (some (1, r_0_data, r_0_at)) else ((bits_Reader_Left.f r_0_data r_0_at).bind fun z4 => if z4 < n_1 then (some (30, r_0_data, r_0_at)) else (some (0, r_0_data, IntKind.i64.wrap (r_0_at + n_1))))) : Option (Int × List Int × Int)) = some r := h
  refine calls_start Try.func80 rfl rfl ?_
  refine L_seq ?_
  refine L_region ?_
  refine F_val rfl rfl rfl (O_assign rfl rfl) ?_
  refine F_nil ?_
  refine L_seq ?_
  refine L_seq ?_
  refine L_region ?_
  refine F_val rfl rfl rfl (O_move rfl rfl) ?_
  refine F_val rfl rfl rfl (O_peq rfl rfl rfl Try.underlying84) ?_
  refine F_val rfl rfl rfl (O_move rfl rfl) ?_
  refine F_gval rfl rfl rfl rfl rfl rfl (O_move rfl rfl) ?_
  refine F_gval rfl rfl rfl rfl rfl rfl (O_lt rfl rfl rfl) ?_
  refine F_val rfl rfl rfl (O_pickF rfl rfl rfl) ?_
  refine F_nil ?_
  refine L_condP rfl (fun c1 => ?_) (fun c1 => ?_)
  · have H := of_pos H c1
    refine L_seq ?_
    refine L_region ?_
    refine F_val rfl rfl rfl (O_assign rfl rfl) ?_
    refine F_nil ?_
    refine L_ret (fun a ha => (post_ret1 ha rfl rfl ?_))
    obtain rfl := Option.some.inj H
    exact ⟨_, _, rfl, HS0.sel [0, 1] rfl⟩
  · have H := of_neg H c1
    refine L_skip ?_
    refine L_seq ?_
    refine L_seq ?_
    refine L_region ?_
    refine F_val rfl rfl rfl (O_move rfl rfl) ?_
    refine F_val rfl rfl rfl (O_move rfl rfl) ?_
    obtain ⟨z4, h3, H⟩ := of_bind H
    refine F_qcall (v := .int .i64 z4) (xs := [.tmp 12]) rfl rfl rfl rfl Try.func87 nm87 rfl rfl ((bits_Reader_Left.calls (HS0.give [] rfl (Lent.box HS0 (Lent.own HS0 (Lent.nil) (i := 1) rfl rfl ((HS0.cells_own (i := 1) rfl).self)) (i := 0) rfl rfl (HS0.cells_box (i := 0) rfl).self)) h3).mono (fun e w hc => ?_)) (fun w5 hw6 => ?_)
    · obtain ⟨rfl, h⟩ := hc
      exact ⟨rfl, h.chg0⟩
    have HS7 := HS0.keep hw6
    refine F_val rfl rfl rfl (O_gt rfl rfl rfl) ?_
    refine F_nil ?_
    refine L_condP rfl (fun c8 => ?_) (fun c8 => ?_)
    · have H := of_pos H c8
      refine L_seq ?_
      refine L_region ?_
      refine F_val rfl rfl rfl (O_assign rfl rfl) ?_
      refine F_nil ?_
      refine L_ret (fun a ha => (post_ret1 ha rfl rfl ?_))
      obtain rfl := Option.some.inj H
      exact ⟨_, _, rfl, HS7.sel [0, 1] rfl⟩
    · have H := of_neg H c8
      refine L_skip ?_
      refine L_seq ?_
      refine L_region ?_
      refine F_val rfl rfl rfl (O_move rfl rfl) ?_
      refine F_val rfl rfl rfl (O_nilCheck rfl rfl) ?_
      refine F_val rfl rfl rfl (O_fieldB rfl rfl field119_1) ?_
      refine F_val rfl rfl rfl (O_loadB rfl rfl flat3 (HS7.cells_box (i := 0) rfl) rfl) ?_
      refine F_val rfl rfl rfl (O_move rfl rfl) ?_
      refine F_val rfl rfl rfl (O_add rfl rfl rfl) ?_
      refine F_val rfl rfl rfl (O_nilCheck rfl rfl) ?_
      refine F_val rfl rfl rfl (O_fieldB rfl rfl field119_1) ?_
      refine F_stB 0 ([.slice A_r_0_data r_0_data.length c_r_0_data, .int .i64 (IntKind.i64.wrap (r_0_at + n_1))]) rfl rfl rfl rfl rfl size3 HS7 rfl rfl rfl rfl rfl (fun w9 HS10 => ?_)
      have HS10 : Hp S0 w0 w9 [.box g_r_0 [.slice A_r_0_data r_0_data.length c_r_0_data, .int .i64 (IntKind.i64.wrap (r_0_at + n_1))] 119, .own A_r_0_data c_r_0_data (rowC (Eint .u8) r_0_data) 5 (Eint .u8).sz] := HS10
      refine F_nil ?_
      refine L_seq ?_
      refine L_region ?_
      refine F_val rfl rfl rfl (O_assign rfl rfl) ?_
      refine F_nil ?_
      refine L_ret (fun a ha => (post_ret1 ha rfl rfl ?_))
      obtain rfl := Option.some.inj H
      exact ⟨_, _, rfl, HS10.sel [0, 1] rfl⟩

/-! function 64: (*valise/code.Decoder).Next -/
theorem code_Decoder_Next.calls {S0 : Nat → Prop} {w0 : World} {g_d_0 : Nat} {A_d_0_table_lens : Option Addr} {c_d_0_table_lens : Nat} {A_d_0_table_words : Option Addr} {c_d_0_table_words : Nat} {A_d_0_symbols : Option Addr} {c_d_0_symbols : Nat} {g_r_1 : Nat} {A_r_1_data : Option Addr} {c_r_1_data : Nat} {d_0_table_lens : List Int} {d_0_table_words : List Int} {d_0_table_counts : List Int} {d_0_table_first : List Int} {d_0_symbols : List Int} {r_1_data : List Int} {r_1_at : Int} {r : Int × Int × List Int × Int} (HS0 : Hp S0 w0 w0 [.box g_r_1 [.slice A_r_1_data r_1_data.length c_r_1_data, .int .i64 r_1_at] 119, .own A_r_1_data c_r_1_data (rowC (Eint .u8) r_1_data) 5 (Eint .u8).sz, .rd (some ⟨g_d_0, 0, none⟩) (([.slice A_d_0_table_lens d_0_table_lens.length c_d_0_table_lens, .slice A_d_0_table_words d_0_table_words.length c_d_0_table_words] : List Value) ++ rowC (Eint .i64) d_0_table_counts ++ rowC (Eint .i64) d_0_table_first ++ ([.slice A_d_0_symbols d_0_symbols.length c_d_0_symbols] : List Value)), .rd A_d_0_table_lens (rowC (Eint .i64) d_0_table_lens), .rd A_d_0_table_words (rowC (Eint .i64) d_0_table_words), .rd A_d_0_symbols (rowC (Eint .i64) d_0_symbols)]) (h : code_Decoder_Next.f d_0_table_lens d_0_table_words d_0_table_counts d_0_table_first d_0_symbols r_1_data r_1_at = some r) :
    Calls Try.prog 64 ([.pointer (some ⟨g_d_0, 0, none⟩), .pointer (some ⟨g_r_1, 0, none⟩)] : List Value).toArray w0 (fun e w => ∃ (A_r_1_data' : Option Addr), ∃ (c_r_1_data' : Nat), e = .returned (.tuple #[.int .i64 r.1, .int .i64 r.2.1]) ∧ Hp S0 w0 w [.box g_r_1 [.slice A_r_1_data' r.2.2.1.length c_r_1_data', .int .i64 r.2.2.2] 119, .own A_r_1_data' c_r_1_data' (rowC (Eint .u8) r.2.2.1) 5 (Eint .u8).sz]) := by
  have H : (((bits_Reader_Peek.f r_1_data r_1_at 15).bind fun (z3, z4) => (code_Decoder_Next.l1 FU 0 0 1 d_0_table_lens d_0_table_words d_0_table_counts d_0_table_first d_0_symbols r_1_data r_1_at z3 z4).bind fun (yj8 : Sum (Int × Int × List Int × Int) (Unit)) => onR yj8 (fun r => some r) fun () => some (0, 55, r_1_data, r_1_at)) : Option (Int × Int × List Int × Int)) = some r := h
  refine calls_start Try.func64 rfl rfl ?_
  refine L_seq ?_
  refine L_region ?_
  refine F_val rfl rfl rfl (O_assign rfl rfl) ?_
  refine F_val rfl rfl rfl (O_assign rfl rfl) ?_
  refine F_nil ?_
  refine L_seq ?_
  refine L_seq ?_
  refine L_region ?_
  refine F_val rfl rfl rfl (O_move rfl rfl) ?_
  refine F_val rfl rfl rfl (O_peq rfl rfl rfl Try.underlying87) ?_
  refine F_val rfl rfl rfl (O_move rfl rfl) ?_
  refine F_gval rfl rfl rfl rfl rfl rfl (O_move rfl rfl) ?_
  refine F_gval rfl rfl rfl rfl rfl rfl (O_peq rfl rfl rfl Try.underlying84) ?_
  refine F_val rfl rfl rfl (O_pickF rfl rfl rfl) ?_
  refine F_nil ?_
  refine L_cond rfl (fun hx => by cases hx) (fun _ => ?_)
  refine L_skip ?_
  refine L_seq ?_
  refine L_region ?_
  refine F_val rfl rfl rfl (O_move rfl rfl) ?_
  obtain ⟨⟨z3, z4⟩, h2, H⟩ := of_bind H
  refine F_qcall (v := .tuple #[.int .u32 z3, .int .i64 z4]) (xs := [.tmp 20, .const (.int .i64 15)]) rfl rfl rfl rfl Try.func78 nm78 rfl rfl ((bits_Reader_Peek.calls (HS0.give [] rfl (Lent.box HS0 (Lent.own HS0 (Lent.nil) (i := 1) rfl rfl ((HS0.cells_own (i := 1) rfl).self)) (i := 0) rfl rfl (HS0.cells_box (i := 0) rfl).self)) h2).mono (fun e w hc => ?_)) (fun w5 hw6 => ?_)
  · obtain ⟨rfl, h⟩ := hc
    exact ⟨rfl, h.chg0⟩
  have HS7 := HS0.keep hw6
  refine F_val rfl rfl rfl (O_move rfl rfl) ?_
  refine F_val rfl rfl rfl (O_extract (v := .int .u32 z3) rfl rfl rfl) ?_
  refine F_val rfl rfl rfl (O_extract (v := .int .i64 z4) rfl rfl rfl) ?_
  refine F_val rfl rfl rfl (O_assign rfl rfl) ?_
  refine F_val rfl rfl rfl (O_assign rfl rfl) ?_
  refine F_nil ?_
  refine L_seq ?_
  refine L_region ?_
  refine F_val rfl rfl rfl (O_assign rfl rfl) ?_
  refine F_val rfl rfl rfl (O_assign rfl rfl) ?_
  refine F_nil ?_
  refine L_seq ?_
  refine L_seq ?_
  refine L_region ?_
  refine F_val rfl rfl rfl (O_assign rfl rfl) ?_
  refine F_nil ?_
  obtain ⟨yj8, Hyj8, H⟩ := of_bind H
  refine L_join (fun a w => yj8 = Sum.inr () ∧ Is Try.f64.ntmps a [] ∧ Hp S0 w0 w [.rd (some ⟨g_d_0, 0, none⟩) (([.slice A_d_0_table_lens d_0_table_lens.length c_d_0_table_lens, .slice A_d_0_table_words d_0_table_words.length c_d_0_table_words] : List Value) ++ rowC (Eint .i64) d_0_table_counts ++ rowC (Eint .i64) d_0_table_first ++ ([.slice A_d_0_symbols d_0_symbols.length c_d_0_symbols] : List Value)), .rd A_d_0_table_lens (rowC (Eint .i64) d_0_table_lens), .rd A_d_0_table_words (rowC (Eint .i64) d_0_table_words), .rd A_d_0_symbols (rowC (Eint .i64) d_0_symbols), .box g_r_1 [.slice A_r_1_data r_1_data.length c_r_1_data, .int .i64 r_1_at] 119, .own A_r_1_data c_r_1_data (rowC (Eint .u8) r_1_data) 5 (Eint .u8).sz]) (fun Qj8 hNj8 hOj8 => ?_) (fun a w hR => ?_)
  · have HOj8 := H
    have H := Hyj8
    refine L_blk (fun Qb163 hNb163 hXb163 hOb163 => ?_)
    refine L_lp (fun k a w => ∃ (word_263 : Int), ∃ (shorter_264 : Int), ∃ (l_265 : Int), Is Try.f64.ntmps a [(0, .pointer (some ⟨g_d_0, 0, none⟩)), (1, .pointer (some ⟨g_r_1, 0, none⟩)), (6, .int .u32 z3), (7, .int .i64 z4), (8, .int .i64 word_263), (9, .int .i64 shorter_264), (10, .int .i64 l_265)] ∧ Hp S0 w0 w [.rd (some ⟨g_d_0, 0, none⟩) (([.slice A_d_0_table_lens d_0_table_lens.length c_d_0_table_lens, .slice A_d_0_table_words d_0_table_words.length c_d_0_table_words] : List Value) ++ rowC (Eint .i64) d_0_table_counts ++ rowC (Eint .i64) d_0_table_first ++ ([.slice A_d_0_symbols d_0_symbols.length c_d_0_symbols] : List Value)), .rd A_d_0_table_lens (rowC (Eint .i64) d_0_table_lens), .rd A_d_0_table_words (rowC (Eint .i64) d_0_table_words), .rd A_d_0_symbols (rowC (Eint .i64) d_0_symbols), .box g_r_1 [.slice A_r_1_data r_1_data.length c_r_1_data, .int .i64 r_1_at] 119, .own A_r_1_data c_r_1_data (rowC (Eint .u8) r_1_data) 5 (Eint .u8).sz] ∧ code_Decoder_Next.l1 k word_263 shorter_264 l_265 d_0_table_lens d_0_table_words d_0_table_counts d_0_table_first d_0_symbols r_1_data r_1_at z3 z4 = some yj8) FU (fun a ha => ⟨_, _, _, Is.cons ha (Is.cons ha (Is.cons ha (Is.cons ha (Is.cons ha (Is.cons ha (Is.cons ha (Is.nil ha) rfl) rfl) rfl) rfl) rfl) rfl) rfl, HS7.sel [2, 3, 4, 5, 0, 1] rfl, H⟩) (fun kp262 a w266 hI Qp262 hNp262 hOp262 => ?_)
    obtain ⟨word_263, shorter_264, l_265, ha, HS267, HAp262⟩ := hI
    cases kp262 with
    | zero => cases (show (none : Option _) = some _ from HAp262)
    | succ kp262 =>
      have H := (code_Decoder_Next.l1.eq_2 ..).symm.trans HAp262
      refine wpLF_app ?_ ha
      refine L_seq ?_
      refine L_seq ?_
      refine L_region ?_
      refine F_val rfl rfl rfl (O_move rfl rfl) ?_
      refine F_val rfl rfl rfl (O_le rfl rfl rfl) ?_
      refine F_nil ?_
      refine L_condP rfl (fun c268 => ?_) (fun c268 => ?_)
      · have H := of_pos H c268
        refine L_skip ?_
        refine L_seq ?_
        refine L_blk (fun Q269 hN269 hX269 hO269 => ?_)
        refine L_seq ?_
        refine L_seq ?_
        refine L_region ?_
        refine F_val rfl rfl rfl (O_move rfl rfl) ?_
        refine F_val rfl rfl rfl (O_move rfl rfl) ?_
        refine F_val rfl rfl rfl (O_gt rfl rfl rfl) ?_
        refine F_nil ?_
        refine L_condP rfl (fun c270 => ?_) (fun c270 => ?_)
        · have H := of_pos H c270
          refine L_seq ?_
          refine L_seq ?_
          refine L_region ?_
          refine F_val rfl rfl rfl (O_move rfl rfl) ?_
          refine F_val rfl rfl rfl (O_move rfl rfl) ?_
          refine F_val rfl rfl rfl (O_move rfl rfl) ?_
          refine F_val rfl rfl rfl (O_sub rfl rfl rfl) ?_
          obtain ⟨z273, h272, H⟩ := of_bind H
          refine F_qcall (v := .bool z273) (xs := [.tmp 31, .tmp 32, .tmp 34]) rfl rfl rfl rfl Try.func79 nm79 rfl rfl ((code_Decoder_none.calls (HS267.give [] rfl (Lent.rd HS267 (Lent.rd HS267 (Lent.rd HS267 (Lent.rd HS267 (Lent.nil) (i := 3) rfl ((HS267.cells_rd (i := 3) rfl).self)) (i := 2) rfl ((HS267.cells_rd (i := 2) rfl).self)) (i := 1) rfl ((HS267.cells_rd (i := 1) rfl).self)) (i := 0) rfl (HS267.cells_rd (i := 0) rfl).self)) h272).mono (fun e w hc => ?_)) (fun w274 hw275 => ?_)
          · obtain ⟨rfl, h⟩ := hc
            exact ⟨rfl, h.chg0⟩
          have HS276 := HS267.keep hw275
          refine F_nil ?_
          refine L_cond rfl (fun c277 => ?_) (fun c277 => ?_)
          · have H := of_pos H c277
            refine L_seq ?_
            refine L_region ?_
            refine F_val rfl rfl rfl (O_assign rfl rfl) ?_
            refine F_val rfl rfl rfl (O_assign rfl rfl) ?_
            refine F_nil ?_
            refine L_ret (fun a ha => (hO269 .ret a _ rfl (hOp262 .ret a _ rfl (hOb163 .ret a _ rfl (hOj8 .ret a _ rfl (post_ret2 ha rfl rfl rfl ?_))))))
            obtain rfl := Option.some.inj H
            obtain rfl := Option.some.inj (show (some (0, 55, r_1_data, r_1_at) : Option (Int × Int × List Int × Int)) = some _ from HOj8)
            exact ⟨_, _, rfl, HS276.sel [4, 5] rfl⟩
          · have H := of_neg H (by rw [c277]; exact Bool.false_ne_true)
            refine L_skip ?_
            refine L_seq ?_
            refine L_region ?_
            refine F_val rfl rfl rfl (O_assign rfl rfl) ?_
            refine F_val rfl rfl rfl (O_assign rfl rfl) ?_
            refine F_nil ?_
            refine L_ret (fun a ha => (hO269 .ret a _ rfl (hOp262 .ret a _ rfl (hOb163 .ret a _ rfl (hOj8 .ret a _ rfl (post_ret2 ha rfl rfl rfl ?_))))))
            obtain rfl := Option.some.inj H
            obtain rfl := Option.some.inj (show (some (0, 54, r_1_data, r_1_at) : Option (Int × Int × List Int × Int)) = some _ from HOj8)
            exact ⟨_, _, rfl, HS276.sel [4, 5] rfl⟩
        · have H := of_neg H c270
          refine L_skip ?_
          refine L_seq ?_
          refine L_region ?_
          refine F_val rfl rfl rfl (O_move rfl rfl) ?_
          refine F_val rfl rfl rfl (O_shl rfl rfl rfl (by decide)) ?_
          refine F_val rfl rfl rfl (O_move rfl rfl) ?_
          refine F_val rfl rfl rfl (O_move rfl rfl) ?_
          refine F_val rfl rfl rfl (O_sub rfl rfl rfl) ?_
          obtain ⟨g278, H⟩ := of_gd H
          refine F_val rfl rfl rfl (O_shr rfl rfl rfl g278) ?_
          refine F_val rfl rfl rfl (O_and rfl rfl rfl) ?_
          refine F_val rfl rfl rfl (O_conv rfl rfl ⟨_, Try.underlying114⟩ Try.underlying3) ?_
          refine F_val rfl rfl rfl (O_or rfl rfl rfl) ?_
          obtain ⟨x279, h280, H⟩ := of_bnd H
          refine F_val rfl rfl rfl (O_assign' rfl rfl (congrArg (Value.int .i64) h280)) ?_
          refine F_nil ?_
          refine L_seq ?_
          refine L_region ?_
          refine F_val rfl rfl rfl (O_move rfl rfl) ?_
          refine F_val rfl rfl rfl (O_move rfl rfl) ?_
          refine F_val rfl rfl rfl (O_move rfl rfl) ?_
          refine F_val rfl rfl rfl (O_nilCheck rfl rfl) ?_
          refine F_val rfl rfl rfl (O_fieldB rfl rfl field121_0) ?_
          refine F_val rfl rfl rfl (O_fieldB rfl rfl field109_3) ?_
          obtain ⟨⟨g281, g282⟩, H⟩ := of_gd H
          refine F_val rfl rfl rfl (O_idxA rfl rfl rfl Try.underlying103 size3 g281 g282) ?_
          obtain ⟨g283, H⟩ := of_gd H
          obtain ⟨g284, H⟩ := of_gd H
          refine F_val rfl rfl rfl (O_loadB rfl rfl flat3 (HS267.cells_rd (i := 0) rfl) (arr_cell (i := (l_265 : Int).toNat * 1) (([.slice A_d_0_table_lens d_0_table_lens.length c_d_0_table_lens, .slice A_d_0_table_words d_0_table_words.length c_d_0_table_words] : List Value) ++ rowC (Eint .i64) d_0_table_counts) (rowC (Eint .i64) d_0_table_first) [.slice A_d_0_symbols d_0_symbols.length c_d_0_symbols] (by simp only [List.append_assoc, List.cons_append, List.nil_append, List.append_nil]) (app_len rfl (row_len g284) rfl) (int_cell g281 (arr_lt g283 g282)))) ?_
          refine F_val rfl rfl rfl (O_sub rfl rfl rfl) ?_
          obtain ⟨x285, h286, H⟩ := of_bnd H
          refine F_val rfl rfl rfl (O_assign' rfl rfl (congrArg (Value.int .i64) h286)) ?_
          refine F_nil ?_
          refine L_seq ?_
          refine L_seq ?_
          refine L_region ?_
          refine F_val rfl rfl rfl (O_move rfl rfl) ?_
          refine F_val rfl rfl rfl (O_ge rfl rfl rfl) ?_
          refine F_val rfl rfl rfl (O_move rfl rfl) ?_
          refine F_grp 10 [(66, .bool (decide ((0 ≤ x285) ∧ (x285 < rd d_0_table_counts l_265)))), (0, .pointer (some ⟨g_d_0, 0, none⟩)), (1, .pointer (some ⟨g_r_1, 0, none⟩)), (6, .int .u32 z3), (7, .int .i64 z4), (8, .int .i64 x279), (9, .int .i64 shorter_264), (10, .int .i64 l_265), (11, .int .i64 x285)] ?_ ?_
          · rcases Decidable.em (0 ≤ x285) with c290 | c290
            · refine F_know (i := 56) rfl (dec_t c290) ?_
              refine F_gval rfl rfl rfl rfl rfl rfl (O_move rfl rfl) ?_
              refine F_gval rfl rfl rfl rfl rfl rfl (O_move rfl rfl) ?_
              refine F_gval rfl rfl rfl rfl rfl rfl (O_move rfl rfl) ?_
              refine F_gval rfl rfl rfl rfl rfl rfl (O_nilCheck rfl rfl) ?_
              refine F_gval rfl rfl rfl rfl rfl rfl (O_fieldB rfl rfl field121_0) ?_
              refine F_gval rfl rfl rfl rfl rfl rfl (O_fieldB rfl rfl field109_2) ?_
              refine F_gval rfl rfl rfl rfl rfl rfl (O_idxA rfl rfl rfl Try.underlying103 size3 g281 g282) ?_
              refine F_gval rfl rfl rfl rfl rfl rfl (O_loadB rfl rfl flat3 (HS267.cells_rd (i := 0) rfl) (arr_cell (i := (l_265 : Int).toNat * 1) [.slice A_d_0_table_lens d_0_table_lens.length c_d_0_table_lens, .slice A_d_0_table_words d_0_table_words.length c_d_0_table_words] (rowC (Eint .i64) d_0_table_counts) (rowC (Eint .i64) d_0_table_first ++ ([.slice A_d_0_symbols d_0_symbols.length c_d_0_symbols] : List Value)) (by simp only [List.append_assoc, List.cons_append, List.nil_append, List.append_nil]) rfl (int_cell g281 (arr_lt g284 g282)))) ?_
              refine F_gval rfl rfl rfl rfl rfl rfl (O_lt rfl rfl rfl) ?_
              refine F_val rfl rfl rfl (O_pickT rfl rfl rfl) ?_
              refine F_know (i := 66) rfl (dec_and_t (q := x285 < rd d_0_table_counts l_265) c290) ?_
              exact F_grpE (fun a ha => Is.cons ha (Is.cons ha (Is.cons ha (Is.cons ha (Is.cons ha (Is.cons ha (Is.cons ha (Is.cons ha (Is.cons ha (Is.nil ha) rfl) rfl) rfl) rfl) rfl) rfl) rfl) rfl) rfl)
            · refine F_know (i := 56) rfl (dec_f c290) ?_
              refine F_gskip rfl rfl rfl rfl rfl rfl rfl ?_
              refine F_gskip rfl rfl rfl rfl rfl rfl rfl ?_
              refine F_gskip rfl rfl rfl rfl rfl rfl rfl ?_
              refine F_gskip rfl rfl rfl rfl rfl rfl rfl ?_
              refine F_gskip rfl rfl rfl rfl rfl rfl rfl ?_
              refine F_gskip rfl rfl rfl rfl rfl rfl rfl ?_
              refine F_gskip rfl rfl rfl rfl rfl rfl rfl ?_
              refine F_gskip rfl rfl rfl rfl rfl rfl rfl ?_
              refine F_gskip rfl rfl rfl rfl rfl rfl rfl ?_
              refine F_val rfl rfl rfl (O_pickF rfl rfl rfl) ?_
              refine F_know (i := 66) rfl (dec_and_f (q := x285 < rd d_0_table_counts l_265) c290) ?_
              exact F_grpE (fun a ha => Is.cons ha (Is.cons ha (Is.cons ha (Is.cons ha (Is.cons ha (Is.cons ha (Is.cons ha (Is.cons ha (Is.cons ha (Is.nil ha) rfl) rfl) rfl) rfl) rfl) rfl) rfl) rfl) rfl)
          · skip
            refine F_nil ?_
            refine L_condP rfl (fun c291 => ?_) (fun c291 => ?_)
            · have H := of_pos H c291
              refine L_seq ?_
              refine L_seq ?_
              refine L_region ?_
              refine F_val rfl rfl rfl (O_move rfl rfl) ?_
              refine F_val rfl rfl rfl (O_move rfl rfl) ?_
              obtain ⟨⟨z296, z297, z298⟩, h295, H⟩ := of_bind H
              refine F_call (xs := [.tmp 67, .tmp 68]) rfl rfl rfl rfl Try.func80 nm80 rfl rfl ((bits_Reader_Skip.calls (HS267.give [4, 5] rfl (Lent.nil)) h295).mono (fun e w hc => ?_))
              obtain ⟨A301, c302, rfl, HSo⟩ := hc
              refine ⟨.int .i64 z296, rfl, ?_⟩
              have HS300 : Hp S0 w0 w [.rd (some ⟨g_d_0, 0, none⟩) (([.slice A_d_0_table_lens d_0_table_lens.length c_d_0_table_lens, .slice A_d_0_table_words d_0_table_words.length c_d_0_table_words] : List Value) ++ rowC (Eint .i64) d_0_table_counts ++ rowC (Eint .i64) d_0_table_first ++ ([.slice A_d_0_symbols d_0_symbols.length c_d_0_symbols] : List Value)), .rd A_d_0_table_lens (rowC (Eint .i64) d_0_table_lens), .rd A_d_0_table_words (rowC (Eint .i64) d_0_table_words), .rd A_d_0_symbols (rowC (Eint .i64) d_0_symbols), .box g_r_1 [.slice A301 z297.length c302, .int .i64 z298] 119, .own A301 c302 (rowC (Eint .u8) z297) 5 (Eint .u8).sz] := (HS267.back [4, 5] HSo rfl).sel [0, 1, 2, 3, 6, 7] rfl
              refine F_val rfl rfl rfl (O_assign rfl rfl) ?_
              refine F_nil ?_
              refine L_seq ?_
              refine L_region ?_
              refine F_val rfl rfl rfl (O_move rfl rfl) ?_
              refine F_val rfl rfl rfl (O_ne rfl rfl rfl) ?_
              refine F_nil ?_
              refine L_condP rfl (fun c303 => ?_) (fun c303 => ?_)
              · have H := of_pos H c303
                refine L_seq ?_
                refine L_region ?_
                refine F_val rfl rfl rfl (O_move rfl rfl) ?_
                refine F_val rfl rfl rfl (O_assign rfl rfl) ?_
                refine F_val rfl rfl rfl (O_assign rfl rfl) ?_
                refine F_nil ?_
                refine L_ret (fun a ha => (hO269 .ret a _ rfl (hOp262 .ret a _ rfl (hOb163 .ret a _ rfl (hOj8 .ret a _ rfl (post_ret2 ha rfl rfl rfl ?_))))))
                obtain rfl := Option.some.inj H
                obtain rfl := Option.some.inj (show (some (0, z296, z297, z298) : Option (Int × Int × List Int × Int)) = some _ from HOj8)
                exact ⟨_, _, rfl, HS300.sel [4, 5] rfl⟩
              · have H := of_neg H c303
                refine L_skip ?_
                refine L_seq ?_
                refine L_region ?_
                refine F_val rfl rfl rfl (O_move rfl rfl) ?_
                refine F_val rfl rfl rfl (O_nilCheck rfl rfl) ?_
                refine F_val rfl rfl rfl (O_fieldB rfl rfl field121_1) ?_
                refine F_val rfl rfl rfl (O_loadB rfl rfl flat22 (HS300.cells_rd (i := 0) rfl) (cell_seg (j := 0) (([.slice A_d_0_table_lens d_0_table_lens.length c_d_0_table_lens, .slice A_d_0_table_words d_0_table_words.length c_d_0_table_words] : List Value) ++ rowC (Eint .i64) d_0_table_counts ++ rowC (Eint .i64) d_0_table_first) [.slice A_d_0_symbols d_0_symbols.length c_d_0_symbols] [] (by simp only [List.append_assoc, List.cons_append, List.nil_append, List.append_nil]) (app_len (app_len rfl (row_len g284) rfl) (row_len g283) rfl) rfl)) ?_
                refine F_val rfl rfl rfl (O_move rfl rfl) ?_
                refine F_val rfl rfl rfl (O_move rfl rfl) ?_
                refine F_val rfl rfl rfl (O_add rfl rfl rfl) ?_
                obtain ⟨⟨g304, g305⟩, H⟩ := of_gd H
                refine F_val rfl rfl rfl (O_idx rfl rfl rfl Try.underlying22 size3 g304 g305 (Cells.isA (HS300.cells_rd (i := 3) rfl) (rowC_ne (E := (Eint .i64)) g304 g305 (by decide)))) ?_
                refine F_val rfl rfl rfl (O_loadC rfl rfl flat3 (HS300.cells_rd (i := 3) rfl) (int_cell g304 g305)) ?_
                refine F_val rfl rfl rfl (O_assign rfl rfl) ?_
                refine F_val rfl rfl rfl (O_assign rfl rfl) ?_
                refine F_nil ?_
                refine L_ret (fun a ha => (hO269 .ret a _ rfl (hOp262 .ret a _ rfl (hOb163 .ret a _ rfl (hOj8 .ret a _ rfl (post_ret2 ha rfl rfl rfl ?_))))))
                obtain rfl := Option.some.inj H
                obtain rfl := Option.some.inj (show (some (rd d_0_symbols (IntKind.i64.wrap (shorter_264 + x285)), 0, z297, z298) : Option (Int × Int × List Int × Int)) = some _ from HOj8)
                exact ⟨_, _, rfl, HS300.sel [4, 5] rfl⟩
            · have H := of_neg H c291
              refine L_skip ?_
              refine L_seq ?_
              refine L_seq ?_
              refine L_region ?_
              refine F_val rfl rfl rfl (O_move rfl rfl) ?_
              refine F_val rfl rfl rfl (O_move rfl rfl) ?_
              refine F_val rfl rfl rfl (O_move rfl rfl) ?_
              obtain ⟨z308, h307, H⟩ := of_bind H
              refine F_qcall (v := .bool z308) (xs := [.tmp 82, .tmp 83, .tmp 84]) rfl rfl rfl rfl Try.func79 nm79 rfl rfl ((code_Decoder_none.calls (HS267.give [] rfl (Lent.rd HS267 (Lent.rd HS267 (Lent.rd HS267 (Lent.rd HS267 (Lent.nil) (i := 3) rfl ((HS267.cells_rd (i := 3) rfl).self)) (i := 2) rfl ((HS267.cells_rd (i := 2) rfl).self)) (i := 1) rfl ((HS267.cells_rd (i := 1) rfl).self)) (i := 0) rfl (HS267.cells_rd (i := 0) rfl).self)) h307).mono (fun e w hc => ?_)) (fun w309 hw310 => ?_)
              · obtain ⟨rfl, h⟩ := hc
                exact ⟨rfl, h.chg0⟩
              have HS311 := HS267.keep hw310
              refine F_nil ?_
              refine L_cond rfl (fun c312 => ?_) (fun c312 => ?_)
              · have H := of_pos H c312
                refine L_seq ?_
                refine L_region ?_
                refine F_val rfl rfl rfl (O_assign rfl rfl) ?_
                refine F_val rfl rfl rfl (O_assign rfl rfl) ?_
                refine F_nil ?_
                refine L_ret (fun a ha => (hO269 .ret a _ rfl (hOp262 .ret a _ rfl (hOb163 .ret a _ rfl (hOj8 .ret a _ rfl (post_ret2 ha rfl rfl rfl ?_))))))
                obtain rfl := Option.some.inj H
                obtain rfl := Option.some.inj (show (some (0, 55, r_1_data, r_1_at) : Option (Int × Int × List Int × Int)) = some _ from HOj8)
                exact ⟨_, _, rfl, HS311.sel [4, 5] rfl⟩
              · have H := of_neg H (by rw [c312]; exact Bool.false_ne_true)
                refine L_skip ?_
                refine L_region ?_
                refine F_val rfl rfl rfl (O_move rfl rfl) ?_
                refine F_val rfl rfl rfl (O_move rfl rfl) ?_
                refine F_val rfl rfl rfl (O_move rfl rfl) ?_
                refine F_val rfl rfl rfl (O_nilCheck rfl rfl) ?_
                refine F_val rfl rfl rfl (O_fieldB rfl rfl field121_0) ?_
                refine F_val rfl rfl rfl (O_fieldB rfl rfl field109_2) ?_
                refine F_val rfl rfl rfl (O_idxA rfl rfl rfl Try.underlying103 size3 g281 g282) ?_
                refine F_val rfl rfl rfl (O_loadB rfl rfl flat3 (HS311.cells_rd (i := 0) rfl) (arr_cell (i := (l_265 : Int).toNat * 1) [.slice A_d_0_table_lens d_0_table_lens.length c_d_0_table_lens, .slice A_d_0_table_words d_0_table_words.length c_d_0_table_words] (rowC (Eint .i64) d_0_table_counts) (rowC (Eint .i64) d_0_table_first ++ ([.slice A_d_0_symbols d_0_symbols.length c_d_0_symbols] : List Value)) (by simp only [List.append_assoc, List.cons_append, List.nil_append, List.append_nil]) rfl (int_cell g281 (arr_lt g284 g282)))) ?_
                refine F_val rfl rfl rfl (O_add rfl rfl rfl) ?_
                obtain ⟨x313, h314, H⟩ := of_bnd H
                refine F_val rfl rfl rfl (O_assign' rfl rfl (congrArg (Value.int .i64) h314)) ?_
                refine F_nil ?_
                refine L_endB hN269 ?_
                refine L_region ?_
                refine F_val rfl rfl rfl (O_move rfl rfl) ?_
                refine F_val rfl rfl rfl (O_add rfl rfl rfl) ?_
                obtain ⟨x315, h316, H⟩ := of_bnd H
                refine F_val rfl rfl rfl (O_assign' rfl rfl (congrArg (Value.int .i64) h316)) ?_
                refine F_nil ?_
                refine L_nil (fun a ha => hNp262 _ a _ (Nat.lt_succ_self _) ⟨_, _, _, Is.cons ha (Is.cons ha (Is.cons ha (Is.cons ha (Is.cons ha (Is.cons ha (Is.cons ha (Is.nil ha) rfl) rfl) rfl) rfl) rfl) rfl) rfl, HS311.sel [0, 1, 2, 3, 4, 5] rfl, H⟩)
      · have H := of_neg H c268
        refine L_exitB (fun a w h => hOp262 (.exit 0) a w rfl (hXb163 a w h)) ?_
        refine L_nil (fun a ha => hNj8 a _ ⟨(Option.some.inj H).symm, Is.nil ha, HS267.sel [0, 1, 2, 3, 4, 5] rfl⟩)
  · obtain ⟨rfl, ha, HS318⟩ := hR
    refine wpLF_app ?_ ha
    have H := (onR_inr _ _ _).symm.trans H
    refine L_seq ?_
    refine L_region ?_
    refine F_val rfl rfl rfl (O_assign rfl rfl) ?_
    refine F_val rfl rfl rfl (O_assign rfl rfl) ?_
    refine F_nil ?_
    refine L_ret (fun a ha => (post_ret2 ha rfl rfl rfl ?_))
    obtain rfl := Option.some.inj H
    exact ⟨_, _, rfl, HS318.sel [4, 5] rfl⟩

/-! function 65: (*valise/bits.Reader).At -/
theorem bits_Reader_At.calls {S0 : Nat → Prop} {w0 : World} {g_r_0 : Nat} {A_r_0_data : Option Addr} {c_r_0_data : Nat} {r_0_data : List Int} {r_0_at : Int} {r : Int} (HS0 : Hp S0 w0 w0 [.rd (some ⟨g_r_0, 0, none⟩) [.slice A_r_0_data r_0_data.length c_r_0_data, .int .i64 r_0_at], .rd A_r_0_data (rowC (Eint .u8) r_0_data)]) (h : bits_Reader_At.f r_0_data r_0_at = some r) :
    Calls Try.prog 65 ([.pointer (some ⟨g_r_0, 0, none⟩)] : List Value).toArray w0 (fun e w => e = .returned (.int .i64 r) ∧ Hp S0 w0 w []) := by
  have H : ((some r_0_at) : Option (Int)) = some r := h
  refine calls_start Try.func65 rfl rfl ?_
  refine L_seq ?_
  refine L_region ?_
  refine F_val rfl rfl rfl (O_assign rfl rfl) ?_
  refine F_nil ?_
  refine L_seq ?_
  refine L_seq ?_
  refine L_region ?_
  refine F_val rfl rfl rfl (O_move rfl rfl) ?_
  refine F_val rfl rfl rfl (O_peq rfl rfl rfl Try.underlying84) ?_
  refine F_nil ?_
  refine L_cond rfl (fun hx => by cases hx) (fun _ => ?_)
  refine L_skip ?_
  refine L_seq ?_
  refine L_region ?_
  refine F_val rfl rfl rfl (O_move rfl rfl) ?_
  refine F_val rfl rfl rfl (O_nilCheck rfl rfl) ?_
  refine F_val rfl rfl rfl (O_fieldB rfl rfl field119_1) ?_
  refine F_val rfl rfl rfl (O_loadB rfl rfl flat3 (HS0.cells_rd (i := 0) rfl) rfl) ?_
  refine F_val rfl rfl rfl (O_assign rfl rfl) ?_
  refine F_nil ?_
  refine L_ret (fun a ha => (post_ret1 ha rfl rfl ?_))
  obtain rfl := Option.some.inj H
  exact ⟨rfl, HS0.sel [] rfl⟩

/-! function 34: valise/valiselaw6.coded -/
theorem valiselaw6_coded.calls {S0 : Nat → Prop} {w0 : World} {A_text_0 : Option Addr} {c_text_0 : Nat} {A_lens_1 : Option Addr} {c_lens_1 : Nat} {l_text_0 : List Int} {l_lens_1 : List Int} {r : Int × Bool} (HS0 : Hp S0 w0 w0 [.rd A_text_0 (rowC (Eint .u8) l_text_0), .rd A_lens_1 (rowC (Eint .i64) l_lens_1)]) (hc_text_0 : l_text_0.length ≤ c_text_0) (hc_lens_1 : l_lens_1.length ≤ c_lens_1) (h : valiselaw6_coded.f l_text_0 l_lens_1 = some r) :
    Calls Try.prog 34 ([.slice A_text_0 l_text_0.length c_text_0, .slice A_lens_1 l_lens_1.length c_lens_1] : List Value).toArray w0 (fun e w => e = .returned (.tuple #[.int .i64 r.1, .bool r.2]) ∧ Hp S0 w0 w []) := by
  have H : (((bits_NewWriter.f).bind fun (z5, z6) => (valiselaw6_copied.f l_lens_1).bind fun z18 => (code_NewEncoder.f z18).bind fun (z28, z29) => onO z28 (some (0, false)) fun (z33, z34, z35, z36) => if z29 ≠ 0 then (some (0, false)) else ((valiselaw6_coded.l1 FU z5 z6 0 l_text_0 z33 z34 z35 z36).bind fun (yj49 : Sum (Int × Bool) (List Int × Int)) => onR yj49 (fun r => some r) fun (l122, y123) => if (l_text_0.length : Int) = 0 then ((bits_Writer_Len.f l122 y123).bind fun z199 => (bits_Writer_Len.f l122 y123).bind fun z205 => some (z199, decide (z205 = 0))) else ((bits_Writer_Bytes.f l122 y123).bind fun z213 => (bits_NewReader.f z213).bind fun z223 => onO z223 ((valiselaw6_copied.f l_lens_1).bind fun z230 => (code_NewDecoder.f z230).bind fun (z240, z241) => onO z240 (some (0, false)) fun (z246, z247, z248, z249, z250) => some (0, false)) fun (z266, z267) => (valiselaw6_copied.f l_lens_1).bind fun z279 => (code_NewDecoder.f z279).bind fun (z289, z290) => onO z289 (some (0, false)) fun (z295, z296, z297, z298, z299) => if z290 ≠ 0 then (some (0, false)) else ((valiselaw6_coded.l3 FU z266 z267 0 l_text_0 z295 z296 z297 z298 z299).bind fun (yj316 : Sum (Int × Bool) (List Int × Int)) => onR yj316 (fun r => some r) fun (l413, y414) => (bits_Writer_Len.f l122 y123).bind fun z513 => (bits_Reader_At.f l413 y414).bind fun z519 => (bits_Writer_Len.f l122 y123).bind fun z525 => some (z513, decide (z519 = z525)))))) : Option (Int × Bool)) = some r := h
  refine calls_start Try.func34 rfl rfl ?_
  refine L_seq ?_
  refine L_region ?_
  refine F_val rfl rfl rfl (O_assign rfl rfl) ?_
  refine F_val rfl rfl rfl (O_assign rfl rfl) ?_
  refine F_nil ?_
  refine L_seq ?_
  refine L_region ?_
  obtain ⟨⟨z5, z6⟩, h4, H⟩ := of_bind H
  refine F_call (xs := []) rfl rfl rfl rfl Try.func57 nm57 rfl rfl ((bits_NewWriter.calls (HS0.give [] rfl (Lent.nil)) h4).mono (fun e w hc => ?_))
  obtain ⟨g9, A11, c12, rfl, HSo⟩ := hc
  refine ⟨.pointer (some ⟨g9, 0, none⟩), rfl, ?_⟩
  have HS8 : Hp S0 w0 w [.rd A_text_0 (rowC (Eint .u8) l_text_0), .rd A_lens_1 (rowC (Eint .i64) l_lens_1), .box g9 [.slice A11 z5.length c12, .int .i64 z6] 101, .own A11 c12 (rowC (Eint .u8) z5) 5 (Eint .u8).sz] := (HS0.back [] HSo rfl).sel [0, 1, 2, 3] rfl
  refine F_val rfl rfl rfl (O_assign rfl rfl) ?_
  refine F_nil ?_
  refine L_seq ?_
  refine L_region ?_
  refine F_val rfl rfl rfl (O_move rfl rfl) ?_
  obtain ⟨z18, h17, H⟩ := of_bind H
  refine F_call (xs := [.tmp 18]) rfl rfl rfl rfl Try.func24 nm24 rfl rfl ((valiselaw6_copied.calls (HS8.give [] rfl (Lent.rd HS8 (Lent.nil) (i := 1) rfl ((HS8.cells_rd (i := 1) rfl).self))) hc_lens_1 h17).mono (fun e w hc => ?_))
  obtain ⟨A21, c22, rfl, HSo⟩ := hc
  refine ⟨.slice A21 z18.length c22, rfl, ?_⟩
  have HS20 : Hp S0 w0 w [.rd A_text_0 (rowC (Eint .u8) l_text_0), .rd A_lens_1 (rowC (Eint .i64) l_lens_1), .box g9 [.slice A11 z5.length c12, .int .i64 z6] 101, .own A11 c12 (rowC (Eint .u8) z5) 5 (Eint .u8).sz, .own A21 c22 (rowC (Eint .i64) z18) 3 (Eint .i64).sz] := (HS8.back [] HSo rfl).sel [0, 1, 2, 3, 4] rfl
  obtain ⟨⟨z28, z29⟩, h27, H⟩ := of_bind H
  rcases z28 with _ | z28
  · refine F_call (xs := [.tmp 19]) rfl rfl rfl rfl Try.func58 nm58 rfl rfl ((code_NewEncoder.calls (HS20.give [] rfl (Lent.own HS20 (Lent.nil) (i := 4) rfl rfl ((HS20.cells_own (i := 4) rfl).self))) (HS20.own_capE (i := 4) rfl (by decide)) h27).mono (fun e w hc => ?_))
    have H := (onO_none _ _).symm.trans H
    obtain ⟨rfl, HSo⟩ := hc
    refine ⟨.tuple #[.pointer none, .int .i64 z29], rfl, ?_⟩
    have HS31 : Hp S0 w0 w [.rd A_text_0 (rowC (Eint .u8) l_text_0), .rd A_lens_1 (rowC (Eint .i64) l_lens_1), .box g9 [.slice A11 z5.length c12, .int .i64 z6] 101, .own A11 c12 (rowC (Eint .u8) z5) 5 (Eint .u8).sz, .own A21 c22 (rowC (Eint .i64) z18) 3 (Eint .i64).sz] := (HS20.back [] HSo rfl).sel [0, 1, 2, 3, 4] rfl
    refine F_val rfl rfl rfl (O_move rfl rfl) ?_
    refine F_val rfl rfl rfl (O_extract (v := .pointer none) rfl rfl rfl) ?_
    refine F_val rfl rfl rfl (O_extract (v := .int .i64 z29) rfl rfl rfl) ?_
    refine F_val rfl rfl rfl (O_assign rfl rfl) ?_
    refine F_val rfl rfl rfl (O_assign rfl rfl) ?_
    refine F_nil ?_
    refine L_seq ?_
    refine L_seq ?_
    refine L_region ?_
    refine F_val rfl rfl rfl (O_move rfl rfl) ?_
    refine F_val rfl rfl rfl (O_peq rfl rfl rfl Try.underlying78) ?_
    refine F_val rfl rfl rfl (O_move rfl rfl) ?_
    refine F_gval rfl rfl rfl rfl rfl rfl (O_move rfl rfl) ?_
    refine F_gval rfl rfl rfl rfl rfl rfl (O_peq rfl rfl rfl Try.underlying80) ?_
    refine F_val rfl rfl rfl (O_pickF rfl rfl rfl) ?_
    refine F_val rfl rfl rfl (O_move rfl rfl) ?_
    refine F_gskip rfl rfl rfl rfl rfl rfl rfl ?_
    refine F_gskip rfl rfl rfl rfl rfl rfl rfl ?_
    refine F_val rfl rfl rfl (O_pickT rfl rfl rfl) ?_
    refine F_nil ?_
    refine L_cond rfl (fun _ => ?_) (fun hx => by cases hx)
    refine L_seq ?_
    have HS32 : Hp S0 w0 w [.rd A_text_0 (rowC (Eint .u8) l_text_0), .rd A_lens_1 (rowC (Eint .i64) l_lens_1)] := HS31.sel [0, 1] rfl
    refine L_region ?_
    refine F_val rfl rfl rfl (O_assign rfl rfl) ?_
    refine F_val rfl rfl rfl (O_assign rfl rfl) ?_
    refine F_nil ?_
    refine L_ret (fun a ha => (post_ret2 ha rfl rfl rfl ?_))
    obtain rfl := Option.some.inj H
    exact ⟨rfl, HS32.sel [] rfl⟩
  · refine F_call (xs := [.tmp 19]) rfl rfl rfl rfl Try.func58 nm58 rfl rfl ((code_NewEncoder.calls (HS20.give [] rfl (Lent.own HS20 (Lent.nil) (i := 4) rfl rfl ((HS20.cells_own (i := 4) rfl).self))) (HS20.own_capE (i := 4) rfl (by decide)) h27).mono (fun e w hc => ?_))
    obtain ⟨z33, z34, z35, z36⟩ := z28
    have H := (onO_some _ _ _).symm.trans H
    obtain ⟨g39, A41, c42, A44, c45, rfl, HSo⟩ := hc
    refine ⟨.tuple #[.pointer (some ⟨g39, 0, none⟩), .int .i64 z29], rfl, ?_⟩
    have HS38 : Hp S0 w0 w [.rd A_text_0 (rowC (Eint .u8) l_text_0), .rd A_lens_1 (rowC (Eint .i64) l_lens_1), .box g9 [.slice A11 z5.length c12, .int .i64 z6] 101, .own A11 c12 (rowC (Eint .u8) z5) 5 (Eint .u8).sz, .own A21 c22 (rowC (Eint .i64) z18) 3 (Eint .i64).sz, .box g39 (([.slice A41 z33.length c42, .slice A44 z34.length c45] : List Value) ++ rowC (Eint .i64) z35 ++ rowC (Eint .i64) z36) 112, .own A41 c42 (rowC (Eint .i64) z33) 3 (Eint .i64).sz, .own A44 c45 (rowC (Eint .i64) z34) 3 (Eint .i64).sz] := (HS20.back [] HSo rfl).sel [0, 1, 2, 3, 4, 5, 6, 7] rfl
    refine F_val rfl rfl rfl (O_move rfl rfl) ?_
    refine F_val rfl rfl rfl (O_extract (v := .pointer (some ⟨g39, 0, none⟩)) rfl rfl rfl) ?_
    refine F_val rfl rfl rfl (O_extract (v := .int .i64 z29) rfl rfl rfl) ?_
    refine F_val rfl rfl rfl (O_assign rfl rfl) ?_
    refine F_val rfl rfl rfl (O_assign rfl rfl) ?_
    refine F_nil ?_
    refine L_seq ?_
    refine L_seq ?_
    refine L_region ?_
    refine F_val rfl rfl rfl (O_move rfl rfl) ?_
    refine F_val rfl rfl rfl (O_peq rfl rfl rfl Try.underlying78) ?_
    refine F_val rfl rfl rfl (O_move rfl rfl) ?_
    refine F_gval rfl rfl rfl rfl rfl rfl (O_move rfl rfl) ?_
    refine F_gval rfl rfl rfl rfl rfl rfl (O_peq rfl rfl rfl Try.underlying80) ?_
    refine F_val rfl rfl rfl (O_pickF rfl rfl rfl) ?_
    refine F_val rfl rfl rfl (O_move rfl rfl) ?_
    refine F_gval rfl rfl rfl rfl rfl rfl (O_move rfl rfl) ?_
    refine F_gval rfl rfl rfl rfl rfl rfl (O_ne rfl rfl rfl) ?_
    refine F_val rfl rfl rfl (O_pickF rfl rfl rfl) ?_
    refine F_nil ?_
    refine L_condP rfl (fun c47 => ?_) (fun c47 => ?_)
    · have H := of_pos H c47
      refine L_seq ?_
      have HS48 : Hp S0 w0 w [.rd A_text_0 (rowC (Eint .u8) l_text_0), .rd A_lens_1 (rowC (Eint .i64) l_lens_1)] := HS38.sel [0, 1] rfl
      refine L_region ?_
      refine F_val rfl rfl rfl (O_assign rfl rfl) ?_
      refine F_val rfl rfl rfl (O_assign rfl rfl) ?_
      refine F_nil ?_
      refine L_ret (fun a ha => (post_ret2 ha rfl rfl rfl ?_))
      obtain rfl := Option.some.inj H
      exact ⟨rfl, HS48.sel [] rfl⟩
    · have H := of_neg H c47
      refine L_skip ?_
      refine L_seq ?_
      refine L_seq ?_
      refine L_region ?_
      refine F_val rfl rfl rfl (O_assign rfl rfl) ?_
      refine F_nil ?_
      obtain ⟨yj49, Hyj49, H⟩ := of_bind H
      refine L_join (fun a w => ∃ (l122 : List Int), ∃ (y123 : Int), ∃ (A120 : Option Addr), ∃ (c121 : Nat), yj49 = Sum.inr (l122, y123) ∧ Is Try.f34.ntmps a [(0, .slice A_text_0 l_text_0.length c_text_0), (1, .slice A_lens_1 l_lens_1.length c_lens_1), (6, .pointer (some ⟨g9, 0, none⟩))] ∧ Hp S0 w0 w [.rd A_text_0 (rowC (Eint .u8) l_text_0), .rd A_lens_1 (rowC (Eint .i64) l_lens_1), .box g9 [.slice A120 l122.length c121, .int .i64 y123] 101, .own A120 c121 (rowC (Eint .u8) l122) 5 (Eint .u8).sz]) (fun Qj49 hNj49 hOj49 => ?_) (fun a w hR => ?_)
      · have HOj49 := H
        have H := Hyj49
        refine L_blk (fun Qb124 hNb124 hXb124 hOb124 => ?_)
        refine L_lp (fun k a w => ∃ (l171 : List Int), ∃ (y172 : Int), ∃ (i_173 : Int), ∃ (A169 : Option Addr), ∃ (c170 : Nat), Is Try.f34.ntmps a [(0, .slice A_text_0 l_text_0.length c_text_0), (1, .slice A_lens_1 l_lens_1.length c_lens_1), (6, .pointer (some ⟨g9, 0, none⟩)), (7, .pointer (some ⟨g39, 0, none⟩)), (9, .int .i64 i_173)] ∧ Hp S0 w0 w [.rd A_text_0 (rowC (Eint .u8) l_text_0), .rd A_lens_1 (rowC (Eint .i64) l_lens_1), .box g9 [.slice A169 l171.length c170, .int .i64 y172] 101, .own A169 c170 (rowC (Eint .u8) l171) 5 (Eint .u8).sz, .box g39 (([.slice A41 z33.length c42, .slice A44 z34.length c45] : List Value) ++ rowC (Eint .i64) z35 ++ rowC (Eint .i64) z36) 112, .own A41 c42 (rowC (Eint .i64) z33) 3 (Eint .i64).sz, .own A44 c45 (rowC (Eint .i64) z34) 3 (Eint .i64).sz] ∧ valiselaw6_coded.l1 k l171 y172 i_173 l_text_0 z33 z34 z35 z36 = some yj49) FU (fun a ha => ⟨_, _, _, _, _, Is.cons ha (Is.cons ha (Is.cons ha (Is.cons ha (Is.cons ha (Is.nil ha) rfl) rfl) rfl) rfl) rfl, HS38.sel [0, 1, 2, 3, 5, 6, 7] rfl, H⟩) (fun kp168 a w174 hI Qp168 hNp168 hOp168 => ?_)
        obtain ⟨l171, y172, i_173, A169, c170, ha, HS175, HAp168⟩ := hI
        cases kp168 with
        | zero => cases (show (none : Option _) = some _ from HAp168)
        | succ kp168 =>
          have H := (valiselaw6_coded.l1.eq_2 ..).symm.trans HAp168
          refine wpLF_app ?_ ha
          refine L_seq ?_
          refine L_seq ?_
          refine L_region ?_
          refine F_val rfl rfl rfl (O_move rfl rfl) ?_
          refine F_val rfl rfl rfl (O_move rfl rfl) ?_
          refine F_val rfl rfl rfl (O_len rfl rfl Try.underlying46) ?_
          refine F_val rfl rfl rfl (O_lt rfl rfl rfl) ?_
          refine F_nil ?_
          refine L_condP rfl (fun c176 => ?_) (fun c176 => ?_)
          · have H := of_pos H c176
            refine L_skip ?_
            refine L_seq ?_
            refine L_blk (fun Q177 hN177 hX177 hO177 => ?_)
            refine L_seq ?_
            refine L_region ?_
            refine F_val rfl rfl rfl (O_move rfl rfl) ?_
            refine F_val rfl rfl rfl (O_move rfl rfl) ?_
            refine F_val rfl rfl rfl (O_move rfl rfl) ?_
            refine F_val rfl rfl rfl (O_move rfl rfl) ?_
            obtain ⟨⟨g178, g179⟩, H⟩ := of_gd H
            refine F_val rfl rfl rfl (O_idx rfl rfl rfl Try.underlying46 size5 g178 g179 (Cells.isA (HS175.cells_rd (i := 0) rfl) (rowC_ne (E := (Eint .u8)) g178 g179 (by decide)))) ?_
            refine F_val rfl rfl rfl (O_loadC rfl rfl flat5 (HS175.cells_rd (i := 0) rfl) (int_cell g178 g179)) ?_
            refine F_val rfl rfl rfl (O_conv rfl rfl ⟨_, Try.underlying5⟩ Try.underlying3) ?_
            obtain ⟨⟨z184, z185, z186⟩, h183, H⟩ := of_bind H
            refine F_call (xs := [.tmp 39, .tmp 40, .tmp 45]) rfl rfl rfl rfl Try.func59 nm59 rfl rfl ((code_Encoder_Put.calls (HS175.give [2, 3] rfl (Lent.box HS175 (Lent.own HS175 (Lent.own HS175 (Lent.nil) (i := 6) rfl rfl ((HS175.cells_own (i := 6) rfl).self)) (i := 5) rfl rfl ((HS175.cells_own (i := 5) rfl).self)) (i := 4) rfl rfl (HS175.cells_box (i := 4) rfl).self)) h183).mono (fun e w hc => ?_))
            obtain ⟨A189, c190, rfl, HSo⟩ := hc
            refine ⟨.int .i64 z184, rfl, ?_⟩
            have HS188 : Hp S0 w0 w [.rd A_text_0 (rowC (Eint .u8) l_text_0), .rd A_lens_1 (rowC (Eint .i64) l_lens_1), .box g9 [.slice A189 z185.length c190, .int .i64 z186] 101, .own A189 c190 (rowC (Eint .u8) z185) 5 (Eint .u8).sz, .box g39 (([.slice A41 z33.length c42, .slice A44 z34.length c45] : List Value) ++ rowC (Eint .i64) z35 ++ rowC (Eint .i64) z36) 112, .own A41 c42 (rowC (Eint .i64) z33) 3 (Eint .i64).sz, .own A44 c45 (rowC (Eint .i64) z34) 3 (Eint .i64).sz] := (HS175.back [2, 3] HSo rfl).sel [0, 1, 7, 8, 4, 5, 6] rfl
            refine F_val rfl rfl rfl (O_ne rfl rfl rfl) ?_
            refine F_nil ?_
            refine L_condP rfl (fun c191 => ?_) (fun c191 => ?_)
            · have H := of_pos H c191
              refine L_seq ?_
              refine L_region ?_
              refine F_val rfl rfl rfl (O_assign rfl rfl) ?_
              refine F_val rfl rfl rfl (O_assign rfl rfl) ?_
              refine F_nil ?_
              refine L_ret (fun a ha => (hO177 .ret a _ rfl (hOp168 .ret a _ rfl (hOb124 .ret a _ rfl (hOj49 .ret a _ rfl (post_ret2 ha rfl rfl rfl ?_))))))
              obtain rfl := Option.some.inj H
              obtain rfl := Option.some.inj (show (some (0, false) : Option (Int × Bool)) = some _ from HOj49)
              exact ⟨rfl, HS188.sel [] rfl⟩
            · have H := of_neg H c191
              refine L_skip ?_
              refine L_endB hN177 ?_
              refine L_region ?_
              refine F_val rfl rfl rfl (O_move rfl rfl) ?_
              refine F_val rfl rfl rfl (O_add rfl rfl rfl) ?_
              obtain ⟨x192, h193, H⟩ := of_bnd H
              refine F_val rfl rfl rfl (O_assign' rfl rfl (congrArg (Value.int .i64) h193)) ?_
              refine F_nil ?_
              refine L_nil (fun a ha => hNp168 _ a _ (Nat.lt_succ_self _) ⟨_, _, _, _, _, Is.cons ha (Is.cons ha (Is.cons ha (Is.cons ha (Is.cons ha (Is.nil ha) rfl) rfl) rfl) rfl) rfl, HS188.sel [0, 1, 2, 3, 4, 5, 6] rfl, H⟩)
          · have H := of_neg H c176
            refine L_exitB (fun a w h => hOp168 (.exit 0) a w rfl (hXb124 a w h)) ?_
            refine L_nil (fun a ha => hNj49 a _ ⟨_, _, _, _, (Option.some.inj H).symm, Is.cons ha (Is.cons ha (Is.cons ha (Is.nil ha) rfl) rfl) rfl, HS175.sel [0, 1, 2, 3] rfl⟩)
      · obtain ⟨l122, y123, A120, c121, rfl, ha, HS195⟩ := hR
        refine wpLF_app ?_ ha
        have H := (onR_inr _ _ _).symm.trans H
        refine L_seq ?_
        refine L_seq ?_
        refine L_region ?_
        refine F_val rfl rfl rfl (O_move rfl rfl) ?_
        refine F_val rfl rfl rfl (O_len rfl rfl Try.underlying46) ?_
        refine F_val rfl rfl rfl (O_eq rfl rfl rfl) ?_
        refine F_nil ?_
        refine L_condP rfl (fun c196 => ?_) (fun c196 => ?_)
        · have H := of_pos H c196
          refine L_seq ?_
          refine L_region ?_
          refine F_val rfl rfl rfl (O_move rfl rfl) ?_
          obtain ⟨z199, h198, H⟩ := of_bind H
          refine F_qcall (v := .int .i64 z199) (xs := [.tmp 51]) rfl rfl rfl rfl Try.func60 nm60 rfl rfl ((bits_Writer_Len.calls (HS195.give [] rfl (Lent.box HS195 (Lent.own HS195 (Lent.nil) (i := 3) rfl rfl ((HS195.cells_own (i := 3) rfl).self)) (i := 2) rfl rfl (HS195.cells_box (i := 2) rfl).self)) h198).mono (fun e w hc => ?_)) (fun w200 hw201 => ?_)
          · obtain ⟨rfl, h⟩ := hc
            exact ⟨rfl, h.chg0⟩
          have HS202 := HS195.keep hw201
          refine F_val rfl rfl rfl (O_move rfl rfl) ?_
          obtain ⟨z205, h204, H⟩ := of_bind H
          refine F_qcall (v := .int .i64 z205) (xs := [.tmp 53]) rfl rfl rfl rfl Try.func60 nm60 rfl rfl ((bits_Writer_Len.calls (HS202.give [] rfl (Lent.box HS202 (Lent.own HS202 (Lent.nil) (i := 3) rfl rfl ((HS202.cells_own (i := 3) rfl).self)) (i := 2) rfl rfl (HS202.cells_box (i := 2) rfl).self)) h204).mono (fun e w hc => ?_)) (fun w206 hw207 => ?_)
          · obtain ⟨rfl, h⟩ := hc
            exact ⟨rfl, h.chg0⟩
          have HS208 := HS202.keep hw207
          refine F_val rfl rfl rfl (O_eq rfl rfl rfl) ?_
          refine F_val rfl rfl rfl (O_assign rfl rfl) ?_
          refine F_val rfl rfl rfl (O_assign rfl rfl) ?_
          refine F_nil ?_
          refine L_ret (fun a ha => (post_ret2 ha rfl rfl rfl ?_))
          obtain rfl := Option.some.inj H
          exact ⟨rfl, HS208.sel [] rfl⟩
        · have H := of_neg H c196
          refine L_skip ?_
          refine L_seq ?_
          refine L_region ?_
          refine F_val rfl rfl rfl (O_move rfl rfl) ?_
          obtain ⟨z213, h212, H⟩ := of_bind H
          refine F_call (xs := [.tmp 56]) rfl rfl rfl rfl Try.func62 nm62 rfl rfl ((bits_Writer_Bytes.calls (HS195.give [] rfl (Lent.box HS195 (Lent.own HS195 (Lent.nil) (i := 3) rfl rfl ((HS195.cells_own (i := 3) rfl).self)) (i := 2) rfl rfl (HS195.cells_box (i := 2) rfl).self)) h212).mono (fun e w hc => ?_))
          obtain ⟨A216, c217, rfl, HSo⟩ := hc
          refine ⟨.slice A216 z213.length c217, rfl, ?_⟩
          have HS215 : Hp S0 w0 w [.rd A_text_0 (rowC (Eint .u8) l_text_0), .rd A_lens_1 (rowC (Eint .i64) l_lens_1), .box g9 [.slice A120 l122.length c121, .int .i64 y123] 101, .own A120 c121 (rowC (Eint .u8) l122) 5 (Eint .u8).sz, .own A216 c217 (rowC (Eint .u8) z213) 5 (Eint .u8).sz] := (HS195.back [] HSo rfl).sel [0, 1, 2, 3, 4] rfl
          obtain ⟨z223, h222, H⟩ := of_bind H
          rcases z223 with _ | z223
          · refine F_call (xs := [.tmp 57]) rfl rfl rfl rfl Try.func61 nm61 rfl rfl ((bits_NewReader.calls (HS215.give [] rfl (Lent.own HS215 (Lent.nil) (i := 4) rfl rfl ((HS215.cells_own (i := 4) rfl).self))) (HS215.own_capE (i := 4) rfl (by decide)) h222).mono (fun e w hc => ?_))
            have H := (onO_none _ _).symm.trans H
            obtain ⟨rfl, HSo⟩ := hc
            refine ⟨.pointer none, rfl, ?_⟩
            have HS225 : Hp S0 w0 w [.rd A_text_0 (rowC (Eint .u8) l_text_0), .rd A_lens_1 (rowC (Eint .i64) l_lens_1), .box g9 [.slice A120 l122.length c121, .int .i64 y123] 101, .own A120 c121 (rowC (Eint .u8) l122) 5 (Eint .u8).sz, .own A216 c217 (rowC (Eint .u8) z213) 5 (Eint .u8).sz] := (HS215.back [] HSo rfl).sel [0, 1, 2, 3, 4] rfl
            refine F_val rfl rfl rfl (O_assign rfl rfl) ?_
            refine F_nil ?_
            refine L_seq ?_
            refine L_region ?_
            refine F_val rfl rfl rfl (O_move rfl rfl) ?_
            obtain ⟨z230, h229, H⟩ := of_bind H
            refine F_call (xs := [.tmp 60]) rfl rfl rfl rfl Try.func24 nm24 rfl rfl ((valiselaw6_copied.calls (HS225.give [] rfl (Lent.rd HS225 (Lent.nil) (i := 1) rfl ((HS225.cells_rd (i := 1) rfl).self))) hc_lens_1 h229).mono (fun e w hc => ?_))
            obtain ⟨A233, c234, rfl, HSo⟩ := hc
            refine ⟨.slice A233 z230.length c234, rfl, ?_⟩
            have HS232 : Hp S0 w0 w [.rd A_text_0 (rowC (Eint .u8) l_text_0), .rd A_lens_1 (rowC (Eint .i64) l_lens_1), .box g9 [.slice A120 l122.length c121, .int .i64 y123] 101, .own A120 c121 (rowC (Eint .u8) l122) 5 (Eint .u8).sz, .own A216 c217 (rowC (Eint .u8) z213) 5 (Eint .u8).sz, .own A233 c234 (rowC (Eint .i64) z230) 3 (Eint .i64).sz] := (HS225.back [] HSo rfl).sel [0, 1, 2, 3, 4, 5] rfl
            obtain ⟨⟨z240, z241⟩, h239, H⟩ := of_bind H
            rcases z240 with _ | z240
            · refine F_call (xs := [.tmp 61]) rfl rfl rfl rfl Try.func63 nm63 rfl rfl ((code_NewDecoder.calls (HS232.give [] rfl (Lent.own HS232 (Lent.nil) (i := 5) rfl rfl ((HS232.cells_own (i := 5) rfl).self))) (HS232.own_capE (i := 5) rfl (by decide)) h239).mono (fun e w hc => ?_))
              have H := (onO_none _ _).symm.trans H
              obtain ⟨rfl, HSo⟩ := hc
              refine ⟨.tuple #[.pointer none, .int .i64 z241], rfl, ?_⟩
              have HS243 : Hp S0 w0 w [.rd A_text_0 (rowC (Eint .u8) l_text_0), .rd A_lens_1 (rowC (Eint .i64) l_lens_1), .box g9 [.slice A120 l122.length c121, .int .i64 y123] 101, .own A120 c121 (rowC (Eint .u8) l122) 5 (Eint .u8).sz, .own A216 c217 (rowC (Eint .u8) z213) 5 (Eint .u8).sz, .own A233 c234 (rowC (Eint .i64) z230) 3 (Eint .i64).sz] := (HS232.back [] HSo rfl).sel [0, 1, 2, 3, 4, 5] rfl
              refine F_val rfl rfl rfl (O_move rfl rfl) ?_
              refine F_val rfl rfl rfl (O_extract (v := .pointer none) rfl rfl rfl) ?_
              refine F_val rfl rfl rfl (O_extract (v := .int .i64 z241) rfl rfl rfl) ?_
              refine F_val rfl rfl rfl (O_assign rfl rfl) ?_
              refine F_val rfl rfl rfl (O_assign rfl rfl) ?_
              refine F_nil ?_
              refine L_seq ?_
              refine L_seq ?_
              have HS244 : Hp S0 w0 w [.rd A_text_0 (rowC (Eint .u8) l_text_0), .rd A_lens_1 (rowC (Eint .i64) l_lens_1), .box g9 [.slice A120 l122.length c121, .int .i64 y123] 101, .own A120 c121 (rowC (Eint .u8) l122) 5 (Eint .u8).sz] := HS243.sel [0, 1, 2, 3] rfl
              refine L_region ?_
              refine F_val rfl rfl rfl (O_move rfl rfl) ?_
              refine F_val rfl rfl rfl (O_peq rfl rfl rfl Try.underlying84) ?_
              refine F_val rfl rfl rfl (O_move rfl rfl) ?_
              refine F_gskip rfl rfl rfl rfl rfl rfl rfl ?_
              refine F_gskip rfl rfl rfl rfl rfl rfl rfl ?_
              refine F_val rfl rfl rfl (O_pickT rfl rfl rfl) ?_
              refine F_val rfl rfl rfl (O_move rfl rfl) ?_
              refine F_gskip rfl rfl rfl rfl rfl rfl rfl ?_
              refine F_gskip rfl rfl rfl rfl rfl rfl rfl ?_
              refine F_val rfl rfl rfl (O_pickT rfl rfl rfl) ?_
              refine F_nil ?_
              refine L_cond rfl (fun _ => ?_) (fun hx => by cases hx)
              refine L_seq ?_
              have HS245 : Hp S0 w0 w [.rd A_text_0 (rowC (Eint .u8) l_text_0), .rd A_lens_1 (rowC (Eint .i64) l_lens_1)] := HS244.sel [0, 1] rfl
              refine L_region ?_
              refine F_val rfl rfl rfl (O_assign rfl rfl) ?_
              refine F_val rfl rfl rfl (O_assign rfl rfl) ?_
              refine F_nil ?_
              refine L_ret (fun a ha => (post_ret2 ha rfl rfl rfl ?_))
              obtain rfl := Option.some.inj H
              exact ⟨rfl, HS245.sel [] rfl⟩
            · refine F_call (xs := [.tmp 61]) rfl rfl rfl rfl Try.func63 nm63 rfl rfl ((code_NewDecoder.calls (HS232.give [] rfl (Lent.own HS232 (Lent.nil) (i := 5) rfl rfl ((HS232.cells_own (i := 5) rfl).self))) (HS232.own_capE (i := 5) rfl (by decide)) h239).mono (fun e w hc => ?_))
              obtain ⟨z246, z247, z248, z249, z250⟩ := z240
              have H := (onO_some _ _ _).symm.trans H
              obtain ⟨g253, A255, c256, A258, c259, A261, c262, rfl, HSo⟩ := hc
              refine ⟨.tuple #[.pointer (some ⟨g253, 0, none⟩), .int .i64 z241], rfl, ?_⟩
              have HS252 : Hp S0 w0 w [.rd A_text_0 (rowC (Eint .u8) l_text_0), .rd A_lens_1 (rowC (Eint .i64) l_lens_1), .box g9 [.slice A120 l122.length c121, .int .i64 y123] 101, .own A120 c121 (rowC (Eint .u8) l122) 5 (Eint .u8).sz, .own A216 c217 (rowC (Eint .u8) z213) 5 (Eint .u8).sz, .own A233 c234 (rowC (Eint .i64) z230) 3 (Eint .i64).sz, .box g253 (([.slice A255 z246.length c256, .slice A258 z247.length c259] : List Value) ++ rowC (Eint .i64) z248 ++ rowC (Eint .i64) z249 ++ ([.slice A261 z250.length c262] : List Value)) 121, .own A255 c256 (rowC (Eint .i64) z246) 3 (Eint .i64).sz, .own A258 c259 (rowC (Eint .i64) z247) 3 (Eint .i64).sz, .own A261 c262 (rowC (Eint .i64) z250) 3 (Eint .i64).sz] := (HS232.back [] HSo rfl).sel [0, 1, 2, 3, 4, 5, 6, 7, 8, 9] rfl
              refine F_val rfl rfl rfl (O_move rfl rfl) ?_
              refine F_val rfl rfl rfl (O_extract (v := .pointer (some ⟨g253, 0, none⟩)) rfl rfl rfl) ?_
              refine F_val rfl rfl rfl (O_extract (v := .int .i64 z241) rfl rfl rfl) ?_
              refine F_val rfl rfl rfl (O_assign rfl rfl) ?_
              refine F_val rfl rfl rfl (O_assign rfl rfl) ?_
              refine F_nil ?_
              refine L_seq ?_
              refine L_seq ?_
              have HS264 : Hp S0 w0 w [.rd A_text_0 (rowC (Eint .u8) l_text_0), .rd A_lens_1 (rowC (Eint .i64) l_lens_1), .box g9 [.slice A120 l122.length c121, .int .i64 y123] 101, .own A120 c121 (rowC (Eint .u8) l122) 5 (Eint .u8).sz, .box g253 (([.slice A255 z246.length c256, .slice A258 z247.length c259] : List Value) ++ rowC (Eint .i64) z248 ++ rowC (Eint .i64) z249 ++ ([.slice A261 z250.length c262] : List Value)) 121, .own A255 c256 (rowC (Eint .i64) z246) 3 (Eint .i64).sz, .own A258 c259 (rowC (Eint .i64) z247) 3 (Eint .i64).sz, .own A261 c262 (rowC (Eint .i64) z250) 3 (Eint .i64).sz] := HS252.sel [0, 1, 2, 3, 6, 7, 8, 9] rfl
              refine L_region ?_
              refine F_val rfl rfl rfl (O_move rfl rfl) ?_
              refine F_val rfl rfl rfl (O_peq rfl rfl rfl Try.underlying84) ?_
              refine F_val rfl rfl rfl (O_move rfl rfl) ?_
              refine F_gskip rfl rfl rfl rfl rfl rfl rfl ?_
              refine F_gskip rfl rfl rfl rfl rfl rfl rfl ?_
              refine F_val rfl rfl rfl (O_pickT rfl rfl rfl) ?_
              refine F_val rfl rfl rfl (O_move rfl rfl) ?_
              refine F_gskip rfl rfl rfl rfl rfl rfl rfl ?_
              refine F_gskip rfl rfl rfl rfl rfl rfl rfl ?_
              refine F_val rfl rfl rfl (O_pickT rfl rfl rfl) ?_
              refine F_nil ?_
              refine L_cond rfl (fun _ => ?_) (fun hx => by cases hx)
              refine L_seq ?_
              have HS265 : Hp S0 w0 w [.rd A_text_0 (rowC (Eint .u8) l_text_0), .rd A_lens_1 (rowC (Eint .i64) l_lens_1)] := HS264.sel [0, 1] rfl
              refine L_region ?_
              refine F_val rfl rfl rfl (O_assign rfl rfl) ?_
              refine F_val rfl rfl rfl (O_assign rfl rfl) ?_
              refine F_nil ?_
              refine L_ret (fun a ha => (post_ret2 ha rfl rfl rfl ?_))
              obtain rfl := Option.some.inj H
              exact ⟨rfl, HS265.sel [] rfl⟩
          · refine F_call (xs := [.tmp 57]) rfl rfl rfl rfl Try.func61 nm61 rfl rfl ((bits_NewReader.calls (HS215.give [] rfl (Lent.own HS215 (Lent.nil) (i := 4) rfl rfl ((HS215.cells_own (i := 4) rfl).self))) (HS215.own_capE (i := 4) rfl (by decide)) h222).mono (fun e w hc => ?_))
            obtain ⟨z266, z267⟩ := z223
            have H := (onO_some _ _ _).symm.trans H
            obtain ⟨g270, A272, c273, rfl, HSo⟩ := hc
            refine ⟨.pointer (some ⟨g270, 0, none⟩), rfl, ?_⟩
            have HS269 : Hp S0 w0 w [.rd A_text_0 (rowC (Eint .u8) l_text_0), .rd A_lens_1 (rowC (Eint .i64) l_lens_1), .box g9 [.slice A120 l122.length c121, .int .i64 y123] 101, .own A120 c121 (rowC (Eint .u8) l122) 5 (Eint .u8).sz, .own A216 c217 (rowC (Eint .u8) z213) 5 (Eint .u8).sz, .box g270 [.slice A272 z266.length c273, .int .i64 z267] 119, .own A272 c273 (rowC (Eint .u8) z266) 5 (Eint .u8).sz] := (HS215.back [] HSo rfl).sel [0, 1, 2, 3, 4, 5, 6] rfl
            refine F_val rfl rfl rfl (O_assign rfl rfl) ?_
            refine F_nil ?_
            refine L_seq ?_
            refine L_region ?_
            refine F_val rfl rfl rfl (O_move rfl rfl) ?_
            obtain ⟨z279, h278, H⟩ := of_bind H
            refine F_call (xs := [.tmp 60]) rfl rfl rfl rfl Try.func24 nm24 rfl rfl ((valiselaw6_copied.calls (HS269.give [] rfl (Lent.rd HS269 (Lent.nil) (i := 1) rfl ((HS269.cells_rd (i := 1) rfl).self))) hc_lens_1 h278).mono (fun e w hc => ?_))
            obtain ⟨A282, c283, rfl, HSo⟩ := hc
            refine ⟨.slice A282 z279.length c283, rfl, ?_⟩
            have HS281 : Hp S0 w0 w [.rd A_text_0 (rowC (Eint .u8) l_text_0), .rd A_lens_1 (rowC (Eint .i64) l_lens_1), .box g9 [.slice A120 l122.length c121, .int .i64 y123] 101, .own A120 c121 (rowC (Eint .u8) l122) 5 (Eint .u8).sz, .own A216 c217 (rowC (Eint .u8) z213) 5 (Eint .u8).sz, .box g270 [.slice A272 z266.length c273, .int .i64 z267] 119, .own A272 c273 (rowC (Eint .u8) z266) 5 (Eint .u8).sz, .own A282 c283 (rowC (Eint .i64) z279) 3 (Eint .i64).sz] := (HS269.back [] HSo rfl).sel [0, 1, 2, 3, 4, 5, 6, 7] rfl
            obtain ⟨⟨z289, z290⟩, h288, H⟩ := of_bind H
            rcases z289 with _ | z289
            · refine F_call (xs := [.tmp 61]) rfl rfl rfl rfl Try.func63 nm63 rfl rfl ((code_NewDecoder.calls (HS281.give [] rfl (Lent.own HS281 (Lent.nil) (i := 7) rfl rfl ((HS281.cells_own (i := 7) rfl).self))) (HS281.own_capE (i := 7) rfl (by decide)) h288).mono (fun e w hc => ?_))
              have H := (onO_none _ _).symm.trans H
              obtain ⟨rfl, HSo⟩ := hc
              refine ⟨.tuple #[.pointer none, .int .i64 z290], rfl, ?_⟩
              have HS292 : Hp S0 w0 w [.rd A_text_0 (rowC (Eint .u8) l_text_0), .rd A_lens_1 (rowC (Eint .i64) l_lens_1), .box g9 [.slice A120 l122.length c121, .int .i64 y123] 101, .own A120 c121 (rowC (Eint .u8) l122) 5 (Eint .u8).sz, .own A216 c217 (rowC (Eint .u8) z213) 5 (Eint .u8).sz, .box g270 [.slice A272 z266.length c273, .int .i64 z267] 119, .own A272 c273 (rowC (Eint .u8) z266) 5 (Eint .u8).sz, .own A282 c283 (rowC (Eint .i64) z279) 3 (Eint .i64).sz] := (HS281.back [] HSo rfl).sel [0, 1, 2, 3, 4, 5, 6, 7] rfl
              refine F_val rfl rfl rfl (O_move rfl rfl) ?_
              refine F_val rfl rfl rfl (O_extract (v := .pointer none) rfl rfl rfl) ?_
              refine F_val rfl rfl rfl (O_extract (v := .int .i64 z290) rfl rfl rfl) ?_
              refine F_val rfl rfl rfl (O_assign rfl rfl) ?_
              refine F_val rfl rfl rfl (O_assign rfl rfl) ?_
              refine F_nil ?_
              refine L_seq ?_
              refine L_seq ?_
              have HS293 : Hp S0 w0 w [.rd A_text_0 (rowC (Eint .u8) l_text_0), .rd A_lens_1 (rowC (Eint .i64) l_lens_1), .box g9 [.slice A120 l122.length c121, .int .i64 y123] 101, .own A120 c121 (rowC (Eint .u8) l122) 5 (Eint .u8).sz, .box g270 [.slice A272 z266.length c273, .int .i64 z267] 119, .own A272 c273 (rowC (Eint .u8) z266) 5 (Eint .u8).sz] := HS292.sel [0, 1, 2, 3, 5, 6] rfl
              refine L_region ?_
              refine F_val rfl rfl rfl (O_move rfl rfl) ?_
              refine F_val rfl rfl rfl (O_peq rfl rfl rfl Try.underlying84) ?_
              refine F_val rfl rfl rfl (O_move rfl rfl) ?_
              refine F_gval rfl rfl rfl rfl rfl rfl (O_move rfl rfl) ?_
              refine F_gval rfl rfl rfl rfl rfl rfl (O_peq rfl rfl rfl Try.underlying87) ?_
              refine F_val rfl rfl rfl (O_pickF rfl rfl rfl) ?_
              refine F_val rfl rfl rfl (O_move rfl rfl) ?_
              refine F_gskip rfl rfl rfl rfl rfl rfl rfl ?_
              refine F_gskip rfl rfl rfl rfl rfl rfl rfl ?_
              refine F_val rfl rfl rfl (O_pickT rfl rfl rfl) ?_
              refine F_nil ?_
              refine L_cond rfl (fun _ => ?_) (fun hx => by cases hx)
              refine L_seq ?_
              have HS294 : Hp S0 w0 w [.rd A_text_0 (rowC (Eint .u8) l_text_0), .rd A_lens_1 (rowC (Eint .i64) l_lens_1)] := HS293.sel [0, 1] rfl
              refine L_region ?_
              refine F_val rfl rfl rfl (O_assign rfl rfl) ?_
              refine F_val rfl rfl rfl (O_assign rfl rfl) ?_
              refine F_nil ?_
              refine L_ret (fun a ha => (post_ret2 ha rfl rfl rfl ?_))
              obtain rfl := Option.some.inj H
              exact ⟨rfl, HS294.sel [] rfl⟩
            · refine F_call (xs := [.tmp 61]) rfl rfl rfl rfl Try.func63 nm63 rfl rfl ((code_NewDecoder.calls (HS281.give [] rfl (Lent.own HS281 (Lent.nil) (i := 7) rfl rfl ((HS281.cells_own (i := 7) rfl).self))) (HS281.own_capE (i := 7) rfl (by decide)) h288).mono (fun e w hc => ?_))
              obtain ⟨z295, z296, z297, z298, z299⟩ := z289
              have H := (onO_some _ _ _).symm.trans H
              obtain ⟨g302, A304, c305, A307, c308, A310, c311, rfl, HSo⟩ := hc
              refine ⟨.tuple #[.pointer (some ⟨g302, 0, none⟩), .int .i64 z290], rfl, ?_⟩
              have HS301 : Hp S0 w0 w [.rd A_text_0 (rowC (Eint .u8) l_text_0), .rd A_lens_1 (rowC (Eint .i64) l_lens_1), .box g9 [.slice A120 l122.length c121, .int .i64 y123] 101, .own A120 c121 (rowC (Eint .u8) l122) 5 (Eint .u8).sz, .own A216 c217 (rowC (Eint .u8) z213) 5 (Eint .u8).sz, .box g270 [.slice A272 z266.length c273, .int .i64 z267] 119, .own A272 c273 (rowC (Eint .u8) z266) 5 (Eint .u8).sz, .own A282 c283 (rowC (Eint .i64) z279) 3 (Eint .i64).sz, .box g302 (([.slice A304 z295.length c305, .slice A307 z296.length c308] : List Value) ++ rowC (Eint .i64) z297 ++ rowC (Eint .i64) z298 ++ ([.slice A310 z299.length c311] : List Value)) 121, .own A304 c305 (rowC (Eint .i64) z295) 3 (Eint .i64).sz, .own A307 c308 (rowC (Eint .i64) z296) 3 (Eint .i64).sz, .own A310 c311 (rowC (Eint .i64) z299) 3 (Eint .i64).sz] := (HS281.back [] HSo rfl).sel [0, 1, 2, 3, 4, 5, 6, 7, 8, 9, 10, 11] rfl
              refine F_val rfl rfl rfl (O_move rfl rfl) ?_
              refine F_val rfl rfl rfl (O_extract (v := .pointer (some ⟨g302, 0, none⟩)) rfl rfl rfl) ?_
              refine F_val rfl rfl rfl (O_extract (v := .int .i64 z290) rfl rfl rfl) ?_
              refine F_val rfl rfl rfl (O_assign rfl rfl) ?_
              refine F_val rfl rfl rfl (O_assign rfl rfl) ?_
              refine F_nil ?_
              refine L_seq ?_
              refine L_seq ?_
              have HS313 : Hp S0 w0 w [.rd A_text_0 (rowC (Eint .u8) l_text_0), .rd A_lens_1 (rowC (Eint .i64) l_lens_1), .box g9 [.slice A120 l122.length c121, .int .i64 y123] 101, .own A120 c121 (rowC (Eint .u8) l122) 5 (Eint .u8).sz, .box g270 [.slice A272 z266.length c273, .int .i64 z267] 119, .own A272 c273 (rowC (Eint .u8) z266) 5 (Eint .u8).sz, .box g302 (([.slice A304 z295.length c305, .slice A307 z296.length c308] : List Value) ++ rowC (Eint .i64) z297 ++ rowC (Eint .i64) z298 ++ ([.slice A310 z299.length c311] : List Value)) 121, .own A304 c305 (rowC (Eint .i64) z295) 3 (Eint .i64).sz, .own A307 c308 (rowC (Eint .i64) z296) 3 (Eint .i64).sz, .own A310 c311 (rowC (Eint .i64) z299) 3 (Eint .i64).sz] := HS301.sel [0, 1, 2, 3, 5, 6, 8, 9, 10, 11] rfl
              refine L_region ?_
              refine F_val rfl rfl rfl (O_move rfl rfl) ?_
              refine F_val rfl rfl rfl (O_peq rfl rfl rfl Try.underlying84) ?_
              refine F_val rfl rfl rfl (O_move rfl rfl) ?_
              refine F_gval rfl rfl rfl rfl rfl rfl (O_move rfl rfl) ?_
              refine F_gval rfl rfl rfl rfl rfl rfl (O_peq rfl rfl rfl Try.underlying87) ?_
              refine F_val rfl rfl rfl (O_pickF rfl rfl rfl) ?_
              refine F_val rfl rfl rfl (O_move rfl rfl) ?_
              refine F_gval rfl rfl rfl rfl rfl rfl (O_move rfl rfl) ?_
              refine F_gval rfl rfl rfl rfl rfl rfl (O_ne rfl rfl rfl) ?_
              refine F_val rfl rfl rfl (O_pickF rfl rfl rfl) ?_
              refine F_nil ?_
              refine L_condP rfl (fun c314 => ?_) (fun c314 => ?_)
              · have H := of_pos H c314
                refine L_seq ?_
                have HS315 : Hp S0 w0 w [.rd A_text_0 (rowC (Eint .u8) l_text_0), .rd A_lens_1 (rowC (Eint .i64) l_lens_1)] := HS313.sel [0, 1] rfl
                refine L_region ?_
                refine F_val rfl rfl rfl (O_assign rfl rfl) ?_
                refine F_val rfl rfl rfl (O_assign rfl rfl) ?_
                refine F_nil ?_
                refine L_ret (fun a ha => (post_ret2 ha rfl rfl rfl ?_))
                obtain rfl := Option.some.inj H
                exact ⟨rfl, HS315.sel [] rfl⟩
              · have H := of_neg H c314
                refine L_skip ?_
                refine L_seq ?_
                refine L_seq ?_
                refine L_region ?_
                refine F_val rfl rfl rfl (O_assign rfl rfl) ?_
                refine F_nil ?_
                obtain ⟨yj316, Hyj316, H⟩ := of_bind H
                refine L_join (fun a w => ∃ (l413 : List Int), ∃ (y414 : Int), ∃ (A411 : Option Addr), ∃ (c412 : Nat), yj316 = Sum.inr (l413, y414) ∧ Is Try.f34.ntmps a [(6, .pointer (some ⟨g9, 0, none⟩)), (10, .pointer (some ⟨g270, 0, none⟩))] ∧ Hp S0 w0 w [.rd A_text_0 (rowC (Eint .u8) l_text_0), .rd A_lens_1 (rowC (Eint .i64) l_lens_1), .box g9 [.slice A120 l122.length c121, .int .i64 y123] 101, .own A120 c121 (rowC (Eint .u8) l122) 5 (Eint .u8).sz, .box g270 [.slice A411 l413.length c412, .int .i64 y414] 119, .own A411 c412 (rowC (Eint .u8) l413) 5 (Eint .u8).sz]) (fun Qj316 hNj316 hOj316 => ?_) (fun a w hR => ?_)
                · have HOj316 := H
                  have H := Hyj316
                  refine L_blk (fun Qb415 hNb415 hXb415 hOb415 => ?_)
                  refine L_lp (fun k a w => ∃ (l478 : List Int), ∃ (y479 : Int), ∃ (i_480 : Int), ∃ (A476 : Option Addr), ∃ (c477 : Nat), Is Try.f34.ntmps a [(0, .slice A_text_0 l_text_0.length c_text_0), (6, .pointer (some ⟨g9, 0, none⟩)), (10, .pointer (some ⟨g270, 0, none⟩)), (11, .pointer (some ⟨g302, 0, none⟩)), (13, .int .i64 i_480)] ∧ Hp S0 w0 w [.rd A_text_0 (rowC (Eint .u8) l_text_0), .rd A_lens_1 (rowC (Eint .i64) l_lens_1), .box g9 [.slice A120 l122.length c121, .int .i64 y123] 101, .own A120 c121 (rowC (Eint .u8) l122) 5 (Eint .u8).sz, .box g270 [.slice A476 l478.length c477, .int .i64 y479] 119, .own A476 c477 (rowC (Eint .u8) l478) 5 (Eint .u8).sz, .box g302 (([.slice A304 z295.length c305, .slice A307 z296.length c308] : List Value) ++ rowC (Eint .i64) z297 ++ rowC (Eint .i64) z298 ++ ([.slice A310 z299.length c311] : List Value)) 121, .own A304 c305 (rowC (Eint .i64) z295) 3 (Eint .i64).sz, .own A307 c308 (rowC (Eint .i64) z296) 3 (Eint .i64).sz, .own A310 c311 (rowC (Eint .i64) z299) 3 (Eint .i64).sz] ∧ valiselaw6_coded.l3 k l478 y479 i_480 l_text_0 z295 z296 z297 z298 z299 = some yj316) FU (fun a ha => ⟨_, _, _, _, _, Is.cons ha (Is.cons ha (Is.cons ha (Is.cons ha (Is.cons ha (Is.nil ha) rfl) rfl) rfl) rfl) rfl, HS313.sel [0, 1, 2, 3, 4, 5, 6, 7, 8, 9] rfl, H⟩) (fun kp475 a w481 hI Qp475 hNp475 hOp475 => ?_)
                  obtain ⟨l478, y479, i_480, A476, c477, ha, HS482, HAp475⟩ := hI
                  cases kp475 with
                  | zero => cases (show (none : Option _) = some _ from HAp475)
                  | succ kp475 =>
                    have H := (valiselaw6_coded.l3.eq_2 ..).symm.trans HAp475
                    refine wpLF_app ?_ ha
                    refine L_seq ?_
                    refine L_seq ?_
                    refine L_region ?_
                    refine F_val rfl rfl rfl (O_move rfl rfl) ?_
                    refine F_val rfl rfl rfl (O_move rfl rfl) ?_
                    refine F_val rfl rfl rfl (O_len rfl rfl Try.underlying46) ?_
                    refine F_val rfl rfl rfl (O_lt rfl rfl rfl) ?_
                    refine F_nil ?_
                    refine L_condP rfl (fun c483 => ?_) (fun c483 => ?_)
                    · have H := of_pos H c483
                      refine L_skip ?_
                      refine L_seq ?_
                      refine L_blk (fun Q484 hN484 hX484 hO484 => ?_)
                      refine L_seq ?_
                      refine L_region ?_
                      refine F_val rfl rfl rfl (O_move rfl rfl) ?_
                      refine F_val rfl rfl rfl (O_move rfl rfl) ?_
                      obtain ⟨⟨z489, z490, z491, z492⟩, h488, H⟩ := of_bind H
                      refine F_call (xs := [.tmp 82, .tmp 83]) rfl rfl rfl rfl Try.func64 nm64 rfl rfl ((code_Decoder_Next.calls (HS482.give [4, 5] rfl (Lent.box HS482 (Lent.own HS482 (Lent.own HS482 (Lent.own HS482 (Lent.nil) (i := 9) rfl rfl ((HS482.cells_own (i := 9) rfl).self)) (i := 8) rfl rfl ((HS482.cells_own (i := 8) rfl).self)) (i := 7) rfl rfl ((HS482.cells_own (i := 7) rfl).self)) (i := 6) rfl rfl (HS482.cells_box (i := 6) rfl).self)) h488).mono (fun e w hc => ?_))
                      obtain ⟨A495, c496, rfl, HSo⟩ := hc
                      refine ⟨.tuple #[.int .i64 z489, .int .i64 z490], rfl, ?_⟩
                      have HS494 : Hp S0 w0 w [.rd A_text_0 (rowC (Eint .u8) l_text_0), .rd A_lens_1 (rowC (Eint .i64) l_lens_1), .box g9 [.slice A120 l122.length c121, .int .i64 y123] 101, .own A120 c121 (rowC (Eint .u8) l122) 5 (Eint .u8).sz, .box g270 [.slice A495 z491.length c496, .int .i64 z492] 119, .own A495 c496 (rowC (Eint .u8) z491) 5 (Eint .u8).sz, .box g302 (([.slice A304 z295.length c305, .slice A307 z296.length c308] : List Value) ++ rowC (Eint .i64) z297 ++ rowC (Eint .i64) z298 ++ ([.slice A310 z299.length c311] : List Value)) 121, .own A304 c305 (rowC (Eint .i64) z295) 3 (Eint .i64).sz, .own A307 c308 (rowC (Eint .i64) z296) 3 (Eint .i64).sz, .own A310 c311 (rowC (Eint .i64) z299) 3 (Eint .i64).sz] := (HS482.back [4, 5] HSo rfl).sel [0, 1, 2, 3, 10, 11, 6, 7, 8, 9] rfl
                      refine F_val rfl rfl rfl (O_move rfl rfl) ?_
                      refine F_val rfl rfl rfl (O_extract (v := .int .i64 z489) rfl rfl rfl) ?_
                      refine F_val rfl rfl rfl (O_extract (v := .int .i64 z490) rfl rfl rfl) ?_
                      refine F_val rfl rfl rfl (O_assign rfl rfl) ?_
                      refine F_val rfl rfl rfl (O_assign rfl rfl) ?_
                      refine F_nil ?_
                      refine L_seq ?_
                      refine L_region ?_
                      refine F_val rfl rfl rfl (O_move rfl rfl) ?_
                      refine F_val rfl rfl rfl (O_ne rfl rfl rfl) ?_
                      refine F_val rfl rfl rfl (O_move rfl rfl) ?_
                      obtain ⟨b499, Hb499, H⟩ := of_bind H
                      refine F_grp 8 [(97, .bool b499), (0, .slice A_text_0 l_text_0.length c_text_0), (6, .pointer (some ⟨g9, 0, none⟩)), (10, .pointer (some ⟨g270, 0, none⟩)), (11, .pointer (some ⟨g302, 0, none⟩)), (13, .int .i64 i_480)] ?_ ?_
                      · rcases Decidable.em (z490 ≠ 0) with c503 | c503
                        · refine F_know (i := 89) rfl (dec_t c503) ?_
                          have H := of_pos Hb499 c503
                          refine F_gskip rfl rfl rfl rfl rfl rfl rfl ?_
                          refine F_gskip rfl rfl rfl rfl rfl rfl rfl ?_
                          refine F_gskip rfl rfl rfl rfl rfl rfl rfl ?_
                          refine F_gskip rfl rfl rfl rfl rfl rfl rfl ?_
                          refine F_gskip rfl rfl rfl rfl rfl rfl rfl ?_
                          refine F_gskip rfl rfl rfl rfl rfl rfl rfl ?_
                          refine F_gskip rfl rfl rfl rfl rfl rfl rfl ?_
                          refine F_val rfl rfl rfl (O_pickT rfl rfl rfl) ?_
                          refine F_know (i := 97) rfl (congrArg Value.bool (Option.some.inj H)) ?_
                          exact F_grpE (fun a ha => Is.cons ha (Is.cons ha (Is.cons ha (Is.cons ha (Is.cons ha (Is.cons ha (Is.nil ha) rfl) rfl) rfl) rfl) rfl) rfl)
                        · refine F_know (i := 89) rfl (dec_f c503) ?_
                          have H := of_neg Hb499 c503
                          refine F_gval rfl rfl rfl rfl rfl rfl (O_move rfl rfl) ?_
                          refine F_gval rfl rfl rfl rfl rfl rfl (O_move rfl rfl) ?_
                          refine F_gval rfl rfl rfl rfl rfl rfl (O_move rfl rfl) ?_
                          obtain ⟨⟨g504, g505⟩, H⟩ := of_gd H
                          refine F_gval rfl rfl rfl rfl rfl rfl (O_idx rfl rfl rfl Try.underlying46 size5 g504 g505 (Cells.isA (HS494.cells_rd (i := 0) rfl) (rowC_ne (E := (Eint .u8)) g504 g505 (by decide)))) ?_
                          refine F_gval rfl rfl rfl rfl rfl rfl (O_loadC rfl rfl flat5 (HS494.cells_rd (i := 0) rfl) (int_cell g504 g505)) ?_
                          refine F_gval rfl rfl rfl rfl rfl rfl (O_conv rfl rfl ⟨_, Try.underlying5⟩ Try.underlying3) ?_
                          refine F_gval rfl rfl rfl rfl rfl rfl (O_ne rfl rfl rfl) ?_
                          refine F_val rfl rfl rfl (O_pickF rfl rfl rfl) ?_
                          refine F_know (i := 97) rfl (congrArg Value.bool (Option.some.inj H)) ?_
                          exact F_grpE (fun a ha => Is.cons ha (Is.cons ha (Is.cons ha (Is.cons ha (Is.cons ha (Is.cons ha (Is.nil ha) rfl) rfl) rfl) rfl) rfl) rfl)
                      · skip
                        refine F_nil ?_
                        refine L_cond rfl (fun c506 => ?_) (fun c506 => ?_)
                        · have H := of_pos H c506
                          refine L_seq ?_
                          refine L_region ?_
                          refine F_val rfl rfl rfl (O_assign rfl rfl) ?_
                          refine F_val rfl rfl rfl (O_assign rfl rfl) ?_
                          refine F_nil ?_
                          refine L_ret (fun a ha => (hO484 .ret a _ rfl (hOp475 .ret a _ rfl (hOb415 .ret a _ rfl (hOj316 .ret a _ rfl (post_ret2 ha rfl rfl rfl ?_))))))
                          obtain rfl := Option.some.inj H
                          obtain rfl := Option.some.inj (show (some (0, false) : Option (Int × Bool)) = some _ from HOj316)
                          exact ⟨rfl, HS494.sel [] rfl⟩
                        · have H := of_neg H (by rw [c506]; exact Bool.false_ne_true)
                          refine L_skip ?_
                          refine L_endB hN484 ?_
                          refine L_region ?_
                          refine F_val rfl rfl rfl (O_move rfl rfl) ?_
                          refine F_val rfl rfl rfl (O_add rfl rfl rfl) ?_
                          obtain ⟨x507, h508, H⟩ := of_bnd H
                          refine F_val rfl rfl rfl (O_assign' rfl rfl (congrArg (Value.int .i64) h508)) ?_
                          refine F_nil ?_
                          refine L_nil (fun a ha => hNp475 _ a _ (Nat.lt_succ_self _) ⟨_, _, _, _, _, Is.cons ha (Is.cons ha (Is.cons ha (Is.cons ha (Is.cons ha (Is.nil ha) rfl) rfl) rfl) rfl) rfl, HS494.sel [0, 1, 2, 3, 4, 5, 6, 7, 8, 9] rfl, H⟩)
                    · have H := of_neg H c483
                      refine L_exitB (fun a w h => hOp475 (.exit 2) a w rfl (hXb415 a w h)) ?_
                      refine L_nil (fun a ha => hNj316 a _ ⟨_, _, _, _, (Option.some.inj H).symm, Is.cons ha (Is.cons ha (Is.nil ha) rfl) rfl, HS482.sel [0, 1, 2, 3, 4, 5] rfl⟩)
                · obtain ⟨l413, y414, A411, c412, rfl, ha, HS510⟩ := hR
                  refine wpLF_app ?_ ha
                  have H := (onR_inr _ _ _).symm.trans H
                  refine L_seq ?_
                  refine L_region ?_
                  refine F_val rfl rfl rfl (O_move rfl rfl) ?_
                  obtain ⟨z513, h512, H⟩ := of_bind H
                  refine F_qcall (v := .int .i64 z513) (xs := [.tmp 98]) rfl rfl rfl rfl Try.func60 nm60 rfl rfl ((bits_Writer_Len.calls (HS510.give [] rfl (Lent.box HS510 (Lent.own HS510 (Lent.nil) (i := 3) rfl rfl ((HS510.cells_own (i := 3) rfl).self)) (i := 2) rfl rfl (HS510.cells_box (i := 2) rfl).self)) h512).mono (fun e w hc => ?_)) (fun w514 hw515 => ?_)
                  · obtain ⟨rfl, h⟩ := hc
                    exact ⟨rfl, h.chg0⟩
                  have HS516 := HS510.keep hw515
                  refine F_val rfl rfl rfl (O_move rfl rfl) ?_
                  obtain ⟨z519, h518, H⟩ := of_bind H
                  refine F_qcall (v := .int .i64 z519) (xs := [.tmp 100]) rfl rfl rfl rfl Try.func65 nm65 rfl rfl ((bits_Reader_At.calls (HS516.give [] rfl (Lent.box HS516 (Lent.own HS516 (Lent.nil) (i := 5) rfl rfl ((HS516.cells_own (i := 5) rfl).self)) (i := 4) rfl rfl (HS516.cells_box (i := 4) rfl).self)) h518).mono (fun e w hc => ?_)) (fun w520 hw521 => ?_)
                  · obtain ⟨rfl, h⟩ := hc
                    exact ⟨rfl, h.chg0⟩
                  have HS522 := HS516.keep hw521
                  refine F_val rfl rfl rfl (O_move rfl rfl) ?_
                  obtain ⟨z525, h524, H⟩ := of_bind H
                  refine F_qcall (v := .int .i64 z525) (xs := [.tmp 102]) rfl rfl rfl rfl Try.func60 nm60 rfl rfl ((bits_Writer_Len.calls (HS522.give [] rfl (Lent.box HS522 (Lent.own HS522 (Lent.nil) (i := 3) rfl rfl ((HS522.cells_own (i := 3) rfl).self)) (i := 2) rfl rfl (HS522.cells_box (i := 2) rfl).self)) h524).mono (fun e w hc => ?_)) (fun w526 hw527 => ?_)
                  · obtain ⟨rfl, h⟩ := hc
                    exact ⟨rfl, h.chg0⟩
                  have HS528 := HS522.keep hw527
                  refine F_val rfl rfl rfl (O_eq rfl rfl rfl) ?_
                  refine F_val rfl rfl rfl (O_assign rfl rfl) ?_
                  refine F_val rfl rfl rfl (O_assign rfl rfl) ?_
                  refine F_nil ?_
                  refine L_ret (fun a ha => (post_ret2 ha rfl rfl rfl ?_))
                  obtain rfl := Option.some.inj H
                  exact ⟨rfl, HS528.sel [] rfl⟩

/-! function 14: valise/valiselaw6.BuildCoded -/
theorem valiselaw6_BuildCoded.calls {S0 : Nat → Prop} {w0 : World} {A_text_0 : Option Addr} {c_text_0 : Nat} {A_other_2 : Option Addr} {c_other_2 : Nat} {l_text_0 : List Int} {limit_1 : Int} {l_other_2 : List Int} {r : Bool} (HS0 : Hp S0 w0 w0 [.rd A_text_0 (rowC (Eint .u8) l_text_0), .rd A_other_2 (rowC (Eint .i64) l_other_2)]) (hc_text_0 : l_text_0.length ≤ c_text_0) (hc_other_2 : l_other_2.length ≤ c_other_2) (h : valiselaw6_BuildCoded.f l_text_0 limit_1 l_other_2 = some r) :
    Calls Try.prog 14 ([.slice A_text_0 l_text_0.length c_text_0, .int .i64 limit_1, .slice A_other_2 l_other_2.length c_other_2] : List Value).toArray w0 (fun e w => e = .returned (.bool r) ∧ Hp S0 w0 w []) := by
  have H : ((if ((16777216 < (l_text_0.length : Int)) ∨ (limit_1 < 1)) ∨ (15 < limit_1) then (some true) else ((valiselaw6_counts.f l_text_0).bind fun z14 => (valiselaw6_uses.f z14).bind fun z22 => gd (¬ (IntKind.u64.wrap limit_1) < 0) (if shl .i64 1 (IntKind.u64.wrap limit_1) < z22 then (some true) else ((valiselaw6_copied.f z14).bind fun z32 => (build_Limited.f z32 limit_1).bind fun (z42, z43) => (if z43 ≠ 0 then (some true) else ((valiselaw6_good.f z14 z42 limit_1).bind fun z62 => some (!z62))).bind fun b55 => if b55 = true then (some false) else ((valiselaw6_copied.f z14).bind fun z72 => (build_Cost.f z72 z42).bind fun (z80, z81) => (valiselaw6_coded.f l_text_0 z42).bind fun (z88, z89) => (if (z81 ≠ 0) ∨ (z88 ≠ z80) then (some true) else (some (!z89))).bind fun b97 => if b97 = true then (some false) else ((if (l_other_2.length : Int) ≠ 256 then (some true) else ((valiselaw6_kraft.f z14 l_other_2 limit_1).bind fun z117 => some (decide (z117 ≠ 1152921504606846976)))).bind fun b110 => (if b110 = true then (some true) else ((valiselaw6_uses.f z14).bind fun z134 => some (decide (z134 < 2)))).bind fun b127 => if b127 = true then (some true) else ((valiselaw6_BuildCoded.l1 FU ([] : List Int) 0 l_other_2 z14).bind fun l282 => (valiselaw6_coded.f l_text_0 l282).bind fun (z424, z425) => some (decide ((z425 = true) ∧ (z88 ≤ z424)))))))))) : Option (Bool)) = some r := h
  refine calls_start Try.func14 rfl rfl ?_
  refine L_seq ?_
  refine L_region ?_
  refine F_val rfl rfl rfl (O_assign rfl rfl) ?_
  refine F_nil ?_
  refine L_seq ?_
  refine L_seq ?_
  refine L_region ?_
  refine F_val rfl rfl rfl (O_move rfl rfl) ?_
  refine F_val rfl rfl rfl (O_len rfl rfl Try.underlying46) ?_
  refine F_val rfl rfl rfl (O_gt rfl rfl rfl) ?_
  refine F_val rfl rfl rfl (O_move rfl rfl) ?_
  refine F_grp 3 [(24, .bool (decide ((16777216 < (l_text_0.length : Int)) ∨ (limit_1 < 1)))), (0, .slice A_text_0 l_text_0.length c_text_0), (1, .int .i64 limit_1), (2, .slice A_other_2 l_other_2.length c_other_2)] ?_ ?_
  · rcases Decidable.em (16777216 < (l_text_0.length : Int)) with c4 | c4
    · refine F_know (i := 21) rfl (dec_t c4) ?_
      refine F_gskip rfl rfl rfl rfl rfl rfl rfl ?_
      refine F_gskip rfl rfl rfl rfl rfl rfl rfl ?_
      refine F_val rfl rfl rfl (O_pickT rfl rfl rfl) ?_
      refine F_know (i := 24) rfl (dec_or_t (q := limit_1 < 1) c4) ?_
      exact F_grpE (fun a ha => Is.cons ha (Is.cons ha (Is.cons ha (Is.cons ha (Is.nil ha) rfl) rfl) rfl) rfl)
    · refine F_know (i := 21) rfl (dec_f c4) ?_
      refine F_gval rfl rfl rfl rfl rfl rfl (O_move rfl rfl) ?_
      refine F_gval rfl rfl rfl rfl rfl rfl (O_lt rfl rfl rfl) ?_
      refine F_val rfl rfl rfl (O_pickF rfl rfl rfl) ?_
      refine F_know (i := 24) rfl (dec_or_f (q := limit_1 < 1) c4) ?_
      exact F_grpE (fun a ha => Is.cons ha (Is.cons ha (Is.cons ha (Is.cons ha (Is.nil ha) rfl) rfl) rfl) rfl)
  · skip
    refine F_val rfl rfl rfl (O_move rfl rfl) ?_
    refine F_grp 3 [(28, .bool (decide (((16777216 < (l_text_0.length : Int)) ∨ (limit_1 < 1)) ∨ (15 < limit_1)))), (0, .slice A_text_0 l_text_0.length c_text_0), (1, .int .i64 limit_1), (2, .slice A_other_2 l_other_2.length c_other_2)] ?_ ?_
    · rcases Decidable.em ((16777216 < (l_text_0.length : Int)) ∨ (limit_1 < 1)) with c8 | c8
      · refine F_know (i := 25) rfl (dec_t c8) ?_
        refine F_gskip rfl rfl rfl rfl rfl rfl rfl ?_
        refine F_gskip rfl rfl rfl rfl rfl rfl rfl ?_
        refine F_val rfl rfl rfl (O_pickT rfl rfl rfl) ?_
        refine F_know (i := 28) rfl (dec_or_t (q := 15 < limit_1) c8) ?_
        exact F_grpE (fun a ha => Is.cons ha (Is.cons ha (Is.cons ha (Is.cons ha (Is.nil ha) rfl) rfl) rfl) rfl)
      · refine F_know (i := 25) rfl (dec_f c8) ?_
        refine F_gval rfl rfl rfl rfl rfl rfl (O_move rfl rfl) ?_
        refine F_gval rfl rfl rfl rfl rfl rfl (O_gt rfl rfl rfl) ?_
        refine F_val rfl rfl rfl (O_pickF rfl rfl rfl) ?_
        refine F_know (i := 28) rfl (dec_or_f (q := 15 < limit_1) c8) ?_
        exact F_grpE (fun a ha => Is.cons ha (Is.cons ha (Is.cons ha (Is.cons ha (Is.nil ha) rfl) rfl) rfl) rfl)
    · skip
      refine F_nil ?_
      refine L_condP rfl (fun c9 => ?_) (fun c9 => ?_)
      · have H := of_pos H c9
        refine L_seq ?_
        refine L_region ?_
        refine F_val rfl rfl rfl (O_assign rfl rfl) ?_
        refine F_nil ?_
        refine L_ret (fun a ha => (post_ret1 ha rfl rfl ?_))
        obtain rfl := Option.some.inj H
        exact ⟨rfl, HS0.sel [] rfl⟩
      · have H := of_neg H c9
        refine L_skip ?_
        refine L_seq ?_
        refine L_region ?_
        refine F_val rfl rfl rfl (O_move rfl rfl) ?_
        obtain ⟨z14, h13, H⟩ := of_bind H
        refine F_call (xs := [.tmp 29]) rfl rfl rfl rfl Try.func33 nm33 rfl rfl ((valiselaw6_counts.calls (HS0.give [] rfl (Lent.rd HS0 (Lent.nil) (i := 0) rfl ((HS0.cells_rd (i := 0) rfl).self))) hc_text_0 h13).mono (fun e w hc => ?_))
        obtain ⟨A17, c18, rfl, HSo⟩ := hc
        refine ⟨.slice A17 z14.length c18, rfl, ?_⟩
        have HS16 : Hp S0 w0 w [.rd A_text_0 (rowC (Eint .u8) l_text_0), .rd A_other_2 (rowC (Eint .i64) l_other_2), .own A17 c18 (rowC (Eint .i64) z14) 3 (Eint .i64).sz] := (HS0.back [] HSo rfl).sel [0, 1, 2] rfl
        refine F_val rfl rfl rfl (O_assign rfl rfl) ?_
        refine F_nil ?_
        refine L_seq ?_
        refine L_seq ?_
        refine L_region ?_
        refine F_val rfl rfl rfl (O_move rfl rfl) ?_
        obtain ⟨z22, h21, H⟩ := of_bind H
        refine F_qcall (v := .int .i64 z22) (xs := [.tmp 31]) rfl rfl rfl rfl Try.func30 nm30 rfl rfl ((valiselaw6_uses.calls (HS16.give [] rfl (Lent.own HS16 (Lent.nil) (i := 2) rfl rfl ((HS16.cells_own (i := 2) rfl).self))) (HS16.own_capE (i := 2) rfl (by decide)) h21).mono (fun e w hc => ?_)) (fun w23 hw24 => ?_)
        · obtain ⟨rfl, h⟩ := hc
          exact ⟨rfl, h.chg0⟩
        have HS25 := HS16.keep hw24
        refine F_val rfl rfl rfl (O_move rfl rfl) ?_
        refine F_val rfl rfl rfl (O_conv rfl rfl ⟨_, Try.underlying3⟩ Try.underlying43) ?_
        obtain ⟨g26, H⟩ := of_gd H
        refine F_val rfl rfl rfl (O_shl rfl rfl rfl g26) ?_
        refine F_val rfl rfl rfl (O_gt rfl rfl rfl) ?_
        refine F_nil ?_
        refine L_condP rfl (fun c27 => ?_) (fun c27 => ?_)
        · have H := of_pos H c27
          refine L_seq ?_
          refine L_region ?_
          refine F_val rfl rfl rfl (O_assign rfl rfl) ?_
          refine F_nil ?_
          refine L_ret (fun a ha => (post_ret1 ha rfl rfl ?_))
          obtain rfl := Option.some.inj H
          exact ⟨rfl, HS25.sel [] rfl⟩
        · have H := of_neg H c27
          refine L_skip ?_
          refine L_seq ?_
          refine L_region ?_
          refine F_val rfl rfl rfl (O_move rfl rfl) ?_
          obtain ⟨z32, h31, H⟩ := of_bind H
          refine F_call (xs := [.tmp 38]) rfl rfl rfl rfl Try.func24 nm24 rfl rfl ((valiselaw6_copied.calls (HS25.give [] rfl (Lent.own HS25 (Lent.nil) (i := 2) rfl rfl ((HS25.cells_own (i := 2) rfl).self))) (HS25.own_capE (i := 2) rfl (by decide)) h31).mono (fun e w hc => ?_))
          obtain ⟨A35, c36, rfl, HSo⟩ := hc
          refine ⟨.slice A35 z32.length c36, rfl, ?_⟩
          have HS34 : Hp S0 w0 w [.rd A_text_0 (rowC (Eint .u8) l_text_0), .rd A_other_2 (rowC (Eint .i64) l_other_2), .own A17 c18 (rowC (Eint .i64) z14) 3 (Eint .i64).sz, .own A35 c36 (rowC (Eint .i64) z32) 3 (Eint .i64).sz] := (HS25.back [] HSo rfl).sel [0, 1, 2, 3] rfl
          refine F_val rfl rfl rfl (O_move rfl rfl) ?_
          obtain ⟨⟨z42, z43⟩, h41, H⟩ := of_bind H
          refine F_call (xs := [.tmp 39, .tmp 40]) rfl rfl rfl rfl Try.func28 nm28 rfl rfl ((build_Limited.calls (HS34.give [] rfl (Lent.own HS34 (Lent.nil) (i := 3) rfl rfl ((HS34.cells_own (i := 3) rfl).self))) (HS34.own_capE (i := 3) rfl (by decide)) h41).mono (fun e w hc => ?_))
          obtain ⟨A46, c47, rfl, HSo⟩ := hc
          refine ⟨.tuple #[.slice A46 z42.length c47, .int .i64 z43], rfl, ?_⟩
          have HS45 : Hp S0 w0 w [.rd A_text_0 (rowC (Eint .u8) l_text_0), .rd A_other_2 (rowC (Eint .i64) l_other_2), .own A17 c18 (rowC (Eint .i64) z14) 3 (Eint .i64).sz, .own A35 c36 (rowC (Eint .i64) z32) 3 (Eint .i64).sz, .own A46 c47 (rowC (Eint .i64) z42) 3 (Eint .i64).sz] := (HS34.back [] HSo rfl).sel [0, 1, 2, 3, 4] rfl
          refine F_val rfl rfl rfl (O_move rfl rfl) ?_
          refine F_val rfl rfl rfl (O_extract (v := .slice A46 z42.length c47) rfl rfl rfl) ?_
          refine F_val rfl rfl rfl (O_extract (v := .int .i64 z43) rfl rfl rfl) ?_
          refine F_val rfl rfl rfl (O_assign rfl rfl) ?_
          refine F_val rfl rfl rfl (O_assign rfl rfl) ?_
          refine F_nil ?_
          refine L_seq ?_
          refine L_seq ?_
          refine L_region ?_
          refine F_val rfl rfl rfl (O_move rfl rfl) ?_
          refine F_val rfl rfl rfl (O_ne rfl rfl rfl) ?_
          refine F_val rfl rfl rfl (O_move rfl rfl) ?_
          obtain ⟨b55, Hb55, H⟩ := of_bind H
          refine F_grpQ 6 [(52, .bool b55), (0, .slice A_text_0 l_text_0.length c_text_0), (1, .int .i64 limit_1), (2, .slice A_other_2 l_other_2.length c_other_2), (7, .slice A17 z14.length c18), (8, .slice A46 z42.length c47)] ?_ (fun w56 hw57 => ?_)
          · rcases Decidable.em (z43 ≠ 0) with c59 | c59
            · refine F_know (i := 46) rfl (dec_t c59) ?_
              have H := of_pos Hb55 c59
              refine F_gskip rfl rfl rfl rfl rfl rfl rfl ?_
              refine F_gskip rfl rfl rfl rfl rfl rfl rfl ?_
              refine F_gskip rfl rfl rfl rfl rfl rfl rfl ?_
              refine F_gskip rfl rfl rfl rfl rfl rfl rfl ?_
              refine F_gskip rfl rfl rfl rfl rfl rfl rfl ?_
              refine F_val rfl rfl rfl (O_pickT rfl rfl rfl) ?_
              refine F_know (i := 52) rfl (congrArg Value.bool (Option.some.inj H)) ?_
              exact F_grpQE (Chg.refl NoB _) (fun a ha => Is.cons ha (Is.cons ha (Is.cons ha (Is.cons ha (Is.cons ha (Is.cons ha (Is.nil ha) rfl) rfl) rfl) rfl) rfl) rfl)
            · refine F_know (i := 46) rfl (dec_f c59) ?_
              have H := of_neg Hb55 c59
              refine F_gval rfl rfl rfl rfl rfl rfl (O_move rfl rfl) ?_
              refine F_gval rfl rfl rfl rfl rfl rfl (O_move rfl rfl) ?_
              refine F_gval rfl rfl rfl rfl rfl rfl (O_move rfl rfl) ?_
              obtain ⟨z62, h61, H⟩ := of_bind H
              refine F_gqcall (v := .bool z62) (xs := [.tmp 47, .tmp 48, .tmp 49]) rfl rfl rfl rfl rfl rfl rfl Try.func25 nm25 rfl rfl ((valiselaw6_good.calls (HS45.give [] rfl (Lent.own HS45 (Lent.own HS45 (Lent.nil) (i := 4) rfl rfl ((HS45.cells_own (i := 4) rfl).self)) (i := 2) rfl rfl ((HS45.cells_own (i := 2) rfl).self))) (HS45.own_capE (i := 2) rfl (by decide)) (HS45.own_capE (i := 4) rfl (by decide)) h61).mono (fun e w hc => ?_)) (fun w63 hw64 => ?_)
              · obtain ⟨rfl, h⟩ := hc
                exact ⟨rfl, h.chg0⟩
              have HS65 := HS45.keep hw64
              refine F_gval rfl rfl rfl rfl rfl rfl (O_notb rfl rfl) ?_
              refine F_val rfl rfl rfl (O_pickF rfl rfl rfl) ?_
              refine F_know (i := 52) rfl (congrArg Value.bool (Option.some.inj H)) ?_
              exact F_grpQE ((Chg.refl NoB _).trans hw64) (fun a ha => Is.cons ha (Is.cons ha (Is.cons ha (Is.cons ha (Is.cons ha (Is.cons ha (Is.nil ha) rfl) rfl) rfl) rfl) rfl) rfl)
          · have HS58 := HS45.keep hw57
            refine F_nil ?_
            refine L_cond rfl (fun c66 => ?_) (fun c66 => ?_)
            · have H := of_pos H c66
              refine L_seq ?_
              have HS67 : Hp S0 w0 w56 [.rd A_text_0 (rowC (Eint .u8) l_text_0), .rd A_other_2 (rowC (Eint .i64) l_other_2)] := HS58.sel [0, 1] rfl
              refine L_region ?_
              refine F_val rfl rfl rfl (O_assign rfl rfl) ?_
              refine F_nil ?_
              refine L_ret (fun a ha => (post_ret1 ha rfl rfl ?_))
              obtain rfl := Option.some.inj H
              exact ⟨rfl, HS67.sel [] rfl⟩
            · have H := of_neg H (by rw [c66]; exact Bool.false_ne_true)
              refine L_skip ?_
              refine L_seq ?_
              refine L_region ?_
              refine F_val rfl rfl rfl (O_move rfl rfl) ?_
              obtain ⟨z72, h71, H⟩ := of_bind H
              refine F_call (xs := [.tmp 54]) rfl rfl rfl rfl Try.func24 nm24 rfl rfl ((valiselaw6_copied.calls (HS58.give [] rfl (Lent.own HS58 (Lent.nil) (i := 2) rfl rfl ((HS58.cells_own (i := 2) rfl).self))) (HS58.own_capE (i := 2) rfl (by decide)) h71).mono (fun e w hc => ?_))
              obtain ⟨A75, c76, rfl, HSo⟩ := hc
              refine ⟨.slice A75 z72.length c76, rfl, ?_⟩
              have HS74 : Hp S0 w0 w [.rd A_text_0 (rowC (Eint .u8) l_text_0), .rd A_other_2 (rowC (Eint .i64) l_other_2), .own A17 c18 (rowC (Eint .i64) z14) 3 (Eint .i64).sz, .own A35 c36 (rowC (Eint .i64) z32) 3 (Eint .i64).sz, .own A46 c47 (rowC (Eint .i64) z42) 3 (Eint .i64).sz, .own A75 c76 (rowC (Eint .i64) z72) 3 (Eint .i64).sz] := (HS58.back [] HSo rfl).sel [0, 1, 2, 3, 4, 5] rfl
              refine F_val rfl rfl rfl (O_move rfl rfl) ?_
              obtain ⟨⟨z80, z81⟩, h79, H⟩ := of_bind H
              refine F_qcall (v := .tuple #[.int .i64 z80, .int .i64 z81]) (xs := [.tmp 55, .tmp 56]) rfl rfl rfl rfl Try.func16 nm16 rfl rfl ((build_Cost.calls (HS74.give [] rfl (Lent.own HS74 (Lent.own HS74 (Lent.nil) (i := 4) rfl rfl ((HS74.cells_own (i := 4) rfl).self)) (i := 5) rfl rfl ((HS74.cells_own (i := 5) rfl).self))) (HS74.own_capE (i := 5) rfl (by decide)) (HS74.own_capE (i := 4) rfl (by decide)) h79).mono (fun e w hc => ?_)) (fun w82 hw83 => ?_)
              · obtain ⟨rfl, h⟩ := hc
                exact ⟨rfl, h.chg0⟩
              have HS84 := HS74.keep hw83
              refine F_val rfl rfl rfl (O_move rfl rfl) ?_
              refine F_val rfl rfl rfl (O_extract (v := .int .i64 z80) rfl rfl rfl) ?_
              refine F_val rfl rfl rfl (O_extract (v := .int .i64 z81) rfl rfl rfl) ?_
              refine F_val rfl rfl rfl (O_assign rfl rfl) ?_
              refine F_val rfl rfl rfl (O_assign rfl rfl) ?_
              refine F_nil ?_
              refine L_seq ?_
              have HS85 : Hp S0 w0 w82 [.rd A_text_0 (rowC (Eint .u8) l_text_0), .rd A_other_2 (rowC (Eint .i64) l_other_2), .own A17 c18 (rowC (Eint .i64) z14) 3 (Eint .i64).sz, .own A46 c47 (rowC (Eint .i64) z42) 3 (Eint .i64).sz] := HS84.sel [0, 1, 2, 4] rfl
              refine L_region ?_
              refine F_val rfl rfl rfl (O_move rfl rfl) ?_
              refine F_val rfl rfl rfl (O_move rfl rfl) ?_
              obtain ⟨⟨z88, z89⟩, h87, H⟩ := of_bind H
              refine F_qcall (v := .tuple #[.int .i64 z88, .bool z89]) (xs := [.tmp 61, .tmp 62]) rfl rfl rfl rfl Try.func34 nm34 rfl rfl ((valiselaw6_coded.calls (HS85.give [] rfl (Lent.rd HS85 (Lent.own HS85 (Lent.nil) (i := 3) rfl rfl ((HS85.cells_own (i := 3) rfl).self)) (i := 0) rfl ((HS85.cells_rd (i := 0) rfl).self))) hc_text_0 (HS85.own_capE (i := 3) rfl (by decide)) h87).mono (fun e w hc => ?_)) (fun w90 hw91 => ?_)
              · obtain ⟨rfl, h⟩ := hc
                exact ⟨rfl, h.chg0⟩
              have HS92 := HS85.keep hw91
              refine F_val rfl rfl rfl (O_move rfl rfl) ?_
              refine F_val rfl rfl rfl (O_extract (v := .int .i64 z88) rfl rfl rfl) ?_
              refine F_val rfl rfl rfl (O_extract (v := .bool z89) rfl rfl rfl) ?_
              refine F_val rfl rfl rfl (O_assign rfl rfl) ?_
              refine F_val rfl rfl rfl (O_assign rfl rfl) ?_
              refine F_nil ?_
              refine L_seq ?_
              refine L_seq ?_
              refine L_region ?_
              refine F_val rfl rfl rfl (O_move rfl rfl) ?_
              refine F_val rfl rfl rfl (O_ne rfl rfl rfl) ?_
              refine F_val rfl rfl rfl (O_move rfl rfl) ?_
              refine F_grp 4 [(72, .bool (decide ((z81 ≠ 0) ∨ (z88 ≠ z80)))), (0, .slice A_text_0 l_text_0.length c_text_0), (1, .int .i64 limit_1), (2, .slice A_other_2 l_other_2.length c_other_2), (7, .slice A17 z14.length c18), (12, .int .i64 z88), (13, .bool z89)] ?_ ?_
              · rcases Decidable.em (z81 ≠ 0) with c96 | c96
                · refine F_know (i := 68) rfl (dec_t c96) ?_
                  refine F_gskip rfl rfl rfl rfl rfl rfl rfl ?_
                  refine F_gskip rfl rfl rfl rfl rfl rfl rfl ?_
                  refine F_gskip rfl rfl rfl rfl rfl rfl rfl ?_
                  refine F_val rfl rfl rfl (O_pickT rfl rfl rfl) ?_
                  refine F_know (i := 72) rfl (dec_or_t (q := z88 ≠ z80) c96) ?_
                  exact F_grpE (fun a ha => Is.cons ha (Is.cons ha (Is.cons ha (Is.cons ha (Is.cons ha (Is.cons ha (Is.cons ha (Is.nil ha) rfl) rfl) rfl) rfl) rfl) rfl) rfl)
                · refine F_know (i := 68) rfl (dec_f c96) ?_
                  refine F_gval rfl rfl rfl rfl rfl rfl (O_move rfl rfl) ?_
                  refine F_gval rfl rfl rfl rfl rfl rfl (O_move rfl rfl) ?_
                  refine F_gval rfl rfl rfl rfl rfl rfl (O_ne rfl rfl rfl) ?_
                  refine F_val rfl rfl rfl (O_pickF rfl rfl rfl) ?_
                  refine F_know (i := 72) rfl (dec_or_f (q := z88 ≠ z80) c96) ?_
                  exact F_grpE (fun a ha => Is.cons ha (Is.cons ha (Is.cons ha (Is.cons ha (Is.cons ha (Is.cons ha (Is.cons ha (Is.nil ha) rfl) rfl) rfl) rfl) rfl) rfl) rfl)
              · skip
                refine F_val rfl rfl rfl (O_move rfl rfl) ?_
                obtain ⟨b97, Hb97, H⟩ := of_bind H
                refine F_grp 3 [(76, .bool b97), (0, .slice A_text_0 l_text_0.length c_text_0), (1, .int .i64 limit_1), (2, .slice A_other_2 l_other_2.length c_other_2), (7, .slice A17 z14.length c18), (12, .int .i64 z88)] ?_ ?_
                · rcases Decidable.em ((z81 ≠ 0) ∨ (z88 ≠ z80)) with c101 | c101
                  · refine F_know (i := 73) rfl (dec_t c101) ?_
                    have H := of_pos Hb97 c101
                    refine F_gskip rfl rfl rfl rfl rfl rfl rfl ?_
                    refine F_gskip rfl rfl rfl rfl rfl rfl rfl ?_
                    refine F_val rfl rfl rfl (O_pickT rfl rfl rfl) ?_
                    refine F_know (i := 76) rfl (congrArg Value.bool (Option.some.inj H)) ?_
                    exact F_grpE (fun a ha => Is.cons ha (Is.cons ha (Is.cons ha (Is.cons ha (Is.cons ha (Is.cons ha (Is.nil ha) rfl) rfl) rfl) rfl) rfl) rfl)
                  · refine F_know (i := 73) rfl (dec_f c101) ?_
                    have H := of_neg Hb97 c101
                    refine F_gval rfl rfl rfl rfl rfl rfl (O_move rfl rfl) ?_
                    refine F_gval rfl rfl rfl rfl rfl rfl (O_notb rfl rfl) ?_
                    refine F_val rfl rfl rfl (O_pickF rfl rfl rfl) ?_
                    refine F_know (i := 76) rfl (congrArg Value.bool (Option.some.inj H)) ?_
                    exact F_grpE (fun a ha => Is.cons ha (Is.cons ha (Is.cons ha (Is.cons ha (Is.cons ha (Is.cons ha (Is.nil ha) rfl) rfl) rfl) rfl) rfl) rfl)
                · skip
                  refine F_nil ?_
                  refine L_cond rfl (fun c102 => ?_) (fun c102 => ?_)
                  · have H := of_pos H c102
                    refine L_seq ?_
                    have HS103 : Hp S0 w0 w90 [.rd A_text_0 (rowC (Eint .u8) l_text_0), .rd A_other_2 (rowC (Eint .i64) l_other_2)] := HS92.sel [0, 1] rfl
                    refine L_region ?_
                    refine F_val rfl rfl rfl (O_assign rfl rfl) ?_
                    refine F_nil ?_
                    refine L_ret (fun a ha => (post_ret1 ha rfl rfl ?_))
                    obtain rfl := Option.some.inj H
                    exact ⟨rfl, HS103.sel [] rfl⟩
                  · have H := of_neg H (by rw [c102]; exact Bool.false_ne_true)
                    refine L_skip ?_
                    refine L_seq ?_
                    refine L_seq ?_
                    refine L_region ?_
                    refine F_val rfl rfl rfl (O_move rfl rfl) ?_
                    refine F_val rfl rfl rfl (O_len rfl rfl Try.underlying22) ?_
                    refine F_val rfl rfl rfl (O_ne rfl rfl rfl) ?_
                    refine F_val rfl rfl rfl (O_move rfl rfl) ?_
                    obtain ⟨b110, Hb110, H⟩ := of_bind H
                    refine F_grpQ 6 [(86, .bool b110), (0, .slice A_text_0 l_text_0.length c_text_0), (2, .slice A_other_2 l_other_2.length c_other_2), (7, .slice A17 z14.length c18), (12, .int .i64 z88)] ?_ (fun w111 hw112 => ?_)
                    · rcases Decidable.em ((l_other_2.length : Int) ≠ 256) with c114 | c114
                      · refine F_know (i := 80) rfl (dec_t c114) ?_
                        have H := of_pos Hb110 c114
                        refine F_gskip rfl rfl rfl rfl rfl rfl rfl ?_
                        refine F_gskip rfl rfl rfl rfl rfl rfl rfl ?_
                        refine F_gskip rfl rfl rfl rfl rfl rfl rfl ?_
                        refine F_gskip rfl rfl rfl rfl rfl rfl rfl ?_
                        refine F_gskip rfl rfl rfl rfl rfl rfl rfl ?_
                        refine F_val rfl rfl rfl (O_pickT rfl rfl rfl) ?_
                        refine F_know (i := 86) rfl (congrArg Value.bool (Option.some.inj H)) ?_
                        exact F_grpQE (Chg.refl NoB _) (fun a ha => Is.cons ha (Is.cons ha (Is.cons ha (Is.cons ha (Is.cons ha (Is.nil ha) rfl) rfl) rfl) rfl) rfl)
                      · refine F_know (i := 80) rfl (dec_f c114) ?_
                        have H := of_neg Hb110 c114
                        refine F_gval rfl rfl rfl rfl rfl rfl (O_move rfl rfl) ?_
                        refine F_gval rfl rfl rfl rfl rfl rfl (O_move rfl rfl) ?_
                        refine F_gval rfl rfl rfl rfl rfl rfl (O_move rfl rfl) ?_
                        obtain ⟨z117, h116, H⟩ := of_bind H
                        refine F_gqcall (v := .int .i64 z117) (xs := [.tmp 81, .tmp 82, .tmp 83]) rfl rfl rfl rfl rfl rfl rfl Try.func26 nm26 rfl rfl ((valiselaw6_kraft.calls (HS92.give [] rfl (Lent.own HS92 (Lent.rd HS92 (Lent.nil) (i := 1) rfl ((HS92.cells_rd (i := 1) rfl).self)) (i := 2) rfl rfl ((HS92.cells_own (i := 2) rfl).self))) (HS92.own_capE (i := 2) rfl (by decide)) hc_other_2 h116).mono (fun e w hc => ?_)) (fun w118 hw119 => ?_)
                        · obtain ⟨rfl, h⟩ := hc
                          exact ⟨rfl, h.chg0⟩
                        have HS120 := HS92.keep hw119
                        refine F_gval rfl rfl rfl rfl rfl rfl (O_ne rfl rfl rfl) ?_
                        refine F_val rfl rfl rfl (O_pickF rfl rfl rfl) ?_
                        refine F_know (i := 86) rfl (congrArg Value.bool (Option.some.inj H)) ?_
                        exact F_grpQE ((Chg.refl NoB _).trans hw119) (fun a ha => Is.cons ha (Is.cons ha (Is.cons ha (Is.cons ha (Is.cons ha (Is.nil ha) rfl) rfl) rfl) rfl) rfl)
                    · have HS113 := HS92.keep hw112
                      refine F_val rfl rfl rfl (O_move rfl rfl) ?_
                      obtain ⟨b127, Hb127, H⟩ := of_bind H
                      refine F_grpQ 4 [(91, .bool b127), (0, .slice A_text_0 l_text_0.length c_text_0), (2, .slice A_other_2 l_other_2.length c_other_2), (7, .slice A17 z14.length c18), (12, .int .i64 z88)] ?_ (fun w128 hw129 => ?_)
                      · rcases Decidable.em (b110 = true) with c131 | c131
                        · refine F_know (i := 87) rfl (congrArg Value.bool c131) ?_
                          have H := of_pos Hb127 c131
                          refine F_gskip rfl rfl rfl rfl rfl rfl rfl ?_
                          refine F_gskip rfl rfl rfl rfl rfl rfl rfl ?_
                          refine F_gskip rfl rfl rfl rfl rfl rfl rfl ?_
                          refine F_val rfl rfl rfl (O_pickT rfl rfl rfl) ?_
                          refine F_know (i := 91) rfl (congrArg Value.bool (Option.some.inj H)) ?_
                          exact F_grpQE (Chg.refl NoB _) (fun a ha => Is.cons ha (Is.cons ha (Is.cons ha (Is.cons ha (Is.cons ha (Is.nil ha) rfl) rfl) rfl) rfl) rfl)
                        · refine F_know (i := 87) rfl (congrArg Value.bool (Bool.eq_false_iff.mpr c131)) ?_
                          have H := of_neg Hb127 c131
                          refine F_gval rfl rfl rfl rfl rfl rfl (O_move rfl rfl) ?_
                          obtain ⟨z134, h133, H⟩ := of_bind H
                          refine F_gqcall (v := .int .i64 z134) (xs := [.tmp 88]) rfl rfl rfl rfl rfl rfl rfl Try.func30 nm30 rfl rfl ((valiselaw6_uses.calls (HS113.give [] rfl (Lent.own HS113 (Lent.nil) (i := 2) rfl rfl ((HS113.cells_own (i := 2) rfl).self))) (HS113.own_capE (i := 2) rfl (by decide)) h133).mono (fun e w hc => ?_)) (fun w135 hw136 => ?_)
                          · obtain ⟨rfl, h⟩ := hc
                            exact ⟨rfl, h.chg0⟩
                          have HS137 := HS113.keep hw136
                          refine F_gval rfl rfl rfl rfl rfl rfl (O_lt rfl rfl rfl) ?_
                          refine F_val rfl rfl rfl (O_pickF rfl rfl rfl) ?_
                          refine F_know (i := 91) rfl (congrArg Value.bool (Option.some.inj H)) ?_
                          exact F_grpQE ((Chg.refl NoB _).trans hw136) (fun a ha => Is.cons ha (Is.cons ha (Is.cons ha (Is.cons ha (Is.cons ha (Is.nil ha) rfl) rfl) rfl) rfl) rfl)
                      · have HS130 := HS113.keep hw129
                        refine F_nil ?_
                        refine L_cond rfl (fun c138 => ?_) (fun c138 => ?_)
                        · have H := of_pos H c138
                          refine L_seq ?_
                          have HS139 : Hp S0 w0 w128 [.rd A_text_0 (rowC (Eint .u8) l_text_0), .rd A_other_2 (rowC (Eint .i64) l_other_2)] := HS130.sel [0, 1] rfl
                          refine L_region ?_
                          refine F_val rfl rfl rfl (O_assign rfl rfl) ?_
                          refine F_nil ?_
                          refine L_ret (fun a ha => (post_ret1 ha rfl rfl ?_))
                          obtain rfl := Option.some.inj H
                          exact ⟨rfl, HS139.sel [] rfl⟩
                        · have H := of_neg H (by rw [c138]; exact Bool.false_ne_true)
                          refine L_skip ?_
                          refine L_seq ?_
                          refine L_region ?_
                          refine F_val rfl rfl rfl (O_assign rfl rfl) ?_
                          have HS140 := HS130.addNil 3 (Eint .i64).sz
                          have HS140 : Hp S0 w0 w128 [.rd A_text_0 (rowC (Eint .u8) l_text_0), .rd A_other_2 (rowC (Eint .i64) l_other_2), .own A17 c18 (rowC (Eint .i64) z14) 3 (Eint .i64).sz, .own A46 c47 (rowC (Eint .i64) z42) 3 (Eint .i64).sz, .own none 0 (rowC (Eint .i64) ([] : List Int)) 3 (Eint .i64).sz] := HS140
                          refine F_nil ?_
                          refine L_seq ?_
                          refine L_seq ?_
                          refine L_region ?_
                          refine F_val rfl rfl rfl (O_assign rfl rfl) ?_
                          refine F_nil ?_
                          obtain ⟨yj142, Hyj142, H⟩ := of_bind H
                          refine L_join (fun a w => ∃ (l282 : List Int), ∃ (A280 : Option Addr), ∃ (c281 : Nat), yj142 = l282 ∧ Is Try.f14.ntmps a [(0, .slice A_text_0 l_text_0.length c_text_0), (12, .int .i64 z88), (14, .slice A280 l282.length c281)] ∧ Hp S0 w0 w [.rd A_text_0 (rowC (Eint .u8) l_text_0), .rd A_other_2 (rowC (Eint .i64) l_other_2), .own A280 c281 (rowC (Eint .i64) l282) 3 (Eint .i64).sz]) (fun Qj142 hNj142 hOj142 => ?_) (fun a w hR => ?_)
                          · skip
                            have H := Hyj142
                            refine L_blk (fun Qb283 hNb283 hXb283 hOb283 => ?_)
                            refine L_lp (fun k a w => ∃ (l374 : List Int), ∃ (s_375 : Int), ∃ (A372 : Option Addr), ∃ (c373 : Nat), Is Try.f14.ntmps a [(0, .slice A_text_0 l_text_0.length c_text_0), (2, .slice A_other_2 l_other_2.length c_other_2), (7, .slice A17 z14.length c18), (12, .int .i64 z88), (14, .slice A372 l374.length c373), (15, .int .i64 s_375)] ∧ Hp S0 w0 w [.rd A_text_0 (rowC (Eint .u8) l_text_0), .rd A_other_2 (rowC (Eint .i64) l_other_2), .own A17 c18 (rowC (Eint .i64) z14) 3 (Eint .i64).sz, .own A372 c373 (rowC (Eint .i64) l374) 3 (Eint .i64).sz] ∧ valiselaw6_BuildCoded.l1 k l374 s_375 l_other_2 z14 = some yj142) FU (fun a ha => ⟨_, _, _, _, Is.cons ha (Is.cons ha (Is.cons ha (Is.cons ha (Is.cons ha (Is.cons ha (Is.nil ha) rfl) rfl) rfl) rfl) rfl) rfl, HS140.sel [0, 1, 2, 4] rfl, H⟩) (fun kp371 a w376 hI Qp371 hNp371 hOp371 => ?_)
                            obtain ⟨l374, s_375, A372, c373, ha, HS377, HAp371⟩ := hI
                            cases kp371 with
                            | zero => cases (show (none : Option _) = some _ from HAp371)
                            | succ kp371 =>
                              have H := (valiselaw6_BuildCoded.l1.eq_2 ..).symm.trans HAp371
                              refine wpLF_app ?_ ha
                              refine L_seq ?_
                              refine L_seq ?_
                              refine L_region ?_
                              refine F_val rfl rfl rfl (O_move rfl rfl) ?_
                              refine F_val rfl rfl rfl (O_lt rfl rfl rfl) ?_
                              refine F_nil ?_
                              refine L_condP rfl (fun c378 => ?_) (fun c378 => ?_)
                              · have H := of_pos H c378
                                refine L_skip ?_
                                refine L_seq ?_
                                refine L_blk (fun Q379 hN379 hX379 hO379 => ?_)
                                refine L_seq ?_
                                refine L_region ?_
                                refine F_val rfl rfl rfl (O_move rfl rfl) ?_
                                refine F_litE (E := (Eint .i64)) (e := 3) [(0, .int .i64 0)] [0] rfl rfl rfl rfl rfl rfl rfl (by decide) (fun w => by kernel_rfl) HS377 (fun w380 A382 c383 HS381 => ?_)
                                have HS381 : Hp S0 w0 w380 [.rd A_text_0 (rowC (Eint .u8) l_text_0), .rd A_other_2 (rowC (Eint .i64) l_other_2), .own A17 c18 (rowC (Eint .i64) z14) 3 (Eint .i64).sz, .own A372 c373 (rowC (Eint .i64) l374) 3 (Eint .i64).sz, .own A382 c383 (rowC (Eint .i64) [0]) 3 (Eint .i64).sz] := HS381
                                obtain ⟨l387, h388, H⟩ := of_bnd H
                                obtain ⟨g389, H⟩ := of_gd H
                                refine F_appE (E := (Eint .i64)) (xs := l374) (ys := [0]) (i := 3) rfl rfl rfl rfl Try.underlying22 info3 rfl (by decide) (by decide) rfl rfl HS381 rfl (HS381.cells_own (i := 4) rfl) h388 g389 (fun w385 A390 c391 HS386 => ?_)
                                have HS386 : Hp S0 w0 w385 [.rd A_text_0 (rowC (Eint .u8) l_text_0), .rd A_other_2 (rowC (Eint .i64) l_other_2), .own A17 c18 (rowC (Eint .i64) z14) 3 (Eint .i64).sz, .own A390 c391 (rowC (Eint .i64) l387) 3 (Eint .i64).sz, .own A382 c383 (rowC (Eint .i64) [0]) 3 (Eint .i64).sz] := HS386
                                refine F_val rfl rfl rfl (O_assign rfl rfl) ?_
                                refine F_nil ?_
                                refine L_seq ?_
                                refine L_region ?_
                                refine F_val rfl rfl rfl (O_move rfl rfl) ?_
                                refine F_val rfl rfl rfl (O_move rfl rfl) ?_
                                obtain ⟨⟨g392, g393⟩, H⟩ := of_gd H
                                refine F_val rfl rfl rfl (O_idx rfl rfl rfl Try.underlying22 size3 g392 g393 (Cells.isA (HS386.cells_own (i := 2) rfl) (rowC_ne (E := (Eint .i64)) g392 g393 (by decide)))) ?_
                                refine F_val rfl rfl rfl (O_loadC rfl rfl flat3 (HS386.cells_own (i := 2) rfl) (int_cell g392 g393)) ?_
                                refine F_val rfl rfl rfl (O_gt rfl rfl rfl) ?_
                                refine F_nil ?_
                                obtain ⟨yj394, Hyj394, H⟩ := of_bind H
                                refine L_join (fun a w => ∃ (l405 : List Int), yj394 = l405 ∧ Is Try.f14.ntmps a [(0, .slice A_text_0 l_text_0.length c_text_0), (2, .slice A_other_2 l_other_2.length c_other_2), (7, .slice A17 z14.length c18), (12, .int .i64 z88), (14, .slice A390 l405.length c391), (15, .int .i64 s_375)] ∧ Hp S0 w0 w [.rd A_text_0 (rowC (Eint .u8) l_text_0), .rd A_other_2 (rowC (Eint .i64) l_other_2), .own A17 c18 (rowC (Eint .i64) z14) 3 (Eint .i64).sz, .own A390 c391 (rowC (Eint .i64) l405) 3 (Eint .i64).sz]) (fun Qj394 hNj394 hOj394 => ?_) (fun a w hR => ?_)
                                · skip
                                  have H := Hyj394
                                  refine L_condP rfl (fun c406 => ?_) (fun c406 => ?_)
                                  · have H := of_pos H c406
                                    refine L_region ?_
                                    refine F_val rfl rfl rfl (O_move rfl rfl) ?_
                                    refine F_val rfl rfl rfl (O_move rfl rfl) ?_
                                    refine F_val rfl rfl rfl (O_move rfl rfl) ?_
                                    refine F_val rfl rfl rfl (O_move rfl rfl) ?_
                                    obtain ⟨⟨g407, g408⟩, H⟩ := of_gd H
                                    refine F_val rfl rfl rfl (O_idx rfl rfl rfl Try.underlying22 size3 g407 g408 (Cells.isA (HS386.cells_rd (i := 1) rfl) (rowC_ne (E := (Eint .i64)) g407 g408 (by decide)))) ?_
                                    refine F_val rfl rfl rfl (O_loadC rfl rfl flat3 (HS386.cells_rd (i := 1) rfl) (int_cell g407 g408)) ?_
                                    obtain ⟨⟨g409, g410⟩, H⟩ := of_gd H
                                    refine F_val rfl rfl rfl (O_idx rfl rfl rfl Try.underlying22 size3 g409 g410 (Cells.isA (HS386.cells_own (i := 3) rfl) (rowC_ne (E := (Eint .i64)) g409 g410 (by decide)))) ?_
                                    obtain ⟨l413, h414, H⟩ := of_bnd H
                                    refine F_setE (E := (Eint .i64)) (i := 3) (a := rd l_other_2 s_375) (q := s_375) rfl rfl rfl rfl rfl rfl size3 HS386 rfl (by decide) g409 g410 h414 (fun w411 HS412 => ?_)
                                    have e415 : l387.length = l413.length := by rw [← h414, List.length_set]
                                    refine F_know (i := 14) rfl (congrArg (fun n => Value.slice A390 n c391) e415) ?_
                                    have HS412 : Hp S0 w0 w411 [.rd A_text_0 (rowC (Eint .u8) l_text_0), .rd A_other_2 (rowC (Eint .i64) l_other_2), .own A17 c18 (rowC (Eint .i64) z14) 3 (Eint .i64).sz, .own A390 c391 (rowC (Eint .i64) l413) 3 (Eint .i64).sz, .own A382 c383 (rowC (Eint .i64) [0]) 3 (Eint .i64).sz] := HS412
                                    refine F_nil ?_
                                    refine L_nil (fun a ha => hNj394 a _ ⟨_, (Option.some.inj H).symm, Is.cons ha (Is.cons ha (Is.cons ha (Is.cons ha (Is.cons ha (Is.cons ha (Is.nil ha) rfl) rfl) rfl) rfl) rfl) rfl, HS412.sel [0, 1, 2, 3] rfl⟩)
                                  · have H := of_neg H c406
                                    refine L_skip ?_
                                    refine L_nil (fun a ha => hNj394 a _ ⟨_, (Option.some.inj H).symm, Is.cons ha (Is.cons ha (Is.cons ha (Is.cons ha (Is.cons ha (Is.cons ha (Is.nil ha) rfl) rfl) rfl) rfl) rfl) rfl, HS386.sel [0, 1, 2, 3] rfl⟩)
                                · obtain ⟨l405, ej, ha, HS417⟩ := hR
                                  obtain rfl := ej.symm
                                  refine wpLF_app ?_ ha
                                  refine L_endB hN379 ?_
                                  refine L_region ?_
                                  refine F_val rfl rfl rfl (O_move rfl rfl) ?_
                                  refine F_val rfl rfl rfl (O_add rfl rfl rfl) ?_
                                  obtain ⟨x418, h419, H⟩ := of_bnd H
                                  refine F_val rfl rfl rfl (O_assign' rfl rfl (congrArg (Value.int .i64) h419)) ?_
                                  refine F_nil ?_
                                  refine L_nil (fun a ha => hNp371 _ a _ (Nat.lt_succ_self _) ⟨_, _, _, _, Is.cons ha (Is.cons ha (Is.cons ha (Is.cons ha (Is.cons ha (Is.cons ha (Is.nil ha) rfl) rfl) rfl) rfl) rfl) rfl, HS417.sel [0, 1, 2, 3] rfl, H⟩)
                              · have H := of_neg H c378
                                refine L_exitB (fun a w h => hOp371 (.exit 0) a w rfl (hXb283 a w h)) ?_
                                refine L_nil (fun a ha => hNj142 a _ ⟨_, _, _, (Option.some.inj H).symm, Is.cons ha (Is.cons ha (Is.cons ha (Is.nil ha) rfl) rfl) rfl, HS377.sel [0, 1, 3] rfl⟩)
                          · obtain ⟨l282, A280, c281, ej, ha, HS421⟩ := hR
                            obtain rfl := ej.symm
                            refine wpLF_app ?_ ha
                            refine L_seq ?_
                            refine L_region ?_
                            refine F_val rfl rfl rfl (O_move rfl rfl) ?_
                            refine F_val rfl rfl rfl (O_move rfl rfl) ?_
                            obtain ⟨⟨z424, z425⟩, h423, H⟩ := of_bind H
                            refine F_qcall (v := .tuple #[.int .i64 z424, .bool z425]) (xs := [.tmp 112, .tmp 113]) rfl rfl rfl rfl Try.func34 nm34 rfl rfl ((valiselaw6_coded.calls (HS421.give [] rfl (Lent.rd HS421 (Lent.own HS421 (Lent.nil) (i := 2) rfl rfl ((HS421.cells_own (i := 2) rfl).self)) (i := 0) rfl ((HS421.cells_rd (i := 0) rfl).self))) hc_text_0 (HS421.own_capE (i := 2) rfl (by decide)) h423).mono (fun e w hc => ?_)) (fun w426 hw427 => ?_)
                            · obtain ⟨rfl, h⟩ := hc
                              exact ⟨rfl, h.chg0⟩
                            have HS428 := HS421.keep hw427
                            refine F_val rfl rfl rfl (O_move rfl rfl) ?_
                            refine F_val rfl rfl rfl (O_extract (v := .int .i64 z424) rfl rfl rfl) ?_
                            refine F_val rfl rfl rfl (O_extract (v := .bool z425) rfl rfl rfl) ?_
                            refine F_val rfl rfl rfl (O_assign rfl rfl) ?_
                            refine F_val rfl rfl rfl (O_assign rfl rfl) ?_
                            refine F_nil ?_
                            refine L_seq ?_
                            refine L_region ?_
                            refine F_val rfl rfl rfl (O_move rfl rfl) ?_
                            refine F_val rfl rfl rfl (O_move rfl rfl) ?_
                            refine F_grp 4 [(122, .bool (decide ((z425 = true) ∧ (z88 ≤ z424))))] ?_ ?_
                            · rcases Decidable.em (z425 = true) with c432 | c432
                              · refine F_know (i := 118) rfl (congrArg Value.bool c432) ?_
                                refine F_gval rfl rfl rfl rfl rfl rfl (O_move rfl rfl) ?_
                                refine F_gval rfl rfl rfl rfl rfl rfl (O_move rfl rfl) ?_
                                refine F_gval rfl rfl rfl rfl rfl rfl (O_ge rfl rfl rfl) ?_
                                refine F_val rfl rfl rfl (O_pickT rfl rfl rfl) ?_
                                refine F_know (i := 122) rfl (dec_and_t (q := z88 ≤ z424) c432) ?_
                                exact F_grpE (fun a ha => Is.cons ha (Is.nil ha) rfl)
                              · refine F_know (i := 118) rfl (congrArg Value.bool (Bool.eq_false_iff.mpr c432)) ?_
                                refine F_gskip rfl rfl rfl rfl rfl rfl rfl ?_
                                refine F_gskip rfl rfl rfl rfl rfl rfl rfl ?_
                                refine F_gskip rfl rfl rfl rfl rfl rfl rfl ?_
                                refine F_val rfl rfl rfl (O_pickF rfl rfl rfl) ?_
                                refine F_know (i := 122) rfl (dec_and_f (q := z88 ≤ z424) c432) ?_
                                exact F_grpE (fun a ha => Is.cons ha (Is.nil ha) rfl)
                            · skip
                              refine F_val rfl rfl rfl (O_assign rfl rfl) ?_
                              refine F_nil ?_
                              refine L_ret (fun a ha => (post_ret1 ha rfl rfl ?_))
                              obtain rfl := Option.some.inj H
                              exact ⟨rfl, HS428.sel [] rfl⟩

end Go.Proofs.Ytbegkkmngkpjmaa
