import Derived.Test.YtfglehdaimgaeaaChecked
import Derived.Test.YtfglehdaimgaeaaGCodeNilPure
set_option linter.unusedVariables false
set_option linter.unusedSimpArgs false
set_option maxRecDepth 10000
set_option maxHeartbeats 1000000
namespace Go.Proofs.Ytfglehdaimgaeaa
open Go Go.V Go.V.Pu
theorem mix : Try.prog.follows .mixedOrders = true := by kernel_rfl
theorem nm32 : (Try.f32.name == "runtime.NumGoroutine") = false := by kernel_rfl
theorem nm36 : (Try.f36.name == "runtime.NumGoroutine") = false := by kernel_rfl
theorem info5 : (Try.prog.info? 5).map (fun i => (i.zero, i.size, i.bytes)) = some (some (.int .u8 0), 1, 1) := by kernel_rfl
theorem size5 : (Try.prog.info? 5).map (·.size) = some 1 := by kernel_rfl
theorem nm47 : (Try.f47.name == "runtime.NumGoroutine") = false := by kernel_rfl
theorem nm51 : (Try.f51.name == "runtime.NumGoroutine") = false := by kernel_rfl
theorem nm23 : (Try.f23.name == "runtime.NumGoroutine") = false := by kernel_rfl
theorem nm38 : (Try.f38.name == "runtime.NumGoroutine") = false := by kernel_rfl
theorem zero82 : (Try.prog.info? 82).map (·.zero) = some (some (.agg #[.int .i64 0, .int .i64 0, .int .i64 0, .int .i64 0, .int .i64 0, .int .i64 0, .int .i64 0, .int .i64 0, .int .i64 0, .int .i64 0, .int .i64 0, .int .i64 0, .int .i64 0, .int .i64 0, .int .i64 0, .int .i64 0])) := by kernel_rfl
theorem wide82 : Wide Try.prog 82 16 := Wide.of Try.underlying82 rfl (by kernel_rfl)
theorem size82 : (Try.prog.info? 82).map (·.size) = some 16 := by kernel_rfl
theorem size3 : (Try.prog.info? 3).map (·.size) = some 1 := by kernel_rfl
theorem flat3 : Flat Try.prog 3 := Flat.of Try.underlying3 rfl
theorem zarr82 (w : World) : (Instr.build 82 #[]).run Try.prog w = .ok (.agg (rowC (Eint .i64) (List.replicate 16 (0 : Int))).toArray) w := by kernel_rfl
theorem nm57 : (Try.f57.name == "runtime.NumGoroutine") = false := by kernel_rfl
theorem nm58 : (Try.f58.name == "runtime.NumGoroutine") = false := by kernel_rfl
theorem nm64 : (Try.f64.name == "runtime.NumGoroutine") = false := by kernel_rfl
theorem zero91 : (Try.prog.info? 91).map (·.zero) = some (some (.agg #[.slice none 0 0, .slice none 0 0, .int .i64 0, .int .i64 0, .int .i64 0, .int .i64 0, .int .i64 0, .int .i64 0, .int .i64 0, .int .i64 0, .int .i64 0, .int .i64 0, .int .i64 0, .int .i64 0, .int .i64 0, .int .i64 0, .int .i64 0, .int .i64 0, .int .i64 0, .int .i64 0, .int .i64 0, .int .i64 0, .int .i64 0, .int .i64 0, .int .i64 0, .int .i64 0, .int .i64 0, .int .i64 0, .int .i64 0, .int .i64 0, .int .i64 0, .int .i64 0, .int .i64 0, .int .i64 0])) := by kernel_rfl
theorem nm62 : (Try.f62.name == "runtime.NumGoroutine") = false := by kernel_rfl
theorem info3 : (Try.prog.info? 3).map (fun i => (i.zero, i.size, i.bytes)) = some (some (.int .i64 0), 1, 8) := by kernel_rfl
theorem nm61 : (Try.f61.name == "runtime.NumGoroutine") = false := by kernel_rfl
theorem struct91 : StructAt Try.prog 91 [(0, 1), (1, 1), (2, 16), (18, 16)] [.slice none 0 0, .slice none 0 0, .int .i64 0, .int .i64 0, .int .i64 0, .int .i64 0, .int .i64 0, .int .i64 0, .int .i64 0, .int .i64 0, .int .i64 0, .int .i64 0, .int .i64 0, .int .i64 0, .int .i64 0, .int .i64 0, .int .i64 0, .int .i64 0, .int .i64 0, .int .i64 0, .int .i64 0, .int .i64 0, .int .i64 0, .int .i64 0, .int .i64 0, .int .i64 0, .int .i64 0, .int .i64 0, .int .i64 0, .int .i64 0, .int .i64 0, .int .i64 0, .int .i64 0, .int .i64 0] := StructAt.of Try.underlying91 zero91 rfl (fun w => by kernel_rfl)
theorem size91 : (Try.prog.info? 91).map (·.size) = some 34 := by kernel_rfl
theorem wide91 : Wide Try.prog 91 34 := Wide.of Try.underlying91 rfl (by kernel_rfl)
theorem nm65 : (Try.f65.name == "runtime.NumGoroutine") = false := by kernel_rfl
theorem zero94 : (Try.prog.info? 94).map (·.zero) = some (some (.agg #[.slice none 0 0, .slice none 0 0, .int .i64 0, .int .i64 0, .int .i64 0, .int .i64 0, .int .i64 0, .int .i64 0, .int .i64 0, .int .i64 0, .int .i64 0, .int .i64 0, .int .i64 0, .int .i64 0, .int .i64 0, .int .i64 0, .int .i64 0, .int .i64 0, .int .i64 0, .int .i64 0, .int .i64 0, .int .i64 0, .int .i64 0, .int .i64 0, .int .i64 0, .int .i64 0, .int .i64 0, .int .i64 0, .int .i64 0, .int .i64 0, .int .i64 0, .int .i64 0, .int .i64 0, .int .i64 0])) := by kernel_rfl
theorem struct94 : StructAt Try.prog 94 [(0, 34)] [.slice none 0 0, .slice none 0 0, .int .i64 0, .int .i64 0, .int .i64 0, .int .i64 0, .int .i64 0, .int .i64 0, .int .i64 0, .int .i64 0, .int .i64 0, .int .i64 0, .int .i64 0, .int .i64 0, .int .i64 0, .int .i64 0, .int .i64 0, .int .i64 0, .int .i64 0, .int .i64 0, .int .i64 0, .int .i64 0, .int .i64 0, .int .i64 0, .int .i64 0, .int .i64 0, .int .i64 0, .int .i64 0, .int .i64 0, .int .i64 0, .int .i64 0, .int .i64 0, .int .i64 0, .int .i64 0] := StructAt.of Try.underlying94 zero94 rfl (fun w => by kernel_rfl)
theorem nm30 : (Try.f30.name == "runtime.NumGoroutine") = false := by kernel_rfl
theorem zero108 : (Try.prog.info? 108).map (·.zero) = some (some (.agg #[.slice none 0 0, .slice none 0 0, .int .i64 0, .int .i64 0, .int .i64 0, .int .i64 0, .int .i64 0, .int .i64 0, .int .i64 0, .int .i64 0, .int .i64 0, .int .i64 0, .int .i64 0, .int .i64 0, .int .i64 0, .int .i64 0, .int .i64 0, .int .i64 0, .int .i64 0, .int .i64 0, .int .i64 0, .int .i64 0, .int .i64 0, .int .i64 0, .int .i64 0, .int .i64 0, .int .i64 0, .int .i64 0, .int .i64 0, .int .i64 0, .int .i64 0, .int .i64 0, .int .i64 0, .int .i64 0, .slice none 0 0])) := by kernel_rfl
theorem struct108 : StructAt Try.prog 108 [(0, 34), (34, 1)] [.slice none 0 0, .slice none 0 0, .int .i64 0, .int .i64 0, .int .i64 0, .int .i64 0, .int .i64 0, .int .i64 0, .int .i64 0, .int .i64 0, .int .i64 0, .int .i64 0, .int .i64 0, .int .i64 0, .int .i64 0, .int .i64 0, .int .i64 0, .int .i64 0, .int .i64 0, .int .i64 0, .int .i64 0, .int .i64 0, .int .i64 0, .int .i64 0, .int .i64 0, .int .i64 0, .int .i64 0, .int .i64 0, .int .i64 0, .int .i64 0, .int .i64 0, .int .i64 0, .int .i64 0, .int .i64 0, .slice none 0 0] := StructAt.of Try.underlying108 zero108 rfl (fun w => by kernel_rfl)
theorem field108_0 : FieldAt Try.prog 108 0 0 := fun w a => by kernel_rfl
theorem field91_0 : FieldAt Try.prog 91 0 0 := fun w a => by kernel_rfl
theorem flat22 : Flat Try.prog 22 := Flat.of Try.underlying22 rfl
theorem field108_1 : FieldAt Try.prog 108 1 34 := fun w a => by kernel_rfl
theorem size22 : (Try.prog.info? 22).map (·.size) = some 1 := by kernel_rfl
theorem nm45 : (Try.f45.name == "runtime.NumGoroutine") = false := by kernel_rfl
/-! function 32: valise/bits.NewWriter -/
theorem bits_NewWriter.calls {S0 : Nat → Prop} {w0 : World} {r : (List Int × Int)} (HS0 : Hp S0 w0 w0 []) (h : bits_NewWriter.f = some r) :
    Calls Try.prog 32 ([] : List Value).toArray w0 (fun e w => ∃ (g1 : Nat), ∃ (A1_0 : Option Addr), ∃ (c1_0 : Nat), e = .returned (.pointer (some ⟨g1, 0, none⟩)) ∧ Hp S0 w0 w [.box g1 [.slice A1_0 r.1.length c1_0, .int .i64 r.2] 98, .own A1_0 c1_0 (rowC (Eint .u8) r.1) 5 (Eint .u8).sz]) := by
  have H : ((some (([] : List Int), 0)) : Option ((List Int × Int))) = some r := h
  refine calls_start Try.func32 rfl rfl ?_
  refine L_seq ?_
  refine L_region ?_
  refine F_val rfl rfl rfl (O_assign rfl rfl) ?_
  refine F_nil ?_
  refine L_seq ?_
  refine L_region ?_
  refine F_val rfl rfl rfl (O_build (vs := []) (v := .agg #[.slice none 0 0, .int .i64 0]) rfl rfl rfl (fun w => by kernel_rfl)) ?_
  have HS5 := HS0.addNil 5 (Eint .u8).sz
  have HS5 : Hp S0 w0 w0 [.own none 0 (rowC (Eint .u8) ([] : List Int)) 5 (Eint .u8).sz] := HS5
  refine F_box (C := [.slice none ([] : List Int).length 0, .int .i64 0]) rfl rfl rfl rfl rfl rfl HS5 (fun w1 g3 HS2 => ?_)
  have HS2 : Hp S0 w0 w1 [.own none 0 (rowC (Eint .u8) ([] : List Int)) 5 (Eint .u8).sz, .box g3 ([.slice none ([] : List Int).length 0, .int .i64 0]) 98] := HS2
  refine F_val rfl rfl rfl (O_assign rfl rfl) ?_
  refine F_nil ?_
  refine L_ret (fun a ha => (post_ret1 ha rfl rfl ?_))
  obtain rfl := Option.some.inj H
  exact ⟨_, _, _, rfl, HS2.sel [1, 0] rfl⟩

/-! function 36: (*valise/code.Encoder).Put -/
theorem code_Encoder_Put_n0.calls {S0 : Nat → Prop} {w0 : World} {g_w_1 : Nat} {A_w_1_bytes : Option Addr} {c_w_1_bytes : Nat} {w_1_bytes : List Int} {w_1_count : Int} {symbol_2 : Int} {r : Int × List Int × Int} (HS0 : Hp S0 w0 w0 [.box g_w_1 [.slice A_w_1_bytes w_1_bytes.length c_w_1_bytes, .int .i64 w_1_count] 98, .own A_w_1_bytes c_w_1_bytes (rowC (Eint .u8) w_1_bytes) 5 (Eint .u8).sz]) (h : code_Encoder_Put_n0.f w_1_bytes w_1_count symbol_2 = some r) :
    Calls Try.prog 36 ([.pointer none, .pointer (some ⟨g_w_1, 0, none⟩), .int .i64 symbol_2] : List Value).toArray w0 (fun e w => ∃ (A_w_1_bytes' : Option Addr), ∃ (c_w_1_bytes' : Nat), e = .returned (.int .i64 r.1) ∧ Hp S0 w0 w [.box g_w_1 [.slice A_w_1_bytes' r.2.1.length c_w_1_bytes', .int .i64 r.2.2] 98, .own A_w_1_bytes' c_w_1_bytes' (rowC (Eint .u8) r.2.1) 5 (Eint .u8).sz]) := by
  have H : ((some (1, w_1_bytes, w_1_count)) : Option (Int × List Int × Int)) = some r := h
  refine calls_start Try.func36 rfl rfl ?_
  refine L_seq ?_
  refine L_region ?_
  refine F_val rfl rfl rfl (O_assign rfl rfl) ?_
  refine F_nil ?_
  refine L_seq ?_
  refine L_seq ?_
  refine L_region ?_
  refine F_val rfl rfl rfl (O_move rfl rfl) ?_
  refine F_val rfl rfl rfl (O_peq rfl rfl rfl Try.underlying41) ?_
  refine F_val rfl rfl rfl (O_move rfl rfl) ?_
  refine F_gskip rfl rfl rfl rfl rfl rfl rfl ?_
  refine F_gskip rfl rfl rfl rfl rfl rfl rfl ?_
  refine F_val rfl rfl rfl (O_pickT rfl rfl rfl) ?_
  refine F_nil ?_
  refine L_cond rfl (fun _ => ?_) (fun hx => by cases hx)
  refine L_seq ?_
  refine L_region ?_
  refine F_val rfl rfl rfl (O_assign rfl rfl) ?_
  refine F_nil ?_
  refine L_ret (fun a ha => (post_ret1 ha rfl rfl ?_))
  obtain rfl := Option.some.inj H
  exact ⟨_, _, rfl, HS0.sel [0, 1] rfl⟩

/-! function 47: valise/bits.NewReader -/
theorem bits_NewReader.calls {S0 : Nat → Prop} {w0 : World} {A_data_0 : Option Addr} {c_data_0 : Nat} {l_data_0 : List Int} {r : Option (List Int × Int)} (HS0 : Hp S0 w0 w0 [.rd A_data_0 (rowC (Eint .u8) l_data_0)]) (hc_data_0 : l_data_0.length ≤ c_data_0) (h : bits_NewReader.f l_data_0 = some r) :
    Calls Try.prog 47 ([.slice A_data_0 l_data_0.length c_data_0] : List Value).toArray w0 (fun e w => match r with | none => e = .returned (.pointer none) ∧ Hp S0 w0 w [] | some x => ∃ (g0 : Nat), ∃ (A0_0 : Option Addr), ∃ (c0_0 : Nat), e = .returned (.pointer (some ⟨g0, 0, none⟩)) ∧ Hp S0 w0 w [.box g0 [.slice A0_0 x.1.length c0_0, .int .i64 x.2] 112, .own A0_0 c0_0 (rowC (Eint .u8) x.1) 5 (Eint .u8).sz]) := by
  have H : ((if 33554432 < (l_data_0.length : Int) then (some none) else (gd ((0 : Int) ≤ (l_data_0.length : Int) ∧ (l_data_0.length : Int) * 1 ≤ 281474976710656) (bnd (List.replicate ((l_data_0.length : Int) : Int).toNat (0 : Int)) fun l6 => bnd (cpy l6 l_data_0) fun l13 => some (some (l13, 0))))) : Option (Option (List Int × Int))) = some r := h
  refine calls_start Try.func47 rfl rfl ?_
  refine L_seq ?_
  refine L_region ?_
  refine F_val rfl rfl rfl (O_assign rfl rfl) ?_
  refine F_nil ?_
  refine L_seq ?_
  refine L_seq ?_
  refine L_region ?_
  refine F_val rfl rfl rfl (O_move rfl rfl) ?_
  refine F_val rfl rfl rfl (O_len rfl rfl Try.underlying59) ?_
  refine F_val rfl rfl rfl (O_gt rfl rfl rfl) ?_
  refine F_nil ?_
  refine L_condP rfl (fun c1 => ?_) (fun c1 => ?_)
  · have H := of_pos H c1
    refine L_seq ?_
    refine L_region ?_
    refine F_val rfl rfl rfl (O_assign rfl rfl) ?_
    refine F_nil ?_
    refine L_ret (fun a ha => (post_ret1 ha rfl rfl ?_))
    obtain rfl := Option.some.inj H
    exact ⟨rfl, HS0.sel [] rfl⟩
  · have H := of_neg H c1
    refine L_skip ?_
    refine L_seq ?_
    refine L_region ?_
    refine F_val rfl rfl rfl (O_move rfl rfl) ?_
    refine F_val rfl rfl rfl (O_len rfl rfl Try.underlying59) ?_
    obtain ⟨⟨g4, g5⟩, H⟩ := of_gd H
    obtain ⟨l6, h7, H⟩ := of_bnd H
    refine F_makeE (E := (Eint .u8)) rfl rfl rfl rfl rfl rfl Try.underlying59 info5 rfl (by decide) (by decide) g4 g5 HS0 h7 (fun w2 A8 c9 HS3 => ?_)
    have HS3 : Hp S0 w0 w2 [.rd A_data_0 (rowC (Eint .u8) l_data_0), .own A8 c9 (rowC (Eint .u8) l6) 5 (Eint .u8).sz] := HS3
    refine F_val rfl rfl rfl (O_assign rfl rfl) ?_
    refine F_nil ?_
    refine L_seq ?_
    refine L_region ?_
    refine F_val rfl rfl rfl (O_move rfl rfl) ?_
    refine F_val rfl rfl rfl (O_move rfl rfl) ?_
    obtain ⟨l13, h14, H⟩ := of_bnd H
    refine F_copyE (E := (Eint .u8)) (xs := l6) (ys := l_data_0) (i := 1) rfl rfl rfl rfl Try.underlying59 size5 rfl rfl HS3 rfl (HS3.cells_rd (i := 0) rfl) h14 (fun w11 HS12 => ?_)
    have e15 : l6.length = l13.length := by rw [← h14, cpy_length]
    refine F_know (i := 3) rfl (congrArg (fun n => Value.slice A8 n c9) e15) ?_
    have HS12 : Hp S0 w0 w11 [.rd A_data_0 (rowC (Eint .u8) l_data_0), .own A8 c9 (rowC (Eint .u8) l13) 5 (Eint .u8).sz] := HS12
    refine F_nil ?_
    refine L_seq ?_
    refine L_region ?_
    refine F_val rfl rfl rfl (O_move rfl rfl) ?_
    refine F_val rfl rfl rfl (O_build (vs := [(0, .slice A8 l13.length c9)]) (v := .agg #[.slice A8 l13.length c9, .int .i64 0]) rfl rfl rfl (fun w => by kernel_rfl)) ?_
    refine F_box (C := [.slice A8 l13.length c9, .int .i64 0]) rfl rfl rfl rfl rfl rfl HS12 (fun w16 g18 HS17 => ?_)
    have HS17 : Hp S0 w0 w16 [.rd A_data_0 (rowC (Eint .u8) l_data_0), .own A8 c9 (rowC (Eint .u8) l13) 5 (Eint .u8).sz, .box g18 [.slice A8 l13.length c9, .int .i64 0] 112] := HS17
    refine F_val rfl rfl rfl (O_assign rfl rfl) ?_
    refine F_nil ?_
    refine L_ret (fun a ha => (post_ret1 ha rfl rfl ?_))
    obtain rfl := Option.some.inj H
    exact ⟨_, _, _, rfl, HS17.sel [2, 1] rfl⟩

/-! function 51: (*valise/code.Decoder).Next -/
theorem code_Decoder_Next_n0_n1.calls {S0 : Nat → Prop} {w0 : World} {r : Int × Int} (HS0 : Hp S0 w0 w0 []) (h : code_Decoder_Next_n0_n1.f = some r) :
    Calls Try.prog 51 ([.pointer none, .pointer none] : List Value).toArray w0 (fun e w => e = .returned (.tuple #[.int .i64 r.1, .int .i64 r.2]) ∧ Hp S0 w0 w []) := by
  have H : ((some (0, 1)) : Option (Int × Int)) = some r := h
  refine calls_start Try.func51 rfl rfl ?_
  refine L_seq ?_
  refine L_region ?_
  refine F_val rfl rfl rfl (O_assign rfl rfl) ?_
  refine F_val rfl rfl rfl (O_assign rfl rfl) ?_
  refine F_nil ?_
  refine L_seq ?_
  refine L_seq ?_
  refine L_region ?_
  refine F_val rfl rfl rfl (O_move rfl rfl) ?_
  refine F_val rfl rfl rfl (O_peq rfl rfl rfl Try.underlying62) ?_
  refine F_val rfl rfl rfl (O_move rfl rfl) ?_
  refine F_gskip rfl rfl rfl rfl rfl rfl rfl ?_
  refine F_gskip rfl rfl rfl rfl rfl rfl rfl ?_
  refine F_val rfl rfl rfl (O_pickT rfl rfl rfl) ?_
  refine F_nil ?_
  refine L_cond rfl (fun _ => ?_) (fun hx => by cases hx)
  refine L_seq ?_
  refine L_region ?_
  refine F_val rfl rfl rfl (O_assign rfl rfl) ?_
  refine F_val rfl rfl rfl (O_assign rfl rfl) ?_
  refine F_nil ?_
  refine L_ret (fun a ha => (post_ret2 ha rfl rfl rfl ?_))
  obtain rfl := Option.some.inj H
  exact ⟨rfl, HS0.sel [] rfl⟩

/-! function 23: valise/valiselaw5.num -/
theorem valiselaw5_num.calls {S0 : Nat → Prop} {w0 : World} {e_0 : Int} {r : Int} (HS0 : Hp S0 w0 w0 []) (h : valiselaw5_num.f e_0 = some r) :
    Calls Try.prog 23 ([.int .i64 e_0] : List Value).toArray w0 (fun e w => e = .returned (.int .i64 r) ∧ Hp S0 w0 w []) := by
  have H : ((some e_0) : Option (Int)) = some r := h
  refine calls_start Try.func23 rfl rfl ?_
  refine L_seq ?_
  refine L_region ?_
  refine F_val rfl rfl rfl (O_assign rfl rfl) ?_
  refine F_nil ?_
  refine L_seq ?_
  refine L_region ?_
  refine F_val rfl rfl rfl (O_move rfl rfl) ?_
  refine F_val rfl rfl rfl (O_assign rfl rfl) ?_
  refine F_nil ?_
  refine L_ret (fun a ha => (post_ret1 ha rfl rfl ?_))
  obtain rfl := Option.some.inj H
  exact ⟨rfl, HS0.sel [] rfl⟩

/-! function 38: (*valise/code.Encoder).Len -/
theorem code_Encoder_Len_n0.calls {S0 : Nat → Prop} {w0 : World} {symbol_1 : Int} {r : Int} (HS0 : Hp S0 w0 w0 []) (h : code_Encoder_Len_n0.f symbol_1 = some r) :
    Calls Try.prog 38 ([.pointer none, .int .i64 symbol_1] : List Value).toArray w0 (fun e w => e = .returned (.int .i64 r) ∧ Hp S0 w0 w []) := by
  have H : ((some 0) : Option (Int)) = some r := h
  refine calls_start Try.func38 rfl rfl ?_
  refine L_seq ?_
  refine L_region ?_
  refine F_val rfl rfl rfl (O_assign rfl rfl) ?_
  refine F_nil ?_
  refine L_seq ?_
  refine L_seq ?_
  refine L_region ?_
  refine F_val rfl rfl rfl (O_move rfl rfl) ?_
  refine F_val rfl rfl rfl (O_peq rfl rfl rfl Try.underlying41) ?_
  refine F_val rfl rfl rfl (O_move rfl rfl) ?_
  refine F_gskip rfl rfl rfl rfl rfl rfl rfl ?_
  refine F_gskip rfl rfl rfl rfl rfl rfl rfl ?_
  refine F_val rfl rfl rfl (O_pickT rfl rfl rfl) ?_
  refine F_val rfl rfl rfl (O_move rfl rfl) ?_
  refine F_gskip rfl rfl rfl rfl rfl rfl rfl ?_
  refine F_gskip rfl rfl rfl rfl rfl rfl rfl ?_
  refine F_gskip rfl rfl rfl rfl rfl rfl rfl ?_
  refine F_gskip rfl rfl rfl rfl rfl rfl rfl ?_
  refine F_gskip rfl rfl rfl rfl rfl rfl rfl ?_
  refine F_gskip rfl rfl rfl rfl rfl rfl rfl ?_
  refine F_gskip rfl rfl rfl rfl rfl rfl rfl ?_
  refine F_gskip rfl rfl rfl rfl rfl rfl rfl ?_
  refine F_val rfl rfl rfl (O_pickT rfl rfl rfl) ?_
  refine F_nil ?_
  refine L_cond rfl (fun _ => ?_) (fun hx => by cases hx)
  refine L_seq ?_
  refine L_region ?_
  refine F_val rfl rfl rfl (O_assign rfl rfl) ?_
  refine F_nil ?_
  refine L_ret (fun a ha => (post_ret1 ha rfl rfl ?_))
  obtain rfl := Option.some.inj H
  exact ⟨rfl, HS0.sel [] rfl⟩

/-! function 57: valise/code.count -/
theorem code_count.calls {S0 : Nat → Prop} {w0 : World} {A_lens_0 : Option Addr} {c_lens_0 : Nat} {l_lens_0 : List Int} {r : List Int × Int} (HS0 : Hp S0 w0 w0 [.rd A_lens_0 (rowC (Eint .i64) l_lens_0)]) (hc_lens_0 : l_lens_0.length ≤ c_lens_0) (h : code_count.f l_lens_0 = some r) :
    Calls Try.prog 57 ([.slice A_lens_0 l_lens_0.length c_lens_0] : List Value).toArray w0 (fun e w => e = .returned (.tuple #[.agg (rowC (Eint .i64) r.1).toArray, .int .i64 r.2]) ∧ Hp S0 w0 w []) := by
  have H : ((if 288 < (l_lens_0.length : Int) then (some ((List.replicate 16 (0 : Int)), 1)) else ((code_count.l1 FU (List.replicate 16 (0 : Int)) 0 l_lens_0).bind fun (yj12 : Sum (List Int × Int) (List Int)) => onR yj12 (fun r => some r) fun y83 => gd (y83.length = 16) (bnd (y83.set (0 : Int).toNat 0) fun l158 => some (l158, 0)))) : Option (List Int × Int)) = some r := h
  refine calls_start Try.func57 rfl rfl ?_
  refine L_seq ?_
  refine L_region ?_
  refine F_alloc (C := rowC (Eint .i64) (List.replicate 16 (0 : Int))) rfl rfl rfl rfl zero82 rfl HS0 (fun w1 g3 HS2 => ?_)
  have HS2 : Hp S0 w0 w1 [.rd A_lens_0 (rowC (Eint .i64) l_lens_0), .box g3 (rowC (Eint .i64) (List.replicate 16 (0 : Int))) 82] := HS2
  refine F_val rfl rfl rfl (O_assign rfl rfl) ?_
  refine F_nil ?_
  refine L_seq ?_
  refine L_region ?_
  refine F_alloc (C := rowC (Eint .i64) (List.replicate 16 (0 : Int))) rfl rfl rfl rfl zero82 rfl HS2 (fun w5 g7 HS6 => ?_)
  have HS6 : Hp S0 w0 w5 [.rd A_lens_0 (rowC (Eint .i64) l_lens_0), .box g3 (rowC (Eint .i64) (List.replicate 16 (0 : Int))) 82, .box g7 (rowC (Eint .i64) (List.replicate 16 (0 : Int))) 82] := HS6
  refine F_nil ?_
  refine L_seq ?_
  refine L_seq ?_
  refine L_region ?_
  refine F_val rfl rfl rfl (O_move rfl rfl) ?_
  refine F_val rfl rfl rfl (O_len rfl rfl Try.underlying22) ?_
  refine F_val rfl rfl rfl (O_gt rfl rfl rfl) ?_
  refine F_nil ?_
  refine L_condP rfl (fun c9 => ?_) (fun c9 => ?_)
  · have H := of_pos H c9
    refine L_seq ?_
    refine L_region ?_
    refine F_val rfl rfl rfl (O_loadSg [] (rowC (Eint .i64) (List.replicate 16 (0 : Int))) [] rfl rfl wide82 (HS6.cells_box (i := 2) rfl) (by simp only [List.append_assoc, List.cons_append, List.nil_append, List.append_nil]) rfl (row_len List.length_replicate) (by decide)) ?_
    refine F_stSg 1 (rowC (Eint .i64) (List.replicate 16 (0 : Int))) [] (rowC (Eint .i64) (List.replicate 16 (0 : Int))) (rowC (Eint .i64) (List.replicate 16 (0 : Int))) [] rfl rfl rfl rfl rfl size82 HS6 rfl rfl ones_row (by simp only [List.append_assoc, List.cons_append, List.nil_append, List.append_nil]) (by simp only [List.append_assoc, List.cons_append, List.nil_append, List.append_nil]) rfl (row_len List.length_replicate) (row_len List.length_replicate) (fun w10 HS11 => ?_)
    have HS11 : Hp S0 w0 w10 [.rd A_lens_0 (rowC (Eint .i64) l_lens_0), .box g3 (rowC (Eint .i64) (List.replicate 16 (0 : Int))) 82, .box g7 (rowC (Eint .i64) (List.replicate 16 (0 : Int))) 82] := HS11
    refine F_val rfl rfl rfl (O_assign rfl rfl) ?_
    refine F_nil ?_
    refine L_ret (fun a ha => (post_retc2 ha rfl rfl wide82 (HS11.cells_box (i := 1) rfl) (row_len List.length_replicate) (by decide) rfl ?_))
    obtain rfl := Option.some.inj H
    exact ⟨rfl, HS11.sel [] rfl⟩
  · have H := of_neg H c9
    refine L_skip ?_
    refine L_seq ?_
    refine L_seq ?_
    refine L_region ?_
    refine F_val rfl rfl rfl (O_move rfl rfl) ?_
    refine F_val rfl rfl rfl (O_len rfl rfl Try.underlying22) ?_
    refine F_val rfl rfl rfl (O_move rfl rfl) ?_
    refine F_nil ?_
    obtain ⟨yj12, Hyj12, H⟩ := of_bind H
    refine L_join (fun a w => ∃ (y83 : List Int), yj12 = Sum.inr y83 ∧ Is Try.f57.ntmps a [(2, .pointer (some ⟨g3, 0, none⟩)), (4, .pointer (some ⟨g7, 0, none⟩))] ∧ Hp S0 w0 w [.rd A_lens_0 (rowC (Eint .i64) l_lens_0), .box g3 (rowC (Eint .i64) (List.replicate 16 (0 : Int))) 82, .box g7 (rowC (Eint .i64) y83) 82]) (fun Qj12 hNj12 hOj12 => ?_) (fun a w hR => ?_)
    · have HOj12 := H
      have H := Hyj12
      refine L_blk (fun Qb84 hNb84 hXb84 hOb84 => ?_)
      refine L_lp (fun k a w => ∃ (y129 : List Int), ∃ (t130 : Int), Is Try.f57.ntmps a [(2, .pointer (some ⟨g3, 0, none⟩)), (4, .pointer (some ⟨g7, 0, none⟩)), (11, .slice A_lens_0 l_lens_0.length c_lens_0), (12, .int .i64 (l_lens_0.length : Int)), (13, .int .i64 t130)] ∧ Hp S0 w0 w [.rd A_lens_0 (rowC (Eint .i64) l_lens_0), .box g3 (rowC (Eint .i64) (List.replicate 16 (0 : Int))) 82, .box g7 (rowC (Eint .i64) y129) 82] ∧ code_count.l1 k y129 t130 l_lens_0 = some yj12) FU (fun a ha => ⟨_, _, Is.cons ha (Is.cons ha (Is.cons ha (Is.cons ha (Is.cons ha (Is.nil ha) rfl) rfl) rfl) rfl) rfl, HS6.sel [0, 1, 2] rfl, H⟩) (fun kp128 a w131 hI Qp128 hNp128 hOp128 => ?_)
      obtain ⟨y129, t130, ha, HS132, HAp128⟩ := hI
      cases kp128 with
      | zero => cases (show (none : Option _) = some _ from HAp128)
      | succ kp128 =>
        have H := (code_count.l1.eq_2 ..).symm.trans HAp128
        refine wpLF_app ?_ ha
        refine L_seq ?_
        refine L_region ?_
        refine F_val rfl rfl rfl (O_lt rfl rfl rfl) ?_
        refine F_nil ?_
        refine L_seq ?_
        refine L_condP rfl (fun c133 => ?_) (fun c133 => ?_)
        · have H := of_pos H c133
          refine L_skip ?_
          refine L_seq ?_
          refine L_blk (fun Q134 hN134 hX134 hO134 => ?_)
          refine L_seq ?_
          refine L_region ?_
          obtain ⟨⟨g135, g136⟩, H⟩ := of_gd H
          refine F_val rfl rfl rfl (O_idx rfl rfl rfl Try.underlying22 size3 g135 g136 (Cells.isA (HS132.cells_rd (i := 0) rfl) (rowC_ne (E := (Eint .i64)) g135 g136 (by decide)))) ?_
          refine F_val rfl rfl rfl (O_loadC rfl rfl flat3 (HS132.cells_rd (i := 0) rfl) (int_cell g135 g136)) ?_
          obtain ⟨x137, h138, H⟩ := of_bnd H
          refine F_val rfl rfl rfl (O_assign' rfl rfl (congrArg (Value.int .i64) h138)) ?_
          refine F_nil ?_
          refine L_seq ?_
          refine L_seq ?_
          refine L_region ?_
          refine F_val rfl rfl rfl (O_move rfl rfl) ?_
          refine F_val rfl rfl rfl (O_lt rfl rfl rfl) ?_
          refine F_val rfl rfl rfl (O_move rfl rfl) ?_
          refine F_grp 3 [(22, .bool (decide ((x137 < 0) ∨ (15 < x137)))), (2, .pointer (some ⟨g3, 0, none⟩)), (4, .pointer (some ⟨g7, 0, none⟩)), (6, .int .i64 x137), (11, .slice A_lens_0 l_lens_0.length c_lens_0), (12, .int .i64 (l_lens_0.length : Int)), (13, .int .i64 t130)] ?_ ?_
          · rcases Decidable.em (x137 < 0) with c142 | c142
            · refine F_know (i := 19) rfl (dec_t c142) ?_
              refine F_gskip rfl rfl rfl rfl rfl rfl rfl ?_
              refine F_gskip rfl rfl rfl rfl rfl rfl rfl ?_
              refine F_val rfl rfl rfl (O_pickT rfl rfl rfl) ?_
              refine F_know (i := 22) rfl (dec_or_t (q := 15 < x137) c142) ?_
              exact F_grpE (fun a ha => Is.cons ha (Is.cons ha (Is.cons ha (Is.cons ha (Is.cons ha (Is.cons ha (Is.cons ha (Is.nil ha) rfl) rfl) rfl) rfl) rfl) rfl) rfl)
            · refine F_know (i := 19) rfl (dec_f c142) ?_
              refine F_gval rfl rfl rfl rfl rfl rfl (O_move rfl rfl) ?_
              refine F_gval rfl rfl rfl rfl rfl rfl (O_gt rfl rfl rfl) ?_
              refine F_val rfl rfl rfl (O_pickF rfl rfl rfl) ?_
              refine F_know (i := 22) rfl (dec_or_f (q := 15 < x137) c142) ?_
              exact F_grpE (fun a ha => Is.cons ha (Is.cons ha (Is.cons ha (Is.cons ha (Is.cons ha (Is.cons ha (Is.cons ha (Is.nil ha) rfl) rfl) rfl) rfl) rfl) rfl) rfl)
          · skip
            refine F_nil ?_
            refine L_condP rfl (fun c143 => ?_) (fun c143 => ?_)
            · have H := of_pos H c143
              refine L_seq ?_
              refine L_region ?_
              refine F_val rfl rfl rfl (O_build (vs := []) (v := .agg (rowC (Eint .i64) (List.replicate 16 (0 : Int))).toArray) rfl rfl rfl zarr82) ?_
              refine F_stSg 1 (rowC (Eint .i64) (List.replicate 16 (0 : Int))) [] (rowC (Eint .i64) (List.replicate 16 (0 : Int))) (rowC (Eint .i64) (List.replicate 16 (0 : Int))) [] rfl rfl rfl rfl rfl size82 HS132 rfl rfl ones_row (by simp only [List.append_assoc, List.cons_append, List.nil_append, List.append_nil]) (by simp only [List.append_assoc, List.cons_append, List.nil_append, List.append_nil]) rfl (row_len List.length_replicate) (row_len List.length_replicate) (fun w144 HS145 => ?_)
              have HS145 : Hp S0 w0 w144 [.rd A_lens_0 (rowC (Eint .i64) l_lens_0), .box g3 (rowC (Eint .i64) (List.replicate 16 (0 : Int))) 82, .box g7 (rowC (Eint .i64) y129) 82] := HS145
              refine F_val rfl rfl rfl (O_assign rfl rfl) ?_
              refine F_nil ?_
              refine L_ret (fun a ha => (hO134 .ret a _ rfl (hOp128 .ret a _ rfl (hOb84 .ret a _ rfl (hOj12 .ret a _ rfl (post_retc2 ha rfl rfl wide82 (HS145.cells_box (i := 1) rfl) (row_len List.length_replicate) (by decide) rfl ?_))))))
              obtain rfl := Option.some.inj H
              obtain rfl := Option.some.inj (show (some ((List.replicate 16 (0 : Int)), 50) : Option (List Int × Int)) = some _ from HOj12)
              exact ⟨rfl, HS145.sel [] rfl⟩
            · have H := of_neg H c143
              refine L_skip ?_
              refine L_region ?_
              refine F_val rfl rfl rfl (O_move rfl rfl) ?_
              obtain ⟨⟨g146, g147⟩, H⟩ := of_gd H
              refine F_val rfl rfl rfl (O_idxA rfl rfl rfl Try.underlying82 size3 g146 g147) ?_
              obtain ⟨g148, H⟩ := of_gd H
              refine F_val rfl rfl rfl (O_loadB rfl rfl flat3 (HS132.cells_box (i := 2) rfl) (at0 (int_cell g146 (arr_lt g148 g147)))) ?_
              refine F_val rfl rfl rfl (O_add rfl rfl rfl) ?_
              refine F_val rfl rfl rfl (O_idxA rfl rfl rfl Try.underlying82 size3 g146 g147) ?_
              obtain ⟨l151, h152, H⟩ := of_bnd H
              refine F_stAr (E := (Eint .i64)) (xs := y129) (q := x137) (a := IntKind.i64.wrap ((rd y129 x137) + 1)) (off := 0) 2 (rowC (Eint .i64) l151) [] [] rfl rfl rfl rfl rfl size3 HS132 rfl rfl (by simp only [List.append_assoc, List.cons_append, List.nil_append, List.append_nil]) rfl g146 (arr_lt g148 g147) h152 (by simp only [List.append_assoc, List.cons_append, List.nil_append, List.append_nil]) (fun w149 HS150 => ?_)
              have hl153 : l151.length = 16 := by rw [← h152, List.length_set]; exact g148
              have HS150 : Hp S0 w0 w149 [.rd A_lens_0 (rowC (Eint .i64) l_lens_0), .box g3 (rowC (Eint .i64) (List.replicate 16 (0 : Int))) 82, .box g7 (rowC (Eint .i64) l151) 82] := HS150
              refine F_nil ?_
              refine L_endB hN134 ?_
              refine L_region ?_
              refine F_val rfl rfl rfl (O_add rfl rfl rfl) ?_
              refine F_val rfl rfl rfl (O_move rfl rfl) ?_
              refine F_nil ?_
              refine L_nil (fun a ha => hNp128 _ a _ (Nat.lt_succ_self _) ⟨_, _, Is.cons ha (Is.cons ha (Is.cons ha (Is.cons ha (Is.cons ha (Is.nil ha) rfl) rfl) rfl) rfl) rfl, HS150.sel [0, 1, 2] rfl, H⟩)
        · have H := of_neg H c133
          refine L_exitB (fun a w h => hOp128 (.exit 0) a w rfl (hXb84 a w h)) ?_
          refine L_nil (fun a ha => hNj12 a _ ⟨_, (Option.some.inj H).symm, Is.cons ha (Is.cons ha (Is.nil ha) rfl) rfl, HS132.sel [0, 1, 2] rfl⟩)
    · obtain ⟨y83, rfl, ha, HS155⟩ := hR
      refine wpLF_app ?_ ha
      have H := (onR_inr _ _ _).symm.trans H
      refine L_seq ?_
      refine L_region ?_
      refine F_val rfl rfl rfl (O_idxA rfl rfl rfl Try.underlying82 size3 (by decide) (by decide)) ?_
      obtain ⟨g160, H⟩ := of_gd H
      obtain ⟨l158, h159, H⟩ := of_bnd H
      refine F_stAr (E := (Eint .i64)) (xs := y83) (q := 0) (a := 0) (off := 0) 2 (rowC (Eint .i64) l158) [] [] rfl rfl rfl rfl rfl size3 HS155 rfl rfl (by simp only [List.append_assoc, List.cons_append, List.nil_append, List.append_nil]) rfl (by decide) (arr_lt g160 (by decide)) h159 (by simp only [List.append_assoc, List.cons_append, List.nil_append, List.append_nil]) (fun w156 HS157 => ?_)
      have hl161 : l158.length = 16 := by rw [← h159, List.length_set]; exact g160
      have HS157 : Hp S0 w0 w156 [.rd A_lens_0 (rowC (Eint .i64) l_lens_0), .box g3 (rowC (Eint .i64) (List.replicate 16 (0 : Int))) 82, .box g7 (rowC (Eint .i64) l158) 82] := HS157
      refine F_nil ?_
      refine L_seq ?_
      refine L_region ?_
      refine F_val rfl rfl rfl (O_loadSg [] (rowC (Eint .i64) l158) [] rfl rfl wide82 (HS157.cells_box (i := 2) rfl) (by simp only [List.append_assoc, List.cons_append, List.nil_append, List.append_nil]) rfl (row_len hl161) (by decide)) ?_
      refine F_stSg 1 (rowC (Eint .i64) l158) [] (rowC (Eint .i64) (List.replicate 16 (0 : Int))) (rowC (Eint .i64) l158) [] rfl rfl rfl rfl rfl size82 HS157 rfl rfl ones_row (by simp only [List.append_assoc, List.cons_append, List.nil_append, List.append_nil]) (by simp only [List.append_assoc, List.cons_append, List.nil_append, List.append_nil]) rfl (row_len List.length_replicate) (row_len hl161) (fun w162 HS163 => ?_)
      have HS163 : Hp S0 w0 w162 [.rd A_lens_0 (rowC (Eint .i64) l_lens_0), .box g3 (rowC (Eint .i64) l158) 82, .box g7 (rowC (Eint .i64) l158) 82] := HS163
      refine F_val rfl rfl rfl (O_assign rfl rfl) ?_
      refine F_nil ?_
      refine L_ret (fun a ha => (post_retc2 ha rfl rfl wide82 (HS163.cells_box (i := 1) rfl) (row_len hl161) (by decide) rfl ?_))
      obtain rfl := Option.some.inj H
      exact ⟨rfl, HS163.sel [] rfl⟩

/-! function 58: valise/code.shape -/
theorem code_shape.calls {S0 : Nat → Prop} {w0 : World} {l_n_0 : List Int} {r : Int} (HS0 : Hp S0 w0 w0 []) (h : code_shape.f l_n_0 = some r) :
    Calls Try.prog 58 ([.agg (rowC (Eint .i64) l_n_0).toArray] : List Value).toArray w0 (fun e w => e = .returned (.int .i64 r) ∧ Hp S0 w0 w []) := by
  have H : (((code_shape.l1 FU 0 0 1 l_n_0).bind fun (words_49, used_50) => if words_49 = 0 then (some 0) else ((if words_49 = 1 then (gd (l_n_0.length = 16) (some (decide (rd l_n_0 1 = 1)))) else (some false)).bind fun b99 => if b99 = true then (some 1) else (if 32768 < used_50 then (some 3) else (if used_50 = 32768 then (some 4) else (some 2))))) : Option (Int)) = some r := h
  refine calls_start Try.func58 rfl rfl ?_
  refine L_seq ?_
  refine L_region ?_
  refine F_box (C := rowC (Eint .i64) l_n_0) rfl rfl rfl rfl rfl rfl HS0 (fun w1 g3 HS2 => ?_)
  have HS2 : Hp S0 w0 w1 [.box g3 (rowC (Eint .i64) l_n_0) 82] := HS2
  refine F_val rfl rfl rfl (O_assign rfl rfl) ?_
  refine F_nil ?_
  refine L_seq ?_
  refine L_region ?_
  refine F_val rfl rfl rfl (O_assign rfl rfl) ?_
  refine F_val rfl rfl rfl (O_assign rfl rfl) ?_
  refine F_nil ?_
  refine L_seq ?_
  refine L_seq ?_
  refine L_region ?_
  refine F_val rfl rfl rfl (O_assign rfl rfl) ?_
  refine F_nil ?_
  obtain ⟨yj5, Hyj5, H⟩ := of_bind H
  refine L_join (fun a w => ∃ (words_49 : Int), ∃ (used_50 : Int), yj5 = (words_49, used_50) ∧ Is Try.f58.ntmps a [(1, .pointer (some ⟨g3, 0, none⟩)), (3, .int .i64 words_49), (4, .int .i64 used_50)] ∧ Hp S0 w0 w [.box g3 (rowC (Eint .i64) l_n_0) 82]) (fun Qj5 hNj5 hOj5 => ?_) (fun a w hR => ?_)
  · skip
    have H := Hyj5
    refine L_blk (fun Qb51 hNb51 hXb51 hOb51 => ?_)
    refine L_lp (fun k a w => ∃ (words_77 : Int), ∃ (used_78 : Int), ∃ (l_79 : Int), Is Try.f58.ntmps a [(1, .pointer (some ⟨g3, 0, none⟩)), (3, .int .i64 words_77), (4, .int .i64 used_78), (5, .int .i64 l_79)] ∧ Hp S0 w0 w [.box g3 (rowC (Eint .i64) l_n_0) 82] ∧ code_shape.l1 k words_77 used_78 l_79 l_n_0 = some yj5) FU (fun a ha => ⟨_, _, _, Is.cons ha (Is.cons ha (Is.cons ha (Is.cons ha (Is.nil ha) rfl) rfl) rfl) rfl, HS2.sel [0] rfl, H⟩) (fun kp76 a w80 hI Qp76 hNp76 hOp76 => ?_)
    obtain ⟨words_77, used_78, l_79, ha, HS81, HAp76⟩ := hI
    cases kp76 with
    | zero => cases (show (none : Option _) = some _ from HAp76)
    | succ kp76 =>
      have H := (code_shape.l1.eq_2 ..).symm.trans HAp76
      refine wpLF_app ?_ ha
      refine L_seq ?_
      refine L_seq ?_
      refine L_region ?_
      refine F_val rfl rfl rfl (O_move rfl rfl) ?_
      refine F_val rfl rfl rfl (O_le rfl rfl rfl) ?_
      refine F_nil ?_
      refine L_condP rfl (fun c82 => ?_) (fun c82 => ?_)
      · have H := of_pos H c82
        refine L_skip ?_
        refine L_seq ?_
        refine L_blk (fun Q83 hN83 hX83 hO83 => ?_)
        refine L_seq ?_
        refine L_region ?_
        refine F_val rfl rfl rfl (O_move rfl rfl) ?_
        refine F_val rfl rfl rfl (O_move rfl rfl) ?_
        obtain ⟨⟨g84, g85⟩, H⟩ := of_gd H
        refine F_val rfl rfl rfl (O_idxA rfl rfl rfl Try.underlying82 size3 g84 g85) ?_
        obtain ⟨g86, H⟩ := of_gd H
        refine F_val rfl rfl rfl (O_loadB rfl rfl flat3 (HS81.cells_box (i := 0) rfl) (at0 (int_cell g84 (arr_lt g86 g85)))) ?_
        refine F_val rfl rfl rfl (O_add rfl rfl rfl) ?_
        obtain ⟨x87, h88, H⟩ := of_bnd H
        refine F_val rfl rfl rfl (O_assign' rfl rfl (congrArg (Value.int .i64) h88)) ?_
        refine F_nil ?_
        refine L_region ?_
        refine F_val rfl rfl rfl (O_move rfl rfl) ?_
        refine F_val rfl rfl rfl (O_move rfl rfl) ?_
        refine F_val rfl rfl rfl (O_idxA rfl rfl rfl Try.underlying82 size3 g84 g85) ?_
        refine F_val rfl rfl rfl (O_loadB rfl rfl flat3 (HS81.cells_box (i := 0) rfl) (at0 (int_cell g84 (arr_lt g86 g85)))) ?_
        refine F_val rfl rfl rfl (O_move rfl rfl) ?_
        refine F_val rfl rfl rfl (O_sub rfl rfl rfl) ?_
        obtain ⟨g89, H⟩ := of_gd H
        refine F_val rfl rfl rfl (O_shl rfl rfl rfl g89) ?_
        refine F_val rfl rfl rfl (O_add rfl rfl rfl) ?_
        obtain ⟨x90, h91, H⟩ := of_bnd H
        refine F_val rfl rfl rfl (O_assign' rfl rfl (congrArg (Value.int .i64) h91)) ?_
        refine F_nil ?_
        refine L_endB hN83 ?_
        refine L_region ?_
        refine F_val rfl rfl rfl (O_move rfl rfl) ?_
        refine F_val rfl rfl rfl (O_add rfl rfl rfl) ?_
        obtain ⟨x92, h93, H⟩ := of_bnd H
        refine F_val rfl rfl rfl (O_assign' rfl rfl (congrArg (Value.int .i64) h93)) ?_
        refine F_nil ?_
        refine L_nil (fun a ha => hNp76 _ a _ (Nat.lt_succ_self _) ⟨_, _, _, Is.cons ha (Is.cons ha (Is.cons ha (Is.cons ha (Is.nil ha) rfl) rfl) rfl) rfl, HS81.sel [0] rfl, H⟩)
      · have H := of_neg H c82
        refine L_exitB (fun a w h => hOp76 (.exit 0) a w rfl (hXb51 a w h)) ?_
        refine L_nil (fun a ha => hNj5 a _ ⟨_, _, (Option.some.inj H).symm, Is.cons ha (Is.cons ha (Is.cons ha (Is.nil ha) rfl) rfl) rfl, HS81.sel [0] rfl⟩)
  · obtain ⟨words_49, used_50, rfl, ha, HS95⟩ := hR
    refine wpLF_app ?_ ha
    refine L_seq ?_
    refine L_blk (fun Q96 hN96 hX96 hO96 => ?_)
    refine L_seq ?_
    refine L_region ?_
    refine F_val rfl rfl rfl (O_move rfl rfl) ?_
    refine F_val rfl rfl rfl (O_eq rfl rfl rfl) ?_
    refine F_val rfl rfl rfl (O_assign rfl rfl) ?_
    refine F_nil ?_
    refine L_condP rfl (fun c97 => ?_) (fun c97 => ?_)
    · have H := of_pos H c97
      refine L_seq ?_
      refine L_region ?_
      refine F_val rfl rfl rfl (O_assign rfl rfl) ?_
      refine F_nil ?_
      refine L_ret (fun a ha => (hO96 .ret a _ rfl (post_ret1 ha rfl rfl ?_)))
      obtain rfl := Option.some.inj H
      exact ⟨rfl, HS95.sel [] rfl⟩
    · have H := of_neg H c97
      refine L_seq ?_
      refine L_region ?_
      refine F_val rfl rfl rfl (O_move rfl rfl) ?_
      refine F_val rfl rfl rfl (O_eq rfl rfl rfl) ?_
      refine F_val rfl rfl rfl (O_move rfl rfl) ?_
      obtain ⟨b99, Hb99, H⟩ := of_bind H
      refine F_grp 4 [(33, .bool b99), (4, .int .i64 used_50)] ?_ ?_
      · rcases Decidable.em (words_49 = 1) with c103 | c103
        · refine F_know (i := 29) rfl (dec_t c103) ?_
          have H := of_pos Hb99 c103
          refine F_gval rfl rfl rfl rfl rfl rfl (O_idxA rfl rfl rfl Try.underlying82 size3 (by decide) (by decide)) ?_
          obtain ⟨g104, H⟩ := of_gd H
          refine F_gval rfl rfl rfl rfl rfl rfl (O_loadB rfl rfl flat3 (HS95.cells_box (i := 0) rfl) (at0 (int_cell (by decide) (arr_lt g104 (by decide))))) ?_
          refine F_gval rfl rfl rfl rfl rfl rfl (O_eq rfl rfl rfl) ?_
          refine F_val rfl rfl rfl (O_pickT rfl rfl rfl) ?_
          refine F_know (i := 33) rfl (congrArg Value.bool (Option.some.inj H)) ?_
          exact F_grpE (fun a ha => Is.cons ha (Is.cons ha (Is.nil ha) rfl) rfl)
        · refine F_know (i := 29) rfl (dec_f c103) ?_
          have H := of_neg Hb99 c103
          refine F_gskip rfl rfl rfl rfl rfl rfl rfl ?_
          refine F_gskip rfl rfl rfl rfl rfl rfl rfl ?_
          refine F_gskip rfl rfl rfl rfl rfl rfl rfl ?_
          refine F_val rfl rfl rfl (O_pickF rfl rfl rfl) ?_
          refine F_know (i := 33) rfl (congrArg Value.bool (Option.some.inj H)) ?_
          exact F_grpE (fun a ha => Is.cons ha (Is.cons ha (Is.nil ha) rfl) rfl)
      · skip
        refine F_val rfl rfl rfl (O_assign rfl rfl) ?_
        refine F_nil ?_
        refine L_cond rfl (fun c105 => ?_) (fun c105 => ?_)
        · have H := of_pos H c105
          refine L_seq ?_
          refine L_region ?_
          refine F_val rfl rfl rfl (O_assign rfl rfl) ?_
          refine F_nil ?_
          refine L_ret (fun a ha => (hO96 .ret a _ rfl (post_ret1 ha rfl rfl ?_)))
          obtain rfl := Option.some.inj H
          exact ⟨rfl, HS95.sel [] rfl⟩
        · have H := of_neg H (by rw [c105]; exact Bool.false_ne_true)
          refine L_seq ?_
          refine L_region ?_
          refine F_val rfl rfl rfl (O_move rfl rfl) ?_
          refine F_val rfl rfl rfl (O_gt rfl rfl rfl) ?_
          refine F_val rfl rfl rfl (O_assign rfl rfl) ?_
          refine F_nil ?_
          refine L_condP rfl (fun c106 => ?_) (fun c106 => ?_)
          · have H := of_pos H c106
            refine L_seq ?_
            refine L_region ?_
            refine F_val rfl rfl rfl (O_assign rfl rfl) ?_
            refine F_nil ?_
            refine L_ret (fun a ha => (hO96 .ret a _ rfl (post_ret1 ha rfl rfl ?_)))
            obtain rfl := Option.some.inj H
            exact ⟨rfl, HS95.sel [] rfl⟩
          · have H := of_neg H c106
            refine L_seq ?_
            refine L_region ?_
            refine F_val rfl rfl rfl (O_move rfl rfl) ?_
            refine F_val rfl rfl rfl (O_eq rfl rfl rfl) ?_
            refine F_val rfl rfl rfl (O_assign rfl rfl) ?_
            refine F_nil ?_
            refine L_condP rfl (fun c107 => ?_) (fun c107 => ?_)
            · have H := of_pos H c107
              refine L_seq ?_
              refine L_region ?_
              refine F_val rfl rfl rfl (O_assign rfl rfl) ?_
              refine F_nil ?_
              refine L_ret (fun a ha => (hO96 .ret a _ rfl (post_ret1 ha rfl rfl ?_)))
              obtain rfl := Option.some.inj H
              exact ⟨rfl, HS95.sel [] rfl⟩
            · have H := of_neg H c107
              refine L_skip ?_
              refine L_endB hN96 ?_
              refine L_seq ?_
              refine L_region ?_
              refine F_val rfl rfl rfl (O_assign rfl rfl) ?_
              refine F_nil ?_
              refine L_ret (fun a ha => (post_ret1 ha rfl rfl ?_))
              obtain rfl := Option.some.inj H
              exact ⟨rfl, HS95.sel [] rfl⟩

/-! function 64: valise/code.refused -/
theorem code_refused.calls {S0 : Nat → Prop} {w0 : World} {s_0 : Int} {r : Int} (HS0 : Hp S0 w0 w0 []) (h : code_refused.f s_0 = some r) :
    Calls Try.prog 64 ([.int .i64 s_0] : List Value).toArray w0 (fun e w => e = .returned (.int .i64 r) ∧ Hp S0 w0 w []) := by
  have H : ((if s_0 = 2 then (some 52) else (if s_0 = 3 then (some 51) else (some 0))) : Option (Int)) = some r := h
  refine calls_start Try.func64 rfl rfl ?_
  refine L_seq ?_
  refine L_region ?_
  refine F_val rfl rfl rfl (O_assign rfl rfl) ?_
  refine F_nil ?_
  refine L_seq ?_
  refine L_seq ?_
  refine L_region ?_
  refine F_val rfl rfl rfl (O_move rfl rfl) ?_
  refine F_nil ?_
  refine L_blk (fun Q1 hN1 hX1 hO1 => ?_)
  refine L_seq ?_
  refine L_region ?_
  refine F_val rfl rfl rfl (O_eq rfl rfl rfl) ?_
  refine F_val rfl rfl rfl (O_assign rfl rfl) ?_
  refine F_nil ?_
  refine L_condP rfl (fun c2 => ?_) (fun c2 => ?_)
  · have H := of_pos H c2
    refine L_seq ?_
    refine L_region ?_
    refine F_val rfl rfl rfl (O_assign rfl rfl) ?_
    refine F_nil ?_
    refine L_ret (fun a ha => (hO1 .ret a _ rfl (post_ret1 ha rfl rfl ?_)))
    obtain rfl := Option.some.inj H
    exact ⟨rfl, HS0.sel [] rfl⟩
  · have H := of_neg H c2
    refine L_seq ?_
    refine L_region ?_
    refine F_val rfl rfl rfl (O_eq rfl rfl rfl) ?_
    refine F_val rfl rfl rfl (O_assign rfl rfl) ?_
    refine F_nil ?_
    refine L_condP rfl (fun c3 => ?_) (fun c3 => ?_)
    · have H := of_pos H c3
      refine L_seq ?_
      refine L_region ?_
      refine F_val rfl rfl rfl (O_assign rfl rfl) ?_
      refine F_nil ?_
      refine L_ret (fun a ha => (hO1 .ret a _ rfl (post_ret1 ha rfl rfl ?_)))
      obtain rfl := Option.some.inj H
      exact ⟨rfl, HS0.sel [] rfl⟩
    · have H := of_neg H c3
      refine L_skip ?_
      refine L_endB hN1 ?_
      refine L_seq ?_
      refine L_region ?_
      refine F_val rfl rfl rfl (O_assign rfl rfl) ?_
      refine F_nil ?_
      refine L_ret (fun a ha => (post_ret1 ha rfl rfl ?_))
      obtain rfl := Option.some.inj H
      exact ⟨rfl, HS0.sel [] rfl⟩

/-! function 62: valise/code.first -/
theorem code_first.calls {S0 : Nat → Prop} {w0 : World} {l_n_0 : List Int} {r : List Int} (HS0 : Hp S0 w0 w0 []) (h : code_first.f l_n_0 = some r) :
    Calls Try.prog 62 ([.agg (rowC (Eint .i64) l_n_0).toArray] : List Value).toArray w0 (fun e w => e = .returned (.agg (rowC (Eint .i64) r).toArray) ∧ Hp S0 w0 w []) := by
  have H : (((code_first.l1 FU (List.replicate 16 (0 : Int)) 0 1 l_n_0).bind fun y71 => gd (y71.length = 16) (some y71)) : Option (List Int)) = some r := h
  refine calls_start Try.func62 rfl rfl ?_
  refine L_seq ?_
  refine L_region ?_
  refine F_box (C := rowC (Eint .i64) l_n_0) rfl rfl rfl rfl rfl rfl HS0 (fun w1 g3 HS2 => ?_)
  have HS2 : Hp S0 w0 w1 [.box g3 (rowC (Eint .i64) l_n_0) 82] := HS2
  refine F_alloc (C := rowC (Eint .i64) (List.replicate 16 (0 : Int))) rfl rfl rfl rfl zero82 rfl HS2 (fun w5 g7 HS6 => ?_)
  have HS6 : Hp S0 w0 w5 [.box g3 (rowC (Eint .i64) l_n_0) 82, .box g7 (rowC (Eint .i64) (List.replicate 16 (0 : Int))) 82] := HS6
  refine F_nil ?_
  refine L_seq ?_
  refine L_region ?_
  refine F_alloc (C := rowC (Eint .i64) (List.replicate 16 (0 : Int))) rfl rfl rfl rfl zero82 rfl HS6 (fun w9 g11 HS10 => ?_)
  have HS10 : Hp S0 w0 w9 [.box g3 (rowC (Eint .i64) l_n_0) 82, .box g7 (rowC (Eint .i64) (List.replicate 16 (0 : Int))) 82, .box g11 (rowC (Eint .i64) (List.replicate 16 (0 : Int))) 82] := HS10
  refine F_nil ?_
  refine L_seq ?_
  refine L_region ?_
  refine F_val rfl rfl rfl (O_assign rfl rfl) ?_
  refine F_nil ?_
  refine L_seq ?_
  refine L_seq ?_
  refine L_region ?_
  refine F_val rfl rfl rfl (O_assign rfl rfl) ?_
  refine F_nil ?_
  obtain ⟨yj13, Hyj13, H⟩ := of_bind H
  refine L_join (fun a w => ∃ (y71 : List Int), yj13 = y71 ∧ Is Try.f62.ntmps a [(2, .pointer (some ⟨g7, 0, none⟩)), (3, .pointer (some ⟨g11, 0, none⟩))] ∧ Hp S0 w0 w [.box g7 (rowC (Eint .i64) (List.replicate 16 (0 : Int))) 82, .box g11 (rowC (Eint .i64) y71) 82]) (fun Qj13 hNj13 hOj13 => ?_) (fun a w hR => ?_)
  · skip
    have H := Hyj13
    refine L_blk (fun Qb72 hNb72 hXb72 hOb72 => ?_)
    refine L_lp (fun k a w => ∃ (y107 : List Int), ∃ (word_108 : Int), ∃ (l_109 : Int), Is Try.f62.ntmps a [(1, .pointer (some ⟨g3, 0, none⟩)), (2, .pointer (some ⟨g7, 0, none⟩)), (3, .pointer (some ⟨g11, 0, none⟩)), (4, .int .i64 word_108), (5, .int .i64 l_109)] ∧ Hp S0 w0 w [.box g3 (rowC (Eint .i64) l_n_0) 82, .box g7 (rowC (Eint .i64) (List.replicate 16 (0 : Int))) 82, .box g11 (rowC (Eint .i64) y107) 82] ∧ code_first.l1 k y107 word_108 l_109 l_n_0 = some yj13) FU (fun a ha => ⟨_, _, _, Is.cons ha (Is.cons ha (Is.cons ha (Is.cons ha (Is.cons ha (Is.nil ha) rfl) rfl) rfl) rfl) rfl, HS10.sel [0, 1, 2] rfl, H⟩) (fun kp106 a w110 hI Qp106 hNp106 hOp106 => ?_)
    obtain ⟨y107, word_108, l_109, ha, HS111, HAp106⟩ := hI
    cases kp106 with
    | zero => cases (show (none : Option _) = some _ from HAp106)
    | succ kp106 =>
      have H := (code_first.l1.eq_2 ..).symm.trans HAp106
      refine wpLF_app ?_ ha
      refine L_seq ?_
      refine L_seq ?_
      refine L_region ?_
      refine F_val rfl rfl rfl (O_move rfl rfl) ?_
      refine F_val rfl rfl rfl (O_le rfl rfl rfl) ?_
      refine F_nil ?_
      refine L_condP rfl (fun c112 => ?_) (fun c112 => ?_)
      · have H := of_pos H c112
        refine L_skip ?_
        refine L_seq ?_
        refine L_blk (fun Q113 hN113 hX113 hO113 => ?_)
        refine L_seq ?_
        refine L_region ?_
        refine F_val rfl rfl rfl (O_move rfl rfl) ?_
        refine F_val rfl rfl rfl (O_move rfl rfl) ?_
        refine F_val rfl rfl rfl (O_sub rfl rfl rfl) ?_
        obtain ⟨⟨g114, g115⟩, H⟩ := of_gd H
        refine F_val rfl rfl rfl (O_idxA rfl rfl rfl Try.underlying82 size3 g114 g115) ?_
        obtain ⟨g116, H⟩ := of_gd H
        refine F_val rfl rfl rfl (O_loadB rfl rfl flat3 (HS111.cells_box (i := 0) rfl) (at0 (int_cell g114 (arr_lt g116 g115)))) ?_
        refine F_val rfl rfl rfl (O_add rfl rfl rfl) ?_
        refine F_val rfl rfl rfl (O_shl rfl rfl rfl (by decide)) ?_
        obtain ⟨x117, h118, H⟩ := of_bnd H
        refine F_val rfl rfl rfl (O_assign' rfl rfl (congrArg (Value.int .i64) h118)) ?_
        refine F_nil ?_
        refine L_region ?_
        refine F_val rfl rfl rfl (O_move rfl rfl) ?_
        refine F_val rfl rfl rfl (O_move rfl rfl) ?_
        obtain ⟨⟨g119, g120⟩, H⟩ := of_gd H
        refine F_val rfl rfl rfl (O_idxA rfl rfl rfl Try.underlying82 size3 g119 g120) ?_
        obtain ⟨g125, H⟩ := of_gd H
        obtain ⟨l123, h124, H⟩ := of_bnd H
        refine F_stAr (E := (Eint .i64)) (xs := y107) (q := l_109) (a := x117) (off := 0) 2 (rowC (Eint .i64) l123) [] [] rfl rfl rfl rfl rfl size3 HS111 rfl rfl (by simp only [List.append_assoc, List.cons_append, List.nil_append, List.append_nil]) rfl g119 (arr_lt g125 g120) h124 (by simp only [List.append_assoc, List.cons_append, List.nil_append, List.append_nil]) (fun w121 HS122 => ?_)
        have hl126 : l123.length = 16 := by rw [← h124, List.length_set]; exact g125
        have HS122 : Hp S0 w0 w121 [.box g3 (rowC (Eint .i64) l_n_0) 82, .box g7 (rowC (Eint .i64) (List.replicate 16 (0 : Int))) 82, .box g11 (rowC (Eint .i64) l123) 82] := HS122
        refine F_nil ?_
        refine L_endB hN113 ?_
        refine L_region ?_
        refine F_val rfl rfl rfl (O_move rfl rfl) ?_
        refine F_val rfl rfl rfl (O_add rfl rfl rfl) ?_
        obtain ⟨x127, h128, H⟩ := of_bnd H
        refine F_val rfl rfl rfl (O_assign' rfl rfl (congrArg (Value.int .i64) h128)) ?_
        refine F_nil ?_
        refine L_nil (fun a ha => hNp106 _ a _ (Nat.lt_succ_self _) ⟨_, _, _, Is.cons ha (Is.cons ha (Is.cons ha (Is.cons ha (Is.cons ha (Is.nil ha) rfl) rfl) rfl) rfl) rfl, HS122.sel [0, 1, 2] rfl, H⟩)
      · have H := of_neg H c112
        refine L_exitB (fun a w h => hOp106 (.exit 0) a w rfl (hXb72 a w h)) ?_
        refine L_nil (fun a ha => hNj13 a _ ⟨_, (Option.some.inj H).symm, Is.cons ha (Is.cons ha (Is.nil ha) rfl) rfl, HS111.sel [1, 2] rfl⟩)
  · obtain ⟨y71, ej, ha, HS130⟩ := hR
    obtain rfl := ej.symm
    refine wpLF_app ?_ ha
    refine L_seq ?_
    refine L_region ?_
    obtain ⟨g131, H⟩ := of_gd H
    refine F_val rfl rfl rfl (O_loadSg [] (rowC (Eint .i64) y71) [] rfl rfl wide82 (HS130.cells_box (i := 1) rfl) (by simp only [List.append_assoc, List.cons_append, List.nil_append, List.append_nil]) rfl (row_len g131) (by decide)) ?_
    refine F_stSg 0 (rowC (Eint .i64) y71) [] (rowC (Eint .i64) (List.replicate 16 (0 : Int))) (rowC (Eint .i64) y71) [] rfl rfl rfl rfl rfl size82 HS130 rfl rfl ones_row (by simp only [List.append_assoc, List.cons_append, List.nil_append, List.append_nil]) (by simp only [List.append_assoc, List.cons_append, List.nil_append, List.append_nil]) rfl (row_len List.length_replicate) (row_len g131) (fun w132 HS133 => ?_)
    have HS133 : Hp S0 w0 w132 [.box g7 (rowC (Eint .i64) y71) 82, .box g11 (rowC (Eint .i64) y71) 82] := HS133
    refine F_nil ?_
    refine L_ret (fun a ha => (post_retc1 ha rfl rfl wide82 (HS133.cells_box (i := 0) rfl) (row_len g131) (by decide) ?_))
    obtain rfl := Option.some.inj H
    exact ⟨rfl, HS133.sel [] rfl⟩

/-! function 61: valise/code.words -/
theorem code_words.calls {S0 : Nat → Prop} {w0 : World} {A_lens_0 : Option Addr} {c_lens_0 : Nat} {l_lens_0 : List Int} {l_next_1 : List Int} {r : List Int} (HS0 : Hp S0 w0 w0 [.rd A_lens_0 (rowC (Eint .i64) l_lens_0)]) (hc_lens_0 : l_lens_0.length ≤ c_lens_0) (h : code_words.f l_lens_0 l_next_1 = some r) :
    Calls Try.prog 61 ([.slice A_lens_0 l_lens_0.length c_lens_0, .agg (rowC (Eint .i64) l_next_1).toArray] : List Value).toArray w0 (fun e w => ∃ (A1 : Option Addr), ∃ (c1 : Nat), e = .returned (.slice A1 r.length c1) ∧ Hp S0 w0 w [.own A1 c1 (rowC (Eint .i64) r) 3 (Eint .i64).sz]) := by
  have H : ((gd ((0 : Int) ≤ (l_lens_0.length : Int) ∧ (l_lens_0.length : Int) * 8 ≤ 281474976710656) (bnd (List.replicate ((l_lens_0.length : Int) : Int).toNat (0 : Int)) fun l9 => (code_words.l1 FU l9 l_next_1 0 l_lens_0).bind fun l154 => some l154)) : Option (List Int)) = some r := h
  refine calls_start Try.func61 rfl rfl ?_
  refine L_seq ?_
  refine L_region ?_
  refine F_box (C := rowC (Eint .i64) l_next_1) rfl rfl rfl rfl rfl rfl HS0 (fun w1 g3 HS2 => ?_)
  have HS2 : Hp S0 w0 w1 [.rd A_lens_0 (rowC (Eint .i64) l_lens_0), .box g3 (rowC (Eint .i64) l_next_1) 82] := HS2
  refine F_val rfl rfl rfl (O_assign rfl rfl) ?_
  refine F_nil ?_
  refine L_seq ?_
  refine L_region ?_
  refine F_val rfl rfl rfl (O_move rfl rfl) ?_
  refine F_val rfl rfl rfl (O_len rfl rfl Try.underlying22) ?_
  obtain ⟨⟨g7, g8⟩, H⟩ := of_gd H
  obtain ⟨l9, h10, H⟩ := of_bnd H
  refine F_makeE (E := (Eint .i64)) rfl rfl rfl rfl rfl rfl Try.underlying22 info3 rfl (by decide) (by decide) g7 g8 HS2 h10 (fun w5 A11 c12 HS6 => ?_)
  have HS6 : Hp S0 w0 w5 [.rd A_lens_0 (rowC (Eint .i64) l_lens_0), .box g3 (rowC (Eint .i64) l_next_1) 82, .own A11 c12 (rowC (Eint .i64) l9) 3 (Eint .i64).sz] := HS6
  refine F_val rfl rfl rfl (O_assign rfl rfl) ?_
  refine F_nil ?_
  refine L_seq ?_
  refine L_seq ?_
  refine L_region ?_
  refine F_val rfl rfl rfl (O_move rfl rfl) ?_
  refine F_val rfl rfl rfl (O_len rfl rfl Try.underlying22) ?_
  refine F_val rfl rfl rfl (O_move rfl rfl) ?_
  refine F_nil ?_
  obtain ⟨yj14, Hyj14, H⟩ := of_bind H
  refine L_join (fun a w => ∃ (l154 : List Int), yj14 = l154 ∧ Is Try.f61.ntmps a [(5, .slice A11 l154.length c12)] ∧ Hp S0 w0 w [.rd A_lens_0 (rowC (Eint .i64) l_lens_0), .own A11 c12 (rowC (Eint .i64) l154) 3 (Eint .i64).sz]) (fun Qj14 hNj14 hOj14 => ?_) (fun a w hR => ?_)
  · skip
    have H := Hyj14
    refine L_blk (fun Qb155 hNb155 hXb155 hOb155 => ?_)
    refine L_lp (fun k a w => ∃ (l246 : List Int), ∃ (y247 : List Int), ∃ (t248 : Int), Is Try.f61.ntmps a [(3, .pointer (some ⟨g3, 0, none⟩)), (5, .slice A11 l246.length c12), (11, .slice A_lens_0 l_lens_0.length c_lens_0), (12, .int .i64 (l_lens_0.length : Int)), (13, .int .i64 t248)] ∧ Hp S0 w0 w [.rd A_lens_0 (rowC (Eint .i64) l_lens_0), .box g3 (rowC (Eint .i64) y247) 82, .own A11 c12 (rowC (Eint .i64) l246) 3 (Eint .i64).sz] ∧ code_words.l1 k l246 y247 t248 l_lens_0 = some yj14) FU (fun a ha => ⟨_, _, _, Is.cons ha (Is.cons ha (Is.cons ha (Is.cons ha (Is.cons ha (Is.nil ha) rfl) rfl) rfl) rfl) rfl, HS6.sel [0, 1, 2] rfl, H⟩) (fun kp245 a w249 hI Qp245 hNp245 hOp245 => ?_)
    obtain ⟨l246, y247, t248, ha, HS250, HAp245⟩ := hI
    cases kp245 with
    | zero => cases (show (none : Option _) = some _ from HAp245)
    | succ kp245 =>
      have H := (code_words.l1.eq_2 ..).symm.trans HAp245
      refine wpLF_app ?_ ha
      refine L_seq ?_
      refine L_region ?_
      refine F_val rfl rfl rfl (O_lt rfl rfl rfl) ?_
      refine F_nil ?_
      refine L_seq ?_
      refine L_condP rfl (fun c251 => ?_) (fun c251 => ?_)
      · have H := of_pos H c251
        refine L_skip ?_
        refine L_seq ?_
        refine L_blk (fun Q252 hN252 hX252 hO252 => ?_)
        refine L_seq ?_
        refine L_region ?_
        refine F_val rfl rfl rfl (O_move rfl rfl) ?_
        obtain ⟨⟨g253, g254⟩, H⟩ := of_gd H
        refine F_val rfl rfl rfl (O_idx rfl rfl rfl Try.underlying22 size3 g253 g254 (Cells.isA (HS250.cells_rd (i := 0) rfl) (rowC_ne (E := (Eint .i64)) g253 g254 (by decide)))) ?_
        refine F_val rfl rfl rfl (O_loadC rfl rfl flat3 (HS250.cells_rd (i := 0) rfl) (int_cell g253 g254)) ?_
        refine F_val rfl rfl rfl (O_assign rfl rfl) ?_
        obtain ⟨x255, h256, H⟩ := of_bnd H
        refine F_val rfl rfl rfl (O_assign' rfl rfl (congrArg (Value.int .i64) h256)) ?_
        refine F_nil ?_
        refine L_seq ?_
        refine L_region ?_
        refine F_val rfl rfl rfl (O_move rfl rfl) ?_
        refine F_val rfl rfl rfl (O_gt rfl rfl rfl) ?_
        refine F_nil ?_
        obtain ⟨yj257, Hyj257, H⟩ := of_bind H
        refine L_join (fun a w => ∃ (l274 : List Int), ∃ (y275 : List Int), yj257 = (l274, y275) ∧ Is Try.f61.ntmps a [(3, .pointer (some ⟨g3, 0, none⟩)), (5, .slice A11 l274.length c12), (11, .slice A_lens_0 l_lens_0.length c_lens_0), (12, .int .i64 (l_lens_0.length : Int)), (13, .int .i64 t248)] ∧ Hp S0 w0 w [.rd A_lens_0 (rowC (Eint .i64) l_lens_0), .box g3 (rowC (Eint .i64) y275) 82, .own A11 c12 (rowC (Eint .i64) l274) 3 (Eint .i64).sz]) (fun Qj257 hNj257 hOj257 => ?_) (fun a w hR => ?_)
        · skip
          have H := Hyj257
          refine L_condP rfl (fun c276 => ?_) (fun c276 => ?_)
          · have H := of_pos H c276
            refine L_seq ?_
            refine L_region ?_
            refine F_val rfl rfl rfl (O_move rfl rfl) ?_
            refine F_val rfl rfl rfl (O_move rfl rfl) ?_
            refine F_val rfl rfl rfl (O_move rfl rfl) ?_
            obtain ⟨⟨g277, g278⟩, H⟩ := of_gd H
            refine F_val rfl rfl rfl (O_idxA rfl rfl rfl Try.underlying82 size3 g277 g278) ?_
            obtain ⟨g279, H⟩ := of_gd H
            refine F_val rfl rfl rfl (O_loadB rfl rfl flat3 (HS250.cells_box (i := 1) rfl) (at0 (int_cell g277 (arr_lt g279 g278)))) ?_
            obtain ⟨⟨g280, g281⟩, H⟩ := of_gd H
            refine F_val rfl rfl rfl (O_idx rfl rfl rfl Try.underlying22 size3 g280 g281 (Cells.isA (HS250.cells_own (i := 2) rfl) (rowC_ne (E := (Eint .i64)) g280 g281 (by decide)))) ?_
            obtain ⟨l284, h285, H⟩ := of_bnd H
            refine F_setE (E := (Eint .i64)) (i := 2) (a := rd y247 x255) (q := t248) rfl rfl rfl rfl rfl rfl size3 HS250 rfl (by decide) g280 g281 h285 (fun w282 HS283 => ?_)
            have e286 : l246.length = l284.length := by rw [← h285, List.length_set]
            refine F_know (i := 5) rfl (congrArg (fun n => Value.slice A11 n c12) e286) ?_
            have HS283 : Hp S0 w0 w282 [.rd A_lens_0 (rowC (Eint .i64) l_lens_0), .box g3 (rowC (Eint .i64) y247) 82, .own A11 c12 (rowC (Eint .i64) l284) 3 (Eint .i64).sz] := HS283
            refine F_nil ?_
            refine L_region ?_
            refine F_val rfl rfl rfl (O_move rfl rfl) ?_
            refine F_val rfl rfl rfl (O_idxA rfl rfl rfl Try.underlying82 size3 g277 g278) ?_
            refine F_val rfl rfl rfl (O_loadB rfl rfl flat3 (HS283.cells_box (i := 1) rfl) (at0 (int_cell g277 (arr_lt g279 g278)))) ?_
            refine F_val rfl rfl rfl (O_add rfl rfl rfl) ?_
            refine F_val rfl rfl rfl (O_idxA rfl rfl rfl Try.underlying82 size3 g277 g278) ?_
            obtain ⟨l289, h290, H⟩ := of_bnd H
            refine F_stAr (E := (Eint .i64)) (xs := y247) (q := x255) (a := IntKind.i64.wrap ((rd y247 x255) + 1)) (off := 0) 1 (rowC (Eint .i64) l289) [] [] rfl rfl rfl rfl rfl size3 HS283 rfl rfl (by simp only [List.append_assoc, List.cons_append, List.nil_append, List.append_nil]) rfl g277 (arr_lt g279 g278) h290 (by simp only [List.append_assoc, List.cons_append, List.nil_append, List.append_nil]) (fun w287 HS288 => ?_)
            have hl291 : l289.length = 16 := by rw [← h290, List.length_set]; exact g279
            have HS288 : Hp S0 w0 w287 [.rd A_lens_0 (rowC (Eint .i64) l_lens_0), .box g3 (rowC (Eint .i64) l289) 82, .own A11 c12 (rowC (Eint .i64) l284) 3 (Eint .i64).sz] := HS288
            refine F_nil ?_
            refine L_nil (fun a ha => hNj257 a _ ⟨_, _, (Option.some.inj H).symm, Is.cons ha (Is.cons ha (Is.cons ha (Is.cons ha (Is.cons ha (Is.nil ha) rfl) rfl) rfl) rfl) rfl, HS288.sel [0, 1, 2] rfl⟩)
          · have H := of_neg H c276
            refine L_skip ?_
            refine L_nil (fun a ha => hNj257 a _ ⟨_, _, (Option.some.inj H).symm, Is.cons ha (Is.cons ha (Is.cons ha (Is.cons ha (Is.cons ha (Is.nil ha) rfl) rfl) rfl) rfl) rfl, HS250.sel [0, 1, 2] rfl⟩)
        · obtain ⟨l274, y275, rfl, ha, HS293⟩ := hR
          refine wpLF_app ?_ ha
          refine L_endB hN252 ?_
          refine L_region ?_
          refine F_val rfl rfl rfl (O_add rfl rfl rfl) ?_
          refine F_val rfl rfl rfl (O_move rfl rfl) ?_
          refine F_nil ?_
          refine L_nil (fun a ha => hNp245 _ a _ (Nat.lt_succ_self _) ⟨_, _, _, Is.cons ha (Is.cons ha (Is.cons ha (Is.cons ha (Is.cons ha (Is.nil ha) rfl) rfl) rfl) rfl) rfl, HS293.sel [0, 1, 2] rfl, H⟩)
      · have H := of_neg H c251
        refine L_exitB (fun a w h => hOp245 (.exit 0) a w rfl (hXb155 a w h)) ?_
        refine L_nil (fun a ha => hNj14 a _ ⟨_, (Option.some.inj H).symm, Is.cons ha (Is.nil ha) rfl, HS250.sel [0, 2] rfl⟩)
  · obtain ⟨l154, ej, ha, HS295⟩ := hR
    obtain rfl := ej.symm
    refine wpLF_app ?_ ha
    refine L_seq ?_
    refine L_region ?_
    refine F_val rfl rfl rfl (O_move rfl rfl) ?_
    refine F_val rfl rfl rfl (O_assign rfl rfl) ?_
    refine F_nil ?_
    refine L_ret (fun a ha => (post_ret1 ha rfl rfl ?_))
    obtain rfl := Option.some.inj H
    exact ⟨_, _, rfl, HS295.sel [1] rfl⟩

/-! function 65: valise/code.makeTable -/
theorem code_makeTable.calls {S0 : Nat → Prop} {w0 : World} {A_lens_0 : Option Addr} {c_lens_0 : Nat} {l_lens_0 : List Int} {l_counts_1 : List Int} {r : (List Int × List Int × List Int × List Int)} (HS0 : Hp S0 w0 w0 [.rd A_lens_0 (rowC (Eint .i64) l_lens_0)]) (hc_lens_0 : l_lens_0.length ≤ c_lens_0) (h : code_makeTable.f l_lens_0 l_counts_1 = some r) :
    Calls Try.prog 65 ([.slice A_lens_0 l_lens_0.length c_lens_0, .agg (rowC (Eint .i64) l_counts_1).toArray] : List Value).toArray w0 (fun e w => ∃ (A1_0 : Option Addr), ∃ (c1_0 : Nat), ∃ (A1_1 : Option Addr), ∃ (c1_1 : Nat), e = .returned (.agg (([.slice A1_0 r.1.length c1_0, .slice A1_1 r.2.1.length c1_1] : List Value) ++ rowC (Eint .i64) r.2.2.1 ++ rowC (Eint .i64) r.2.2.2).toArray) ∧ Hp S0 w0 w [.own A1_0 c1_0 (rowC (Eint .i64) r.1) 3 (Eint .i64).sz, .own A1_1 c1_1 (rowC (Eint .i64) r.2.1) 3 (Eint .i64).sz]) := by
  have H : ((gd (l_counts_1.length = 16) ((code_first.f l_counts_1).bind fun z14 => gd (z14.length = 16) (bnd (([] : List Int) ++ l_lens_0) fun l53 => gd ((l53.length : Int) * 8 ≤ 140737488355328) ((code_words.f l_lens_0 z14).bind fun z62 => some (l53, z62, l_counts_1, z14))))) : Option ((List Int × List Int × List Int × List Int))) = some r := h
  refine calls_start Try.func65 rfl rfl ?_
  refine L_seq ?_
  refine L_region ?_
  refine F_box (C := rowC (Eint .i64) l_counts_1) rfl rfl rfl rfl rfl rfl HS0 (fun w1 g3 HS2 => ?_)
  have HS2 : Hp S0 w0 w1 [.rd A_lens_0 (rowC (Eint .i64) l_lens_0), .box g3 (rowC (Eint .i64) l_counts_1) 82] := HS2
  refine F_alloc (C := ([.slice none 0 0, .slice none 0 0] : List Value) ++ rowC (Eint .i64) (List.replicate 16 (0 : Int)) ++ rowC (Eint .i64) (List.replicate 16 (0 : Int))) rfl rfl rfl rfl zero91 rfl HS2 (fun w5 g7 HS6 => ?_)
  have HS6 : Hp S0 w0 w5 [.rd A_lens_0 (rowC (Eint .i64) l_lens_0), .box g3 (rowC (Eint .i64) l_counts_1) 82, .box g7 (([.slice none 0 0, .slice none 0 0] : List Value) ++ rowC (Eint .i64) (List.replicate 16 (0 : Int)) ++ rowC (Eint .i64) (List.replicate 16 (0 : Int))) 91] := HS6
  refine F_nil ?_
  refine L_seq ?_
  refine L_region ?_
  obtain ⟨g9, H⟩ := of_gd H
  refine F_val rfl rfl rfl (O_loadSg [] (rowC (Eint .i64) l_counts_1) [] rfl rfl wide82 (HS6.cells_box (i := 1) rfl) (by simp only [List.append_assoc, List.cons_append, List.nil_append, List.append_nil]) rfl (row_len g9) (by decide)) ?_
  obtain ⟨z14, h13, H⟩ := of_bind H
  refine F_call (xs := [.tmp 6]) rfl rfl rfl rfl Try.func62 nm62 rfl rfl ((code_first.calls (HS6.give [] rfl (Lent.nil)) h13).mono (fun e w hc => ?_))
  obtain ⟨rfl, HSo⟩ := hc
  refine ⟨.agg (rowC (Eint .i64) z14).toArray, rfl, ?_⟩
  have HS16 : Hp S0 w0 w [.rd A_lens_0 (rowC (Eint .i64) l_lens_0), .box g3 (rowC (Eint .i64) l_counts_1) 82, .box g7 (([.slice none 0 0, .slice none 0 0] : List Value) ++ rowC (Eint .i64) (List.replicate 16 (0 : Int)) ++ rowC (Eint .i64) (List.replicate 16 (0 : Int))) 91] := (HS6.back [] HSo rfl).sel [0, 1, 2] rfl
  refine F_alloc (C := rowC (Eint .i64) (List.replicate 16 (0 : Int))) rfl rfl rfl rfl zero82 rfl HS16 (fun w17 g19 HS18 => ?_)
  have HS18 : Hp S0 w0 w17 [.rd A_lens_0 (rowC (Eint .i64) l_lens_0), .box g3 (rowC (Eint .i64) l_counts_1) 82, .box g7 (([.slice none 0 0, .slice none 0 0] : List Value) ++ rowC (Eint .i64) (List.replicate 16 (0 : Int)) ++ rowC (Eint .i64) (List.replicate 16 (0 : Int))) 91, .box g19 (rowC (Eint .i64) (List.replicate 16 (0 : Int))) 82] := HS18
  obtain ⟨g23, H⟩ := of_gd H
  refine F_stSg 3 (rowC (Eint .i64) z14) [] (rowC (Eint .i64) (List.replicate 16 (0 : Int))) (rowC (Eint .i64) z14) [] rfl rfl rfl rfl rfl size82 HS18 rfl rfl ones_row (by simp only [List.append_assoc, List.cons_append, List.nil_append, List.append_nil]) (by simp only [List.append_assoc, List.cons_append, List.nil_append, List.append_nil]) rfl (row_len List.length_replicate) (row_len g23) (fun w21 HS22 => ?_)
  have HS22 : Hp S0 w0 w21 [.rd A_lens_0 (rowC (Eint .i64) l_lens_0), .box g3 (rowC (Eint .i64) l_counts_1) 82, .box g7 (([.slice none 0 0, .slice none 0 0] : List Value) ++ rowC (Eint .i64) (List.replicate 16 (0 : Int)) ++ rowC (Eint .i64) (List.replicate 16 (0 : Int))) 91, .box g19 (rowC (Eint .i64) z14) 82] := HS22
  refine F_nil ?_
  refine L_seq ?_
  refine L_heldS 8 1 [8] mix rfl (fun w45 hw46 => ?_)
  have HS47 := HS22.keep hw46
  refine ⟨HS47.turns [], ?_⟩
  have HR48 : Hp (HS47.ft []) w45 w45 [.rd A_lens_0 (rowC (Eint .i64) l_lens_0), .rd (some ⟨g3, 0, none⟩) (rowC (Eint .i64) l_counts_1), .rd (some ⟨g7, 0, none⟩) (([.slice none 0 0, .slice none 0 0] : List Value) ++ rowC (Eint .i64) (List.replicate 16 (0 : Int)) ++ rowC (Eint .i64) (List.replicate 16 (0 : Int))), .rd (some ⟨g19, 0, none⟩) (rowC (Eint .i64) z14)] := HS47.give [] rfl (Lent.rd HS47 (Lent.box HS47 (Lent.box HS47 (Lent.box HS47 (Lent.nil) (i := 3) rfl rfl (HS47.cells_box (i := 3) rfl).self) (i := 2) rfl rfl (HS47.cells_box (i := 2) rfl).self) (i := 1) rfl rfl (HS47.cells_box (i := 1) rfl).self) (i := 0) rfl (HS47.cells_rd (i := 0) rfl).self)
  refine H_val (i := 0) rfl (by kernel_rfl) (by kernel_rfl) (by kernel_rfl) (by kernel_rfl) rfl rfl rfl (Chg.refl _ _) (fun wq hq => O_move rfl rfl) ?_
  refine H_val (i := 2) rfl (by kernel_rfl) (by kernel_rfl) (by kernel_rfl) (by kernel_rfl) rfl rfl rfl (Chg.refl _ _) (fun wq hq => O_move rfl rfl) ?_
  refine H_val (i := 3) rfl (by kernel_rfl) (by kernel_rfl) (by kernel_rfl) (by kernel_rfl) rfl rfl rfl (Chg.refl _ _) (fun wq hq => O_loadSg [] (rowC (Eint .i64) z14) [] rfl rfl wide82 ((HS47.keepT [] hq).cells_box (i := 3) rfl) (by simp only [List.append_assoc, List.cons_append, List.nil_append, List.append_nil]) rfl (row_len g23) (by decide)) ?_
  refine H_val (i := 5) rfl (by kernel_rfl) (by kernel_rfl) (by kernel_rfl) (by kernel_rfl) rfl rfl rfl (Chg.refl _ _) (fun wq hq => O_loadSg [] (rowC (Eint .i64) l_counts_1) [] rfl rfl wide82 ((HS47.keepT [] hq).cells_box (i := 1) rfl) (by simp only [List.append_assoc, List.cons_append, List.nil_append, List.append_nil]) rfl (row_len g9) (by decide)) ?_
  refine H_val (i := 6) rfl (by kernel_rfl) (by kernel_rfl) (by kernel_rfl) (by kernel_rfl) rfl rfl rfl (Chg.refl _ _) (fun wq hq => O_loadSg [] (rowC (Eint .i64) z14) [] rfl rfl wide82 ((HS47.keepT [] hq).cells_box (i := 3) rfl) (by simp only [List.append_assoc, List.cons_append, List.nil_append, List.append_nil]) rfl (row_len g23) (by decide)) ?_
  refine H_one (i := 1) rfl (by kernel_rfl) (by kernel_rfl) ?_
  have HS51 := HR48.addNil 3 (Eint .i64).sz
  have HS51 : Hp (HS47.ft []) w45 w45 [.rd A_lens_0 (rowC (Eint .i64) l_lens_0), .rd (some ⟨g3, 0, none⟩) (rowC (Eint .i64) l_counts_1), .rd (some ⟨g7, 0, none⟩) (([.slice none 0 0, .slice none 0 0] : List Value) ++ rowC (Eint .i64) (List.replicate 16 (0 : Int)) ++ rowC (Eint .i64) (List.replicate 16 (0 : Int))), .rd (some ⟨g19, 0, none⟩) (rowC (Eint .i64) z14), .own none 0 (rowC (Eint .i64) ([] : List Int)) 3 (Eint .i64).sz] := HS51
  obtain ⟨l53, h54, H⟩ := of_bnd H
  obtain ⟨g55, H⟩ := of_gd H
  refine F_appE (E := (Eint .i64)) (xs := ([] : List Int)) (ys := l_lens_0) (i := 4) rfl rfl rfl rfl Try.underlying22 info3 rfl (by decide) (by decide) rfl rfl HS51 rfl (HS51.cells_rd (i := 0) rfl) h54 g55 (fun w49 A56 c57 HS50 => ?_)
  have HS50 : Hp (HS47.ft []) w45 w49 [.rd A_lens_0 (rowC (Eint .i64) l_lens_0), .rd (some ⟨g3, 0, none⟩) (rowC (Eint .i64) l_counts_1), .rd (some ⟨g7, 0, none⟩) (([.slice none 0 0, .slice none 0 0] : List Value) ++ rowC (Eint .i64) (List.replicate 16 (0 : Int)) ++ rowC (Eint .i64) (List.replicate 16 (0 : Int))), .rd (some ⟨g19, 0, none⟩) (rowC (Eint .i64) z14), .own A56 c57 (rowC (Eint .i64) l53) 3 (Eint .i64).sz] := HS50
  refine H_next HS50.chg ?_
  refine H_one (i := 4) rfl (by kernel_rfl) (by kernel_rfl) ?_
  obtain ⟨z62, h61, H⟩ := of_bind H
  refine F_call (xs := [.tmp 10, .tmp 11]) rfl rfl rfl rfl Try.func61 nm61 rfl rfl ((code_words.calls (HS50.give [] rfl (Lent.rd HS50 (Lent.nil) (i := 0) rfl ((HS50.cells_rd (i := 0) rfl).self))) hc_lens_0 h61).mono (fun e w hc => ?_))
  obtain ⟨A65, c66, rfl, HSo⟩ := hc
  refine ⟨.slice A65 z62.length c66, rfl, ?_⟩
  have HS64 : Hp (HS47.ft []) w45 w [.rd A_lens_0 (rowC (Eint .i64) l_lens_0), .rd (some ⟨g3, 0, none⟩) (rowC (Eint .i64) l_counts_1), .rd (some ⟨g7, 0, none⟩) (([.slice none 0 0, .slice none 0 0] : List Value) ++ rowC (Eint .i64) (List.replicate 16 (0 : Int)) ++ rowC (Eint .i64) (List.replicate 16 (0 : Int))), .rd (some ⟨g19, 0, none⟩) (rowC (Eint .i64) z14), .own A56 c57 (rowC (Eint .i64) l53) 3 (Eint .i64).sz, .own A65 c66 (rowC (Eint .i64) z62) 3 (Eint .i64).sz] := (HS50.back [] HSo rfl).sel [0, 1, 2, 3, 4, 5] rfl
  refine H_next HS64.chg ?_
  refine H_val (i := 7) rfl (by kernel_rfl) (by kernel_rfl) (by kernel_rfl) (by kernel_rfl) rfl rfl rfl HS64.chg (fun wq hq => O_buildS (C := ([.slice A56 l53.length c57, .slice A65 z62.length c66] : List Value) ++ rowC (Eint .i64) l_counts_1 ++ rowC (Eint .i64) z14) [(0, .slice A56 l53.length c57), (1, .slice A65 z62.length c66), (2, .agg (rowC (Eint .i64) l_counts_1).toArray), (3, .agg (rowC (Eint .i64) z14).toArray)] rfl rfl rfl struct91 (Fills.cons [] [.slice none 0 0] [.slice A56 l53.length c57] [.slice none 0 0, .int .i64 0, .int .i64 0, .int .i64 0, .int .i64 0, .int .i64 0, .int .i64 0, .int .i64 0, .int .i64 0, .int .i64 0, .int .i64 0, .int .i64 0, .int .i64 0, .int .i64 0, .int .i64 0, .int .i64 0, .int .i64 0, .int .i64 0, .int .i64 0, .int .i64 0, .int .i64 0, .int .i64 0, .int .i64 0, .int .i64 0, .int .i64 0, .int .i64 0, .int .i64 0, .int .i64 0, .int .i64 0, .int .i64 0, .int .i64 0, .int .i64 0, .int .i64 0] [.slice A56 l53.length c57, .slice none 0 0, .int .i64 0, .int .i64 0, .int .i64 0, .int .i64 0, .int .i64 0, .int .i64 0, .int .i64 0, .int .i64 0, .int .i64 0, .int .i64 0, .int .i64 0, .int .i64 0, .int .i64 0, .int .i64 0, .int .i64 0, .int .i64 0, .int .i64 0, .int .i64 0, .int .i64 0, .int .i64 0, .int .i64 0, .int .i64 0, .int .i64 0, .int .i64 0, .int .i64 0, .int .i64 0, .int .i64 0, .int .i64 0, .int .i64 0, .int .i64 0, .int .i64 0, .int .i64 0] rfl (by simp only [List.append_assoc, List.cons_append, List.nil_append, List.append_nil]) rfl rfl rfl rfl (by simp only [List.append_assoc, List.cons_append, List.nil_append, List.append_nil]) (Fills.cons [.slice A56 l53.length c57] [.slice none 0 0] [.slice A65 z62.length c66] [.int .i64 0, .int .i64 0, .int .i64 0, .int .i64 0, .int .i64 0, .int .i64 0, .int .i64 0, .int .i64 0, .int .i64 0, .int .i64 0, .int .i64 0, .int .i64 0, .int .i64 0, .int .i64 0, .int .i64 0, .int .i64 0, .int .i64 0, .int .i64 0, .int .i64 0, .int .i64 0, .int .i64 0, .int .i64 0, .int .i64 0, .int .i64 0, .int .i64 0, .int .i64 0, .int .i64 0, .int .i64 0, .int .i64 0, .int .i64 0, .int .i64 0, .int .i64 0] [.slice A56 l53.length c57, .slice A65 z62.length c66, .int .i64 0, .int .i64 0, .int .i64 0, .int .i64 0, .int .i64 0, .int .i64 0, .int .i64 0, .int .i64 0, .int .i64 0, .int .i64 0, .int .i64 0, .int .i64 0, .int .i64 0, .int .i64 0, .int .i64 0, .int .i64 0, .int .i64 0, .int .i64 0, .int .i64 0, .int .i64 0, .int .i64 0, .int .i64 0, .int .i64 0, .int .i64 0, .int .i64 0, .int .i64 0, .int .i64 0, .int .i64 0, .int .i64 0, .int .i64 0, .int .i64 0, .int .i64 0] rfl (by simp only [List.append_assoc, List.cons_append, List.nil_append, List.append_nil]) rfl rfl rfl rfl (by simp only [List.append_assoc, List.cons_append, List.nil_append, List.append_nil]) (Fills.cons [.slice A56 l53.length c57, .slice A65 z62.length c66] [.int .i64 0, .int .i64 0, .int .i64 0, .int .i64 0, .int .i64 0, .int .i64 0, .int .i64 0, .int .i64 0, .int .i64 0, .int .i64 0, .int .i64 0, .int .i64 0, .int .i64 0, .int .i64 0, .int .i64 0, .int .i64 0] (rowC (Eint .i64) l_counts_1) [.int .i64 0, .int .i64 0, .int .i64 0, .int .i64 0, .int .i64 0, .int .i64 0, .int .i64 0, .int .i64 0, .int .i64 0, .int .i64 0, .int .i64 0, .int .i64 0, .int .i64 0, .int .i64 0, .int .i64 0, .int .i64 0] (([.slice A56 l53.length c57, .slice A65 z62.length c66] : List Value) ++ rowC (Eint .i64) l_counts_1 ++ ([.int .i64 0, .int .i64 0, .int .i64 0, .int .i64 0, .int .i64 0, .int .i64 0, .int .i64 0, .int .i64 0, .int .i64 0, .int .i64 0, .int .i64 0, .int .i64 0, .int .i64 0, .int .i64 0, .int .i64 0, .int .i64 0] : List Value)) rfl (by simp only [List.append_assoc, List.cons_append, List.nil_append, List.append_nil]) rfl rfl rfl (row_len g9) (by simp only [List.append_assoc, List.cons_append, List.nil_append, List.append_nil]) (Fills.cons (([.slice A56 l53.length c57, .slice A65 z62.length c66] : List Value) ++ rowC (Eint .i64) l_counts_1) [.int .i64 0, .int .i64 0, .int .i64 0, .int .i64 0, .int .i64 0, .int .i64 0, .int .i64 0, .int .i64 0, .int .i64 0, .int .i64 0, .int .i64 0, .int .i64 0, .int .i64 0, .int .i64 0, .int .i64 0, .int .i64 0] (rowC (Eint .i64) z14) [] (([.slice A56 l53.length c57, .slice A65 z62.length c66] : List Value) ++ rowC (Eint .i64) l_counts_1 ++ rowC (Eint .i64) z14) rfl (by simp only [List.append_assoc, List.cons_append, List.nil_append, List.append_nil]) (app_len rfl (row_len g9) rfl) rfl rfl (row_len g23) (by simp only [List.append_assoc, List.cons_append, List.nil_append, List.append_nil]) (Fills.nil _)))))) ?_
  refine H_end (by kernel_rfl) ?_
  have HS68 : Hp S0 w0 w [.rd A_lens_0 (rowC (Eint .i64) l_lens_0), .box g3 (rowC (Eint .i64) l_counts_1) 82, .box g7 (([.slice none 0 0, .slice none 0 0] : List Value) ++ rowC (Eint .i64) (List.replicate 16 (0 : Int)) ++ rowC (Eint .i64) (List.replicate 16 (0 : Int))) 91, .box g19 (rowC (Eint .i64) z14) 82, .own A56 c57 (rowC (Eint .i64) l53) 3 (Eint .i64).sz, .own A65 c66 (rowC (Eint .i64) z62) 3 (Eint .i64).sz] := (HS47.back [] (HS64.sel [4, 5] rfl) rfl).sel [0, 1, 2, 3, 4, 5] rfl
  refine T_one (i := 8) rfl (by kernel_rfl) ?_
  refine F_stSg 2 (([.slice A56 l53.length c57, .slice A65 z62.length c66] : List Value) ++ rowC (Eint .i64) l_counts_1 ++ rowC (Eint .i64) z14) [] (([.slice none 0 0, .slice none 0 0] : List Value) ++ rowC (Eint .i64) (List.replicate 16 (0 : Int)) ++ rowC (Eint .i64) (List.replicate 16 (0 : Int))) (([.slice A56 l53.length c57, .slice A65 z62.length c66] : List Value) ++ rowC (Eint .i64) l_counts_1 ++ rowC (Eint .i64) z14) [] rfl rfl rfl rfl rfl size91 HS68 rfl rfl (ones_app (ones_app (ones_lit rfl) ones_row) ones_row) (by simp only [List.append_assoc, List.cons_append, List.nil_append, List.append_nil]) (by simp only [List.append_assoc, List.cons_append, List.nil_append, List.append_nil]) rfl (app_len (app_len rfl (row_len List.length_replicate) rfl) (row_len List.length_replicate) rfl) (app_len (app_len rfl (row_len g9) rfl) (row_len g23) rfl) (fun w69 HS70 => ?_)
  have HS70 : Hp S0 w0 w69 [.rd A_lens_0 (rowC (Eint .i64) l_lens_0), .box g3 (rowC (Eint .i64) l_counts_1) 82, .box g7 (([.slice A56 l53.length c57, .slice A65 z62.length c66] : List Value) ++ rowC (Eint .i64) l_counts_1 ++ rowC (Eint .i64) z14) 91, .box g19 (rowC (Eint .i64) z14) 82, .own A56 c57 (rowC (Eint .i64) l53) 3 (Eint .i64).sz, .own A65 c66 (rowC (Eint .i64) z62) 3 (Eint .i64).sz] := HS70
  refine T_next ?_
  refine T_done (by kernel_rfl) ?_
  refine L_ret (fun a ha => (post_retc1 ha rfl rfl wide91 (HS70.cells_box (i := 2) rfl) (app_len (app_len rfl (row_len g9) rfl) (row_len g23) rfl) (by decide) ?_))
  obtain rfl := Option.some.inj H
  exact ⟨_, _, _, _, rfl, HS70.sel [4, 5] rfl⟩

/-! function 30: valise/code.NewEncoder -/
theorem code_NewEncoder.calls {S0 : Nat → Prop} {w0 : World} {A_lens_0 : Option Addr} {c_lens_0 : Nat} {l_lens_0 : List Int} {r : Option (List Int × List Int × List Int × List Int) × Int} (HS0 : Hp S0 w0 w0 [.rd A_lens_0 (rowC (Eint .i64) l_lens_0)]) (hc_lens_0 : l_lens_0.length ≤ c_lens_0) (h : code_NewEncoder.f l_lens_0 = some r) :
    Calls Try.prog 30 ([.slice A_lens_0 l_lens_0.length c_lens_0] : List Value).toArray w0 (fun e w => match r.1 with | none => e = .returned (.tuple #[.pointer none, .int .i64 r.2]) ∧ Hp S0 w0 w [] | some x => ∃ (g0 : Nat), ∃ (A0_0 : Option Addr), ∃ (c0_0 : Nat), ∃ (A0_1 : Option Addr), ∃ (c0_1 : Nat), e = .returned (.tuple #[.pointer (some ⟨g0, 0, none⟩), .int .i64 r.2]) ∧ Hp S0 w0 w [.box g0 (([.slice A0_0 x.1.length c0_0, .slice A0_1 x.2.1.length c0_1] : List Value) ++ rowC (Eint .i64) x.2.2.1 ++ rowC (Eint .i64) x.2.2.2) 94, .own A0_0 c0_0 (rowC (Eint .i64) x.1) 3 (Eint .i64).sz, .own A0_1 c0_1 (rowC (Eint .i64) x.2.1) 3 (Eint .i64).sz]) := by
  have H : (((code_count.f l_lens_0).bind fun (z5, z6) => gd (z5.length = 16) (if z6 ≠ 0 then (some (none, z6)) else ((code_shape.f z5).bind fun z19 => (code_refused.f z19).bind fun z25 => if z25 ≠ 0 then (some (none, z25)) else ((code_makeTable.f l_lens_0 z5).bind fun (z34, z35, z36, z37) => gd (z36.length = 16) (gd (z37.length = 16) (some (some (z34, z35, z36, z37), 0))))))) : Option (Option (List Int × List Int × List Int × List Int) × Int)) = some r := h
  refine calls_start Try.func30 rfl rfl ?_
  refine L_seq ?_
  refine L_region ?_
  refine F_val rfl rfl rfl (O_assign rfl rfl) ?_
  refine F_val rfl rfl rfl (O_assign rfl rfl) ?_
  refine F_nil ?_
  refine L_seq ?_
  refine L_region ?_
  refine F_val rfl rfl rfl (O_move rfl rfl) ?_
  obtain ⟨⟨z5, z6⟩, h4, H⟩ := of_bind H
  refine F_call (xs := [.tmp 7]) rfl rfl rfl rfl Try.func57 nm57 rfl rfl ((code_count.calls (HS0.give [] rfl (Lent.rd HS0 (Lent.nil) (i := 0) rfl ((HS0.cells_rd (i := 0) rfl).self))) hc_lens_0 h4).mono (fun e w hc => ?_))
  obtain ⟨rfl, HSo⟩ := hc
  refine ⟨.tuple #[.agg (rowC (Eint .i64) z5).toArray, .int .i64 z6], rfl, ?_⟩
  have HS8 : Hp S0 w0 w [.rd A_lens_0 (rowC (Eint .i64) l_lens_0)] := (HS0.back [] HSo rfl).sel [0] rfl
  refine F_val rfl rfl rfl (O_move rfl rfl) ?_
  refine F_val rfl rfl rfl (O_extract (v := .agg (rowC (Eint .i64) z5).toArray) rfl rfl rfl) ?_
  refine F_val rfl rfl rfl (O_extract (v := .int .i64 z6) rfl rfl rfl) ?_
  refine F_alloc (C := rowC (Eint .i64) (List.replicate 16 (0 : Int))) rfl rfl rfl rfl zero82 rfl HS8 (fun w9 g11 HS10 => ?_)
  have HS10 : Hp S0 w0 w9 [.rd A_lens_0 (rowC (Eint .i64) l_lens_0), .box g11 (rowC (Eint .i64) (List.replicate 16 (0 : Int))) 82] := HS10
  obtain ⟨g15, H⟩ := of_gd H
  refine F_stSg 1 (rowC (Eint .i64) z5) [] (rowC (Eint .i64) (List.replicate 16 (0 : Int))) (rowC (Eint .i64) z5) [] rfl rfl rfl rfl rfl size82 HS10 rfl rfl ones_row (by simp only [List.append_assoc, List.cons_append, List.nil_append, List.append_nil]) (by simp only [List.append_assoc, List.cons_append, List.nil_append, List.append_nil]) rfl (row_len List.length_replicate) (row_len g15) (fun w13 HS14 => ?_)
  have HS14 : Hp S0 w0 w13 [.rd A_lens_0 (rowC (Eint .i64) l_lens_0), .box g11 (rowC (Eint .i64) z5) 82] := HS14
  refine F_val rfl rfl rfl (O_assign rfl rfl) ?_
  refine F_nil ?_
  refine L_seq ?_
  refine L_seq ?_
  refine L_region ?_
  refine F_val rfl rfl rfl (O_move rfl rfl) ?_
  refine F_val rfl rfl rfl (O_ne rfl rfl rfl) ?_
  refine F_nil ?_
  refine L_condP rfl (fun c16 => ?_) (fun c16 => ?_)
  · have H := of_pos H c16
    refine L_seq ?_
    refine L_region ?_
    refine F_val rfl rfl rfl (O_move rfl rfl) ?_
    refine F_val rfl rfl rfl (O_assign rfl rfl) ?_
    refine F_val rfl rfl rfl (O_assign rfl rfl) ?_
    refine F_nil ?_
    refine L_ret (fun a ha => (post_ret2 ha rfl rfl rfl ?_))
    obtain rfl := Option.some.inj H
    exact ⟨rfl, HS14.sel [] rfl⟩
  · have H := of_neg H c16
    refine L_skip ?_
    refine L_seq ?_
    refine L_seq ?_
    refine L_region ?_
    refine F_val rfl rfl rfl (O_loadSg [] (rowC (Eint .i64) z5) [] rfl rfl wide82 (HS14.cells_box (i := 1) rfl) (by simp only [List.append_assoc, List.cons_append, List.nil_append, List.append_nil]) rfl (row_len g15) (by decide)) ?_
    obtain ⟨z19, h18, H⟩ := of_bind H
    refine F_qcall (v := .int .i64 z19) (xs := [.tmp 14]) rfl rfl rfl rfl Try.func58 nm58 rfl rfl ((code_shape.calls (HS14.give [] rfl (Lent.nil)) h18).mono (fun e w hc => ?_)) (fun w20 hw21 => ?_)
    · obtain ⟨rfl, h⟩ := hc
      exact ⟨rfl, h.chg0⟩
    have HS22 := HS14.keep hw21
    obtain ⟨z25, h24, H⟩ := of_bind H
    refine F_qcall (v := .int .i64 z25) (xs := [.tmp 15]) rfl rfl rfl rfl Try.func64 nm64 rfl rfl ((code_refused.calls (HS22.give [] rfl (Lent.nil)) h24).mono (fun e w hc => ?_)) (fun w26 hw27 => ?_)
    · obtain ⟨rfl, h⟩ := hc
      exact ⟨rfl, h.chg0⟩
    have HS28 := HS22.keep hw27
    refine F_val rfl rfl rfl (O_assign rfl rfl) ?_
    refine F_nil ?_
    refine L_seq ?_
    refine L_region ?_
    refine F_val rfl rfl rfl (O_move rfl rfl) ?_
    refine F_val rfl rfl rfl (O_ne rfl rfl rfl) ?_
    refine F_nil ?_
    refine L_condP rfl (fun c29 => ?_) (fun c29 => ?_)
    · have H := of_pos H c29
      refine L_seq ?_
      refine L_region ?_
      refine F_val rfl rfl rfl (O_move rfl rfl) ?_
      refine F_val rfl rfl rfl (O_assign rfl rfl) ?_
      refine F_val rfl rfl rfl (O_assign rfl rfl) ?_
      refine F_nil ?_
      refine L_ret (fun a ha => (post_ret2 ha rfl rfl rfl ?_))
      obtain rfl := Option.some.inj H
      exact ⟨rfl, HS28.sel [] rfl⟩
    · have H := of_neg H c29
      refine L_skip ?_
      refine L_seq ?_
      refine L_region ?_
      refine F_val rfl rfl rfl (O_move rfl rfl) ?_
      refine F_val rfl rfl rfl (O_loadSg [] (rowC (Eint .i64) z5) [] rfl rfl wide82 (HS28.cells_box (i := 1) rfl) (by simp only [List.append_assoc, List.cons_append, List.nil_append, List.append_nil]) rfl (row_len g15) (by decide)) ?_
      obtain ⟨⟨z34, z35, z36, z37⟩, h33, H⟩ := of_bind H
      refine F_call (xs := [.tmp 20, .tmp 21]) rfl rfl rfl rfl Try.func65 nm65 rfl rfl ((code_makeTable.calls (HS28.give [] rfl (Lent.rd HS28 (Lent.nil) (i := 0) rfl ((HS28.cells_rd (i := 0) rfl).self))) hc_lens_0 h33).mono (fun e w hc => ?_))
      obtain ⟨A40, c41, A43, c44, rfl, HSo⟩ := hc
      refine ⟨.agg (([.slice A40 z34.length c41, .slice A43 z35.length c44] : List Value) ++ rowC (Eint .i64) z36 ++ rowC (Eint .i64) z37).toArray, rfl, ?_⟩
      have HS39 : Hp S0 w0 w [.rd A_lens_0 (rowC (Eint .i64) l_lens_0), .box g11 (rowC (Eint .i64) z5) 82, .own A40 c41 (rowC (Eint .i64) z34) 3 (Eint .i64).sz, .own A43 c44 (rowC (Eint .i64) z35) 3 (Eint .i64).sz] := (HS28.back [] HSo rfl).sel [0, 1, 2, 3] rfl
      obtain ⟨g46, H⟩ := of_gd H
      obtain ⟨g47, H⟩ := of_gd H
      refine F_val rfl rfl rfl (O_buildS (C := ([.slice A40 z34.length c41, .slice A43 z35.length c44] : List Value) ++ rowC (Eint .i64) z36 ++ rowC (Eint .i64) z37) [(0, .agg (([.slice A40 z34.length c41, .slice A43 z35.length c44] : List Value) ++ rowC (Eint .i64) z36 ++ rowC (Eint .i64) z37).toArray)] rfl rfl rfl struct94 (Fills.cons [] [.slice none 0 0, .slice none 0 0, .int .i64 0, .int .i64 0, .int .i64 0, .int .i64 0, .int .i64 0, .int .i64 0, .int .i64 0, .int .i64 0, .int .i64 0, .int .i64 0, .int .i64 0, .int .i64 0, .int .i64 0, .int .i64 0, .int .i64 0, .int .i64 0, .int .i64 0, .int .i64 0, .int .i64 0, .int .i64 0, .int .i64 0, .int .i64 0, .int .i64 0, .int .i64 0, .int .i64 0, .int .i64 0, .int .i64 0, .int .i64 0, .int .i64 0, .int .i64 0, .int .i64 0, .int .i64 0] (([.slice A40 z34.length c41, .slice A43 z35.length c44] : List Value) ++ rowC (Eint .i64) z36 ++ rowC (Eint .i64) z37) [] (([.slice A40 z34.length c41, .slice A43 z35.length c44] : List Value) ++ rowC (Eint .i64) z36 ++ rowC (Eint .i64) z37) rfl (by simp only [List.append_assoc, List.cons_append, List.nil_append, List.append_nil]) rfl rfl rfl (app_len (app_len rfl (row_len g46) rfl) (row_len g47) rfl) (by simp only [List.append_assoc, List.cons_append, List.nil_append, List.append_nil]) (Fills.nil _))) ?_
      refine F_box (C := ([.slice A40 z34.length c41, .slice A43 z35.length c44] : List Value) ++ rowC (Eint .i64) z36 ++ rowC (Eint .i64) z37) rfl rfl rfl rfl rfl rfl HS39 (fun w48 g50 HS49 => ?_)
      have HS49 : Hp S0 w0 w48 [.rd A_lens_0 (rowC (Eint .i64) l_lens_0), .box g11 (rowC (Eint .i64) z5) 82, .own A40 c41 (rowC (Eint .i64) z34) 3 (Eint .i64).sz, .own A43 c44 (rowC (Eint .i64) z35) 3 (Eint .i64).sz, .box g50 (([.slice A40 z34.length c41, .slice A43 z35.length c44] : List Value) ++ rowC (Eint .i64) z36 ++ rowC (Eint .i64) z37) 94] := HS49
      refine F_val rfl rfl rfl (O_assign rfl rfl) ?_
      refine F_val rfl rfl rfl (O_assign rfl rfl) ?_
      refine F_nil ?_
      refine L_ret (fun a ha => (post_ret2 ha rfl rfl rfl ?_))
      obtain rfl := Option.some.inj H
      exact ⟨_, _, _, _, _, rfl, HS49.sel [4, 2, 3] rfl⟩

/-! function 45: valise/code.NewDecoder -/
theorem code_NewDecoder.calls {S0 : Nat → Prop} {w0 : World} {A_lens_0 : Option Addr} {c_lens_0 : Nat} {l_lens_0 : List Int} {r : Option (List Int × List Int × List Int × List Int × List Int) × Int} (HS0 : Hp S0 w0 w0 [.rd A_lens_0 (rowC (Eint .i64) l_lens_0)]) (hc_lens_0 : l_lens_0.length ≤ c_lens_0) (h : code_NewDecoder.f l_lens_0 = some r) :
    Calls Try.prog 45 ([.slice A_lens_0 l_lens_0.length c_lens_0] : List Value).toArray w0 (fun e w => match r.1 with | none => e = .returned (.tuple #[.pointer none, .int .i64 r.2]) ∧ Hp S0 w0 w [] | some x => ∃ (g0 : Nat), ∃ (A0_0 : Option Addr), ∃ (c0_0 : Nat), ∃ (A0_1 : Option Addr), ∃ (c0_1 : Nat), ∃ (A0_4 : Option Addr), ∃ (c0_4 : Nat), e = .returned (.tuple #[.pointer (some ⟨g0, 0, none⟩), .int .i64 r.2]) ∧ Hp S0 w0 w [.box g0 (([.slice A0_0 x.1.length c0_0, .slice A0_1 x.2.1.length c0_1] : List Value) ++ rowC (Eint .i64) x.2.2.1 ++ rowC (Eint .i64) x.2.2.2.1 ++ ([.slice A0_4 x.2.2.2.2.length c0_4] : List Value)) 108, .own A0_0 c0_0 (rowC (Eint .i64) x.1) 3 (Eint .i64).sz, .own A0_1 c0_1 (rowC (Eint .i64) x.2.1) 3 (Eint .i64).sz, .own A0_4 c0_4 (rowC (Eint .i64) x.2.2.2.2) 3 (Eint .i64).sz]) := by
  have H : (((code_count.f l_lens_0).bind fun (z5, z6) => gd (z5.length = 16) (if z6 ≠ 0 then (some (none, z6)) else ((code_shape.f z5).bind fun z19 => if z19 = 0 then (some (none, 53)) else ((code_refused.f z19).bind fun z26 => if z26 ≠ 0 then (some (none, z26)) else ((code_makeTable.f l_lens_0 z5).bind fun (z35, z36, z37, z38) => gd (z37.length = 16) (gd (z38.length = 16) ((code_NewDecoder.l11 FU ([] : List Int) 1 z35).bind fun l927 => some (some (z35, z36, z37, z38, l927), 0)))))))) : Option (Option (List Int × List Int × List Int × List Int × List Int) × Int)) = some r := h
  refine calls_start Try.func45 rfl rfl ?_
  refine L_seq ?_
  refine L_region ?_
  refine F_val rfl rfl rfl (O_assign rfl rfl) ?_
  refine F_val rfl rfl rfl (O_assign rfl rfl) ?_
  refine F_nil ?_
  refine L_seq ?_
  refine L_region ?_
  refine F_val rfl rfl rfl (O_move rfl rfl) ?_
  obtain ⟨⟨z5, z6⟩, h4, H⟩ := of_bind H
  refine F_call (xs := [.tmp 12]) rfl rfl rfl rfl Try.func57 nm57 rfl rfl ((code_count.calls (HS0.give [] rfl (Lent.rd HS0 (Lent.nil) (i := 0) rfl ((HS0.cells_rd (i := 0) rfl).self))) hc_lens_0 h4).mono (fun e w hc => ?_))
  obtain ⟨rfl, HSo⟩ := hc
  refine ⟨.tuple #[.agg (rowC (Eint .i64) z5).toArray, .int .i64 z6], rfl, ?_⟩
  have HS8 : Hp S0 w0 w [.rd A_lens_0 (rowC (Eint .i64) l_lens_0)] := (HS0.back [] HSo rfl).sel [0] rfl
  refine F_val rfl rfl rfl (O_move rfl rfl) ?_
  refine F_val rfl rfl rfl (O_extract (v := .agg (rowC (Eint .i64) z5).toArray) rfl rfl rfl) ?_
  refine F_val rfl rfl rfl (O_extract (v := .int .i64 z6) rfl rfl rfl) ?_
  refine F_alloc (C := rowC (Eint .i64) (List.replicate 16 (0 : Int))) rfl rfl rfl rfl zero82 rfl HS8 (fun w9 g11 HS10 => ?_)
  have HS10 : Hp S0 w0 w9 [.rd A_lens_0 (rowC (Eint .i64) l_lens_0), .box g11 (rowC (Eint .i64) (List.replicate 16 (0 : Int))) 82] := HS10
  obtain ⟨g15, H⟩ := of_gd H
  refine F_stSg 1 (rowC (Eint .i64) z5) [] (rowC (Eint .i64) (List.replicate 16 (0 : Int))) (rowC (Eint .i64) z5) [] rfl rfl rfl rfl rfl size82 HS10 rfl rfl ones_row (by simp only [List.append_assoc, List.cons_append, List.nil_append, List.append_nil]) (by simp only [List.append_assoc, List.cons_append, List.nil_append, List.append_nil]) rfl (row_len List.length_replicate) (row_len g15) (fun w13 HS14 => ?_)
  have HS14 : Hp S0 w0 w13 [.rd A_lens_0 (rowC (Eint .i64) l_lens_0), .box g11 (rowC (Eint .i64) z5) 82] := HS14
  refine F_val rfl rfl rfl (O_assign rfl rfl) ?_
  refine F_nil ?_
  refine L_seq ?_
  refine L_seq ?_
  refine L_region ?_
  refine F_val rfl rfl rfl (O_move rfl rfl) ?_
  refine F_val rfl rfl rfl (O_ne rfl rfl rfl) ?_
  refine F_nil ?_
  refine L_condP rfl (fun c16 => ?_) (fun c16 => ?_)
  · have H := of_pos H c16
    refine L_seq ?_
    refine L_region ?_
    refine F_val rfl rfl rfl (O_move rfl rfl) ?_
    refine F_val rfl rfl rfl (O_assign rfl rfl) ?_
    refine F_val rfl rfl rfl (O_assign rfl rfl) ?_
    refine F_nil ?_
    refine L_ret (fun a ha => (post_ret2 ha rfl rfl rfl ?_))
    obtain rfl := Option.some.inj H
    exact ⟨rfl, HS14.sel [] rfl⟩
  · have H := of_neg H c16
    refine L_skip ?_
    refine L_seq ?_
    refine L_region ?_
    refine F_val rfl rfl rfl (O_loadSg [] (rowC (Eint .i64) z5) [] rfl rfl wide82 (HS14.cells_box (i := 1) rfl) (by simp only [List.append_assoc, List.cons_append, List.nil_append, List.append_nil]) rfl (row_len g15) (by decide)) ?_
    obtain ⟨z19, h18, H⟩ := of_bind H
    refine F_qcall (v := .int .i64 z19) (xs := [.tmp 19]) rfl rfl rfl rfl Try.func58 nm58 rfl rfl ((code_shape.calls (HS14.give [] rfl (Lent.nil)) h18).mono (fun e w hc => ?_)) (fun w20 hw21 => ?_)
    · obtain ⟨rfl, h⟩ := hc
      exact ⟨rfl, h.chg0⟩
    have HS22 := HS14.keep hw21
    refine F_val rfl rfl rfl (O_assign rfl rfl) ?_
    refine F_nil ?_
    refine L_seq ?_
    refine L_seq ?_
    refine L_region ?_
    refine F_val rfl rfl rfl (O_move rfl rfl) ?_
    refine F_val rfl rfl rfl (O_eq rfl rfl rfl) ?_
    refine F_nil ?_
    refine L_condP rfl (fun c23 => ?_) (fun c23 => ?_)
    · have H := of_pos H c23
      refine L_seq ?_
      refine L_region ?_
      refine F_val rfl rfl rfl (O_assign rfl rfl) ?_
      refine F_val rfl rfl rfl (O_assign rfl rfl) ?_
      refine F_nil ?_
      refine L_ret (fun a ha => (post_ret2 ha rfl rfl rfl ?_))
      obtain rfl := Option.some.inj H
      exact ⟨rfl, HS22.sel [] rfl⟩
    · have H := of_neg H c23
      refine L_skip ?_
      refine L_seq ?_
      refine L_seq ?_
      refine L_region ?_
      refine F_val rfl rfl rfl (O_move rfl rfl) ?_
      obtain ⟨z26, h25, H⟩ := of_bind H
      refine F_qcall (v := .int .i64 z26) (xs := [.tmp 23]) rfl rfl rfl rfl Try.func64 nm64 rfl rfl ((code_refused.calls (HS22.give [] rfl (Lent.nil)) h25).mono (fun e w hc => ?_)) (fun w27 hw28 => ?_)
      · obtain ⟨rfl, h⟩ := hc
        exact ⟨rfl, h.chg0⟩
      have HS29 := HS22.keep hw28
      refine F_val rfl rfl rfl (O_assign rfl rfl) ?_
      refine F_nil ?_
      refine L_seq ?_
      refine L_region ?_
      refine F_val rfl rfl rfl (O_move rfl rfl) ?_
      refine F_val rfl rfl rfl (O_ne rfl rfl rfl) ?_
      refine F_nil ?_
      refine L_condP rfl (fun c30 => ?_) (fun c30 => ?_)
      · have H := of_pos H c30
        refine L_seq ?_
        refine L_region ?_
        refine F_val rfl rfl rfl (O_move rfl rfl) ?_
        refine F_val rfl rfl rfl (O_assign rfl rfl) ?_
        refine F_val rfl rfl rfl (O_assign rfl rfl) ?_
        refine F_nil ?_
        refine L_ret (fun a ha => (post_ret2 ha rfl rfl rfl ?_))
        obtain rfl := Option.some.inj H
        exact ⟨rfl, HS29.sel [] rfl⟩
      · have H := of_neg H c30
        refine L_skip ?_
        refine L_seq ?_
        refine L_region ?_
        refine F_val rfl rfl rfl (O_move rfl rfl) ?_
        refine F_val rfl rfl rfl (O_loadSg [] (rowC (Eint .i64) z5) [] rfl rfl wide82 (HS29.cells_box (i := 1) rfl) (by simp only [List.append_assoc, List.cons_append, List.nil_append, List.append_nil]) rfl (row_len g15) (by decide)) ?_
        obtain ⟨⟨z35, z36, z37, z38⟩, h34, H⟩ := of_bind H
        refine F_call (xs := [.tmp 28, .tmp 29]) rfl rfl rfl rfl Try.func65 nm65 rfl rfl ((code_makeTable.calls (HS29.give [] rfl (Lent.rd HS29 (Lent.nil) (i := 0) rfl ((HS29.cells_rd (i := 0) rfl).self))) hc_lens_0 h34).mono (fun e w hc => ?_))
        obtain ⟨A41, c42, A44, c45, rfl, HSo⟩ := hc
        refine ⟨.agg (([.slice A41 z35.length c42, .slice A44 z36.length c45] : List Value) ++ rowC (Eint .i64) z37 ++ rowC (Eint .i64) z38).toArray, rfl, ?_⟩
        have HS40 : Hp S0 w0 w [.rd A_lens_0 (rowC (Eint .i64) l_lens_0), .box g11 (rowC (Eint .i64) z5) 82, .own A41 c42 (rowC (Eint .i64) z35) 3 (Eint .i64).sz, .own A44 c45 (rowC (Eint .i64) z36) 3 (Eint .i64).sz] := (HS29.back [] HSo rfl).sel [0, 1, 2, 3] rfl
        obtain ⟨g47, H⟩ := of_gd H
        obtain ⟨g48, H⟩ := of_gd H
        refine F_val rfl rfl rfl (O_buildS (C := ([.slice A41 z35.length c42, .slice A44 z36.length c45] : List Value) ++ rowC (Eint .i64) z37 ++ rowC (Eint .i64) z38 ++ ([.slice none 0 0] : List Value)) [(0, .agg (([.slice A41 z35.length c42, .slice A44 z36.length c45] : List Value) ++ rowC (Eint .i64) z37 ++ rowC (Eint .i64) z38).toArray)] rfl rfl rfl struct108 (Fills.cons [] [.slice none 0 0, .slice none 0 0, .int .i64 0, .int .i64 0, .int .i64 0, .int .i64 0, .int .i64 0, .int .i64 0, .int .i64 0, .int .i64 0, .int .i64 0, .int .i64 0, .int .i64 0, .int .i64 0, .int .i64 0, .int .i64 0, .int .i64 0, .int .i64 0, .int .i64 0, .int .i64 0, .int .i64 0, .int .i64 0, .int .i64 0, .int .i64 0, .int .i64 0, .int .i64 0, .int .i64 0, .int .i64 0, .int .i64 0, .int .i64 0, .int .i64 0, .int .i64 0, .int .i64 0, .int .i64 0] (([.slice A41 z35.length c42, .slice A44 z36.length c45] : List Value) ++ rowC (Eint .i64) z37 ++ rowC (Eint .i64) z38) [.slice none 0 0] (([.slice A41 z35.length c42, .slice A44 z36.length c45] : List Value) ++ rowC (Eint .i64) z37 ++ rowC (Eint .i64) z38 ++ ([.slice none 0 0] : List Value)) rfl (by simp only [List.append_assoc, List.cons_append, List.nil_append, List.append_nil]) rfl rfl rfl (app_len (app_len rfl (row_len g47) rfl) (row_len g48) rfl) (by simp only [List.append_assoc, List.cons_append, List.nil_append, List.append_nil]) (Fills.nil _))) ?_
        have HS53 := HS40.addNil 3 (Eint .i64).sz
        have HS53 : Hp S0 w0 w [.rd A_lens_0 (rowC (Eint .i64) l_lens_0), .box g11 (rowC (Eint .i64) z5) 82, .own A41 c42 (rowC (Eint .i64) z35) 3 (Eint .i64).sz, .own A44 c45 (rowC (Eint .i64) z36) 3 (Eint .i64).sz, .own none 0 (rowC (Eint .i64) ([] : List Int)) 3 (Eint .i64).sz] := HS53
        refine F_box (C := ([.slice A41 z35.length c42, .slice A44 z36.length c45] : List Value) ++ rowC (Eint .i64) z37 ++ rowC (Eint .i64) z38 ++ ([.slice none ([] : List Int).length 0] : List Value)) rfl rfl rfl rfl rfl rfl HS53 (fun w49 g51 HS50 => ?_)
        have HS50 : Hp S0 w0 w49 [.rd A_lens_0 (rowC (Eint .i64) l_lens_0), .box g11 (rowC (Eint .i64) z5) 82, .own A41 c42 (rowC (Eint .i64) z35) 3 (Eint .i64).sz, .own A44 c45 (rowC (Eint .i64) z36) 3 (Eint .i64).sz, .own none 0 (rowC (Eint .i64) ([] : List Int)) 3 (Eint .i64).sz, .box g51 (([.slice A41 z35.length c42, .slice A44 z36.length c45] : List Value) ++ rowC (Eint .i64) z37 ++ rowC (Eint .i64) z38 ++ ([.slice none ([] : List Int).length 0] : List Value)) 108] := HS50
        refine F_val rfl rfl rfl (O_assign rfl rfl) ?_
        refine F_nil ?_
        refine L_seq ?_
        refine L_seq ?_
        refine L_region ?_
        refine F_val rfl rfl rfl (O_assign rfl rfl) ?_
        refine F_nil ?_
        obtain ⟨yj55, Hyj55, H⟩ := of_bind H
        refine L_join (fun a w => ∃ (l927 : List Int), ∃ (A925 : Option Addr), ∃ (c926 : Nat), yj55 = l927 ∧ Is Try.f45.ntmps a [(7, .pointer (some ⟨g51, 0, none⟩))] ∧ Hp S0 w0 w [.rd A_lens_0 (rowC (Eint .i64) l_lens_0), .box g51 (([.slice A41 z35.length c42, .slice A44 z36.length c45] : List Value) ++ rowC (Eint .i64) z37 ++ rowC (Eint .i64) z38 ++ ([.slice A925 l927.length c926] : List Value)) 108, .own A41 c42 (rowC (Eint .i64) z35) 3 (Eint .i64).sz, .own A44 c45 (rowC (Eint .i64) z36) 3 (Eint .i64).sz, .own A925 c926 (rowC (Eint .i64) l927) 3 (Eint .i64).sz]) (fun Qj55 hNj55 hOj55 => ?_) (fun a w hR => ?_)
        · skip
          have H := Hyj55
          refine L_blk (fun Qb928 hNb928 hXb928 hOb928 => ?_)
          refine L_lp (fun k a w => ∃ (l1507 : List Int), ∃ (l_1508 : Int), ∃ (A1505 : Option Addr), ∃ (c1506 : Nat), Is Try.f45.ntmps a [(7, .pointer (some ⟨g51, 0, none⟩)), (8, .int .i64 l_1508)] ∧ Hp S0 w0 w [.rd A_lens_0 (rowC (Eint .i64) l_lens_0), .box g51 (([.slice A41 z35.length c42, .slice A44 z36.length c45] : List Value) ++ rowC (Eint .i64) z37 ++ rowC (Eint .i64) z38 ++ ([.slice A1505 l1507.length c1506] : List Value)) 108, .own A41 c42 (rowC (Eint .i64) z35) 3 (Eint .i64).sz, .own A44 c45 (rowC (Eint .i64) z36) 3 (Eint .i64).sz, .own A1505 c1506 (rowC (Eint .i64) l1507) 3 (Eint .i64).sz] ∧ code_NewDecoder.l11 k l1507 l_1508 z35 = some yj55) FU (fun a ha => ⟨_, _, _, _, Is.cons ha (Is.cons ha (Is.nil ha) rfl) rfl, HS50.sel [0, 5, 2, 3, 4] rfl, H⟩) (fun kp1504 a w1509 hI Qp1504 hNp1504 hOp1504 => ?_)
          obtain ⟨l1507, l_1508, A1505, c1506, ha, HS1510, HAp1504⟩ := hI
          cases kp1504 with
          | zero => cases (show (none : Option _) = some _ from HAp1504)
          | succ kp1504 =>
            have H := (code_NewDecoder.l11.eq_2 ..).symm.trans HAp1504
            refine wpLF_app ?_ ha
            refine L_seq ?_
            refine L_seq ?_
            refine L_region ?_
            refine F_val rfl rfl rfl (O_move rfl rfl) ?_
            refine F_val rfl rfl rfl (O_le rfl rfl rfl) ?_
            refine F_nil ?_
            refine L_condP rfl (fun c1511 => ?_) (fun c1511 => ?_)
            · have H := of_pos H c1511
              refine L_skip ?_
              refine L_seq ?_
              refine L_blk (fun Q1512 hN1512 hX1512 hO1512 => ?_)
              refine L_seq ?_
              refine L_region ?_
              refine F_val rfl rfl rfl (O_move rfl rfl) ?_
              refine F_val rfl rfl rfl (O_nilCheck rfl rfl) ?_
              refine F_val rfl rfl rfl (O_fieldB rfl rfl field108_0) ?_
              refine F_val rfl rfl rfl (O_fieldB rfl rfl field91_0) ?_
              refine F_val rfl rfl rfl (O_loadB rfl rfl flat22 (HS1510.cells_box (i := 1) rfl) (cell_seg (j := 0) [] [.slice A41 z35.length c42] (([.slice A44 z36.length c45] : List Value) ++ rowC (Eint .i64) z37 ++ rowC (Eint .i64) z38 ++ ([.slice A1505 l1507.length c1506] : List Value)) (by simp only [List.append_assoc, List.cons_append, List.nil_append, List.append_nil]) rfl rfl)) ?_
              refine F_val rfl rfl rfl (O_len rfl rfl Try.underlying22) ?_
              refine F_val rfl rfl rfl (O_move rfl rfl) ?_
              refine F_nil ?_
              obtain ⟨yj1513, Hyj1513, H⟩ := of_bind H
              refine L_join (fun a w => ∃ (l1654 : List Int), ∃ (A1652 : Option Addr), ∃ (c1653 : Nat), yj1513 = l1654 ∧ Is Try.f45.ntmps a [(7, .pointer (some ⟨g51, 0, none⟩)), (8, .int .i64 l_1508)] ∧ Hp S0 w0 w [.rd A_lens_0 (rowC (Eint .i64) l_lens_0), .box g51 (([.slice A41 z35.length c42, .slice A44 z36.length c45] : List Value) ++ rowC (Eint .i64) z37 ++ rowC (Eint .i64) z38 ++ ([.slice A1652 l1654.length c1653] : List Value)) 108, .own A41 c42 (rowC (Eint .i64) z35) 3 (Eint .i64).sz, .own A44 c45 (rowC (Eint .i64) z36) 3 (Eint .i64).sz, .own A1652 c1653 (rowC (Eint .i64) l1654) 3 (Eint .i64).sz]) (fun Qj1513 hNj1513 hOj1513 => ?_) (fun a w hR => ?_)
              · skip
                have H := Hyj1513
                refine L_blk (fun Qb1655 hNb1655 hXb1655 hOb1655 => ?_)
                refine L_lp (fun k a w => ∃ (l1747 : List Int), ∃ (t1748 : Int), ∃ (A1745 : Option Addr), ∃ (c1746 : Nat), Is Try.f45.ntmps a [(7, .pointer (some ⟨g51, 0, none⟩)), (8, .int .i64 l_1508), (41, .slice A41 z35.length c42), (42, .int .i64 (z35.length : Int)), (43, .int .i64 t1748)] ∧ Hp S0 w0 w [.rd A_lens_0 (rowC (Eint .i64) l_lens_0), .box g51 (([.slice A41 z35.length c42, .slice A44 z36.length c45] : List Value) ++ rowC (Eint .i64) z37 ++ rowC (Eint .i64) z38 ++ ([.slice A1745 l1747.length c1746] : List Value)) 108, .own A41 c42 (rowC (Eint .i64) z35) 3 (Eint .i64).sz, .own A44 c45 (rowC (Eint .i64) z36) 3 (Eint .i64).sz, .own A1745 c1746 (rowC (Eint .i64) l1747) 3 (Eint .i64).sz] ∧ code_NewDecoder.l13 k l1747 t1748 z35 l_1508 = some yj1513) FU (fun a ha => ⟨_, _, _, _, Is.cons ha (Is.cons ha (Is.cons ha (Is.cons ha (Is.cons ha (Is.nil ha) rfl) rfl) rfl) rfl) rfl, HS1510.sel [0, 1, 2, 3, 4] rfl, H⟩) (fun kp1744 a w1749 hI Qp1744 hNp1744 hOp1744 => ?_)
                obtain ⟨l1747, t1748, A1745, c1746, ha, HS1750, HAp1744⟩ := hI
                cases kp1744 with
                | zero => cases (show (none : Option _) = some _ from HAp1744)
                | succ kp1744 =>
                  have H := (code_NewDecoder.l13.eq_2 ..).symm.trans HAp1744
                  refine wpLF_app ?_ ha
                  refine L_seq ?_
                  refine L_region ?_
                  refine F_val rfl rfl rfl (O_lt rfl rfl rfl) ?_
                  refine F_nil ?_
                  refine L_seq ?_
                  refine L_condP rfl (fun c1751 => ?_) (fun c1751 => ?_)
                  · have H := of_pos H c1751
                    refine L_skip ?_
                    refine L_seq ?_
                    refine L_blk (fun Q1752 hN1752 hX1752 hO1752 => ?_)
                    refine L_seq ?_
                    refine L_region ?_
                    refine F_val rfl rfl rfl (O_move rfl rfl) ?_
                    obtain ⟨⟨g1753, g1754⟩, H⟩ := of_gd H
                    refine F_val rfl rfl rfl (O_idx rfl rfl rfl Try.underlying22 size3 g1753 g1754 (Cells.isA (HS1750.cells_own (i := 2) rfl) (rowC_ne (E := (Eint .i64)) g1753 g1754 (by decide)))) ?_
                    refine F_val rfl rfl rfl (O_loadC rfl rfl flat3 (HS1750.cells_own (i := 2) rfl) (int_cell g1753 g1754)) ?_
                    refine F_val rfl rfl rfl (O_assign rfl rfl) ?_
                    obtain ⟨x1755, h1756, H⟩ := of_bnd H
                    refine F_val rfl rfl rfl (O_assign' rfl rfl (congrArg (Value.int .i64) h1756)) ?_
                    refine F_nil ?_
                    refine L_seq ?_
                    refine L_region ?_
                    refine F_val rfl rfl rfl (O_move rfl rfl) ?_
                    refine F_val rfl rfl rfl (O_move rfl rfl) ?_
                    refine F_val rfl rfl rfl (O_eq rfl rfl rfl) ?_
                    refine F_nil ?_
                    obtain ⟨yj1757, Hyj1757, H⟩ := of_bind H
                    refine L_join (fun a w => ∃ (l1775 : List Int), ∃ (A1773 : Option Addr), ∃ (c1774 : Nat), yj1757 = l1775 ∧ Is Try.f45.ntmps a [(7, .pointer (some ⟨g51, 0, none⟩)), (8, .int .i64 l_1508), (41, .slice A41 z35.length c42), (42, .int .i64 (z35.length : Int)), (43, .int .i64 t1748)] ∧ Hp S0 w0 w [.rd A_lens_0 (rowC (Eint .i64) l_lens_0), .box g51 (([.slice A41 z35.length c42, .slice A44 z36.length c45] : List Value) ++ rowC (Eint .i64) z37 ++ rowC (Eint .i64) z38 ++ ([.slice A1773 l1775.length c1774] : List Value)) 108, .own A41 c42 (rowC (Eint .i64) z35) 3 (Eint .i64).sz, .own A44 c45 (rowC (Eint .i64) z36) 3 (Eint .i64).sz, .own A1773 c1774 (rowC (Eint .i64) l1775) 3 (Eint .i64).sz]) (fun Qj1757 hNj1757 hOj1757 => ?_) (fun a w hR => ?_)
                    · skip
                      have H := Hyj1757
                      refine L_condP rfl (fun c1776 => ?_) (fun c1776 => ?_)
                      · have H := of_pos H c1776
                        refine L_region ?_
                        refine F_val rfl rfl rfl (O_move rfl rfl) ?_
                        refine F_val rfl rfl rfl (O_move rfl rfl) ?_
                        refine F_val rfl rfl rfl (O_nilCheck rfl rfl) ?_
                        refine F_val rfl rfl rfl (O_fieldB rfl rfl field108_1) ?_
                        refine F_val rfl rfl rfl (O_loadB rfl rfl flat22 (HS1750.cells_box (i := 1) rfl) (cell_seg (j := 0) (([.slice A41 z35.length c42, .slice A44 z36.length c45] : List Value) ++ rowC (Eint .i64) z37 ++ rowC (Eint .i64) z38) [.slice A1745 l1747.length c1746] [] (by simp only [List.append_assoc, List.cons_append, List.nil_append, List.append_nil]) (app_len (app_len rfl (row_len g47) rfl) (row_len g48) rfl) rfl)) ?_
                        refine F_val rfl rfl rfl (O_move rfl rfl) ?_
                        refine F_litE (E := (Eint .i64)) (e := 3) [(0, .int .i64 t1748)] [t1748] rfl rfl rfl rfl rfl rfl rfl (by decide) (fun w => by kernel_rfl) HS1750 (fun w1777 A1779 c1780 HS1778 => ?_)
                        have HS1778 : Hp S0 w0 w1777 [.rd A_lens_0 (rowC (Eint .i64) l_lens_0), .box g51 (([.slice A41 z35.length c42, .slice A44 z36.length c45] : List Value) ++ rowC (Eint .i64) z37 ++ rowC (Eint .i64) z38 ++ ([.slice A1745 l1747.length c1746] : List Value)) 108, .own A41 c42 (rowC (Eint .i64) z35) 3 (Eint .i64).sz, .own A44 c45 (rowC (Eint .i64) z36) 3 (Eint .i64).sz, .own A1745 c1746 (rowC (Eint .i64) l1747) 3 (Eint .i64).sz, .own A1779 c1780 (rowC (Eint .i64) [t1748]) 3 (Eint .i64).sz] := HS1778
                        obtain ⟨l1784, h1785, H⟩ := of_bnd H
                        obtain ⟨g1786, H⟩ := of_gd H
                        refine F_appE (E := (Eint .i64)) (xs := l1747) (ys := [t1748]) (i := 4) rfl rfl rfl rfl Try.underlying22 info3 rfl (by decide) (by decide) rfl rfl HS1778 rfl (HS1778.cells_own (i := 5) rfl) h1785 g1786 (fun w1782 A1787 c1788 HS1783 => ?_)
                        have HS1783 : Hp S0 w0 w1782 [.rd A_lens_0 (rowC (Eint .i64) l_lens_0), .box g51 (([.slice A41 z35.length c42, .slice A44 z36.length c45] : List Value) ++ rowC (Eint .i64) z37 ++ rowC (Eint .i64) z38 ++ ([.slice A1745 l1747.length c1746] : List Value)) 108, .own A41 c42 (rowC (Eint .i64) z35) 3 (Eint .i64).sz, .own A44 c45 (rowC (Eint .i64) z36) 3 (Eint .i64).sz, .own A1787 c1788 (rowC (Eint .i64) l1784) 3 (Eint .i64).sz, .own A1779 c1780 (rowC (Eint .i64) [t1748]) 3 (Eint .i64).sz] := HS1783
                        refine F_val rfl rfl rfl (O_nilCheck rfl rfl) ?_
                        refine F_val rfl rfl rfl (O_fieldB rfl rfl field108_1) ?_
                        refine F_stSg 1 (([.slice A41 z35.length c42, .slice A44 z36.length c45] : List Value) ++ rowC (Eint .i64) z37 ++ rowC (Eint .i64) z38 ++ ([.slice A1787 l1784.length c1788] : List Value)) (([.slice A41 z35.length c42, .slice A44 z36.length c45] : List Value) ++ rowC (Eint .i64) z37 ++ rowC (Eint .i64) z38) [.slice A1745 l1747.length c1746] [.slice A1787 l1784.length c1788] [] rfl rfl rfl rfl rfl size22 HS1783 rfl rfl (ones_lit rfl) (by simp only [List.append_assoc, List.cons_append, List.nil_append, List.append_nil]) (by simp only [List.append_assoc, List.cons_append, List.nil_append, List.append_nil]) (app_len (app_len rfl (row_len g47) rfl) (row_len g48) rfl) rfl rfl (fun w1789 HS1790 => ?_)
                        have HS1790 : Hp S0 w0 w1789 [.rd A_lens_0 (rowC (Eint .i64) l_lens_0), .box g51 (([.slice A41 z35.length c42, .slice A44 z36.length c45] : List Value) ++ rowC (Eint .i64) z37 ++ rowC (Eint .i64) z38 ++ ([.slice A1787 l1784.length c1788] : List Value)) 108, .own A41 c42 (rowC (Eint .i64) z35) 3 (Eint .i64).sz, .own A44 c45 (rowC (Eint .i64) z36) 3 (Eint .i64).sz, .own A1787 c1788 (rowC (Eint .i64) l1784) 3 (Eint .i64).sz, .own A1779 c1780 (rowC (Eint .i64) [t1748]) 3 (Eint .i64).sz] := HS1790
                        refine F_nil ?_
                        refine L_nil (fun a ha => hNj1757 a _ ⟨_, _, _, (Option.some.inj H).symm, Is.cons ha (Is.cons ha (Is.cons ha (Is.cons ha (Is.cons ha (Is.nil ha) rfl) rfl) rfl) rfl) rfl, HS1790.sel [0, 1, 2, 3, 4] rfl⟩)
                      · have H := of_neg H c1776
                        refine L_skip ?_
                        refine L_nil (fun a ha => hNj1757 a _ ⟨_, _, _, (Option.some.inj H).symm, Is.cons ha (Is.cons ha (Is.cons ha (Is.cons ha (Is.cons ha (Is.nil ha) rfl) rfl) rfl) rfl) rfl, HS1750.sel [0, 1, 2, 3, 4] rfl⟩)
                    · obtain ⟨l1775, A1773, c1774, ej, ha, HS1792⟩ := hR
                      obtain rfl := ej.symm
                      refine wpLF_app ?_ ha
                      refine L_endB hN1752 ?_
                      refine L_region ?_
                      refine F_val rfl rfl rfl (O_add rfl rfl rfl) ?_
                      refine F_val rfl rfl rfl (O_move rfl rfl) ?_
                      refine F_nil ?_
                      refine L_nil (fun a ha => hNp1744 _ a _ (Nat.lt_succ_self _) ⟨_, _, _, _, Is.cons ha (Is.cons ha (Is.cons ha (Is.cons ha (Is.cons ha (Is.nil ha) rfl) rfl) rfl) rfl) rfl, HS1792.sel [0, 1, 2, 3, 4] rfl, H⟩)
                  · have H := of_neg H c1751
                    refine L_exitB (fun a w h => hOp1744 (.exit 2) a w rfl (hXb1655 a w h)) ?_
                    refine L_nil (fun a ha => hNj1513 a _ ⟨_, _, _, (Option.some.inj H).symm, Is.cons ha (Is.cons ha (Is.nil ha) rfl) rfl, HS1750.sel [0, 1, 2, 3, 4] rfl⟩)
              · obtain ⟨l1654, A1652, c1653, ej, ha, HS1794⟩ := hR
                obtain rfl := ej.symm
                refine wpLF_app ?_ ha
                refine L_endB hN1512 ?_
                refine L_region ?_
                refine F_val rfl rfl rfl (O_move rfl rfl) ?_
                refine F_val rfl rfl rfl (O_add rfl rfl rfl) ?_
                obtain ⟨x1795, h1796, H⟩ := of_bnd H
                refine F_val rfl rfl rfl (O_assign' rfl rfl (congrArg (Value.int .i64) h1796)) ?_
                refine F_nil ?_
                refine L_nil (fun a ha => hNp1504 _ a _ (Nat.lt_succ_self _) ⟨_, _, _, _, Is.cons ha (Is.cons ha (Is.nil ha) rfl) rfl, HS1794.sel [0, 1, 2, 3, 4] rfl, H⟩)
            · have H := of_neg H c1511
              refine L_exitB (fun a w h => hOp1504 (.exit 0) a w rfl (hXb928 a w h)) ?_
              refine L_nil (fun a ha => hNj55 a _ ⟨_, _, _, (Option.some.inj H).symm, Is.cons ha (Is.nil ha) rfl, HS1510.sel [0, 1, 2, 3, 4] rfl⟩)
        · obtain ⟨l927, A925, c926, ej, ha, HS1798⟩ := hR
          obtain rfl := ej.symm
          refine wpLF_app ?_ ha
          refine L_seq ?_
          refine L_region ?_
          refine F_val rfl rfl rfl (O_move rfl rfl) ?_
          refine F_val rfl rfl rfl (O_assign rfl rfl) ?_
          refine F_val rfl rfl rfl (O_assign rfl rfl) ?_
          refine F_nil ?_
          refine L_ret (fun a ha => (post_ret2 ha rfl rfl rfl ?_))
          obtain rfl := Option.some.inj H
          exact ⟨_, _, _, _, _, _, _, rfl, HS1798.sel [1, 2, 3, 4] rfl⟩

/-! function 36: (*valise/code.Encoder).Put -/
theorem code_Encoder_Put_n1.calls {S0 : Nat → Prop} {w0 : World} {g_e_0 : Nat} {A_e_0_table_lens : Option Addr} {c_e_0_table_lens : Nat} {A_e_0_table_words : Option Addr} {c_e_0_table_words : Nat} {e_0_table_lens : List Int} {e_0_table_words : List Int} {e_0_table_counts : List Int} {e_0_table_first : List Int} {symbol_2 : Int} {r : Int} (HS0 : Hp S0 w0 w0 [.rd (some ⟨g_e_0, 0, none⟩) (([.slice A_e_0_table_lens e_0_table_lens.length c_e_0_table_lens, .slice A_e_0_table_words e_0_table_words.length c_e_0_table_words] : List Value) ++ rowC (Eint .i64) e_0_table_counts ++ rowC (Eint .i64) e_0_table_first), .rd A_e_0_table_lens (rowC (Eint .i64) e_0_table_lens), .rd A_e_0_table_words (rowC (Eint .i64) e_0_table_words)]) (h : code_Encoder_Put_n1.f e_0_table_lens e_0_table_words e_0_table_counts e_0_table_first symbol_2 = some r) :
    Calls Try.prog 36 ([.pointer (some ⟨g_e_0, 0, none⟩), .pointer none, .int .i64 symbol_2] : List Value).toArray w0 (fun e w => e = .returned (.int .i64 r) ∧ Hp S0 w0 w []) := by
  have H : ((some 1) : Option (Int)) = some r := h
  refine calls_start Try.func36 rfl rfl ?_
  refine L_seq ?_
  refine L_region ?_
  refine F_val rfl rfl rfl (O_assign rfl rfl) ?_
  refine F_nil ?_
  refine L_seq ?_
  refine L_seq ?_
  refine L_region ?_
  refine F_val rfl rfl rfl (O_move rfl rfl) ?_
  refine F_val rfl rfl rfl (O_peq rfl rfl rfl Try.underlying41) ?_
  refine F_val rfl rfl rfl (O_move rfl rfl) ?_
  refine F_gval rfl rfl rfl rfl rfl rfl (O_move rfl rfl) ?_
  refine F_gval rfl rfl rfl rfl rfl rfl (O_peq rfl rfl rfl Try.underlying47) ?_
  refine F_val rfl rfl rfl (O_pickF rfl rfl rfl) ?_
  refine F_nil ?_
  refine L_cond rfl (fun _ => ?_) (fun hx => by cases hx)
  refine L_seq ?_
  refine L_region ?_
  refine F_val rfl rfl rfl (O_assign rfl rfl) ?_
  refine F_nil ?_
  refine L_ret (fun a ha => (post_ret1 ha rfl rfl ?_))
  obtain rfl := Option.some.inj H
  exact ⟨rfl, HS0.sel [] rfl⟩

/-! function 51: (*valise/code.Decoder).Next -/
theorem code_Decoder_Next_n1.calls {S0 : Nat → Prop} {w0 : World} {g_d_0 : Nat} {A_d_0_table_lens : Option Addr} {c_d_0_table_lens : Nat} {A_d_0_table_words : Option Addr} {c_d_0_table_words : Nat} {A_d_0_symbols : Option Addr} {c_d_0_symbols : Nat} {d_0_table_lens : List Int} {d_0_table_words : List Int} {d_0_table_counts : List Int} {d_0_table_first : List Int} {d_0_symbols : List Int} {r : Int × Int} (HS0 : Hp S0 w0 w0 [.rd (some ⟨g_d_0, 0, none⟩) (([.slice A_d_0_table_lens d_0_table_lens.length c_d_0_table_lens, .slice A_d_0_table_words d_0_table_words.length c_d_0_table_words] : List Value) ++ rowC (Eint .i64) d_0_table_counts ++ rowC (Eint .i64) d_0_table_first ++ ([.slice A_d_0_symbols d_0_symbols.length c_d_0_symbols] : List Value)), .rd A_d_0_table_lens (rowC (Eint .i64) d_0_table_lens), .rd A_d_0_table_words (rowC (Eint .i64) d_0_table_words), .rd A_d_0_symbols (rowC (Eint .i64) d_0_symbols)]) (h : code_Decoder_Next_n1.f d_0_table_lens d_0_table_words d_0_table_counts d_0_table_first d_0_symbols = some r) :
    Calls Try.prog 51 ([.pointer (some ⟨g_d_0, 0, none⟩), .pointer none] : List Value).toArray w0 (fun e w => e = .returned (.tuple #[.int .i64 r.1, .int .i64 r.2]) ∧ Hp S0 w0 w []) := by
  have H : ((some (0, 1)) : Option (Int × Int)) = some r := h
  refine calls_start Try.func51 rfl rfl ?_
  refine L_seq ?_
  refine L_region ?_
  refine F_val rfl rfl rfl (O_assign rfl rfl) ?_
  refine F_val rfl rfl rfl (O_assign rfl rfl) ?_
  refine F_nil ?_
  refine L_seq ?_
  refine L_seq ?_
  refine L_region ?_
  refine F_val rfl rfl rfl (O_move rfl rfl) ?_
  refine F_val rfl rfl rfl (O_peq rfl rfl rfl Try.underlying62) ?_
  refine F_val rfl rfl rfl (O_move rfl rfl) ?_
  refine F_gval rfl rfl rfl rfl rfl rfl (O_move rfl rfl) ?_
  refine F_gval rfl rfl rfl rfl rfl rfl (O_peq rfl rfl rfl Try.underlying68) ?_
  refine F_val rfl rfl rfl (O_pickF rfl rfl rfl) ?_
  refine F_nil ?_
  refine L_cond rfl (fun _ => ?_) (fun hx => by cases hx)
  refine L_seq ?_
  refine L_region ?_
  refine F_val rfl rfl rfl (O_assign rfl rfl) ?_
  refine F_val rfl rfl rfl (O_assign rfl rfl) ?_
  refine F_nil ?_
  refine L_ret (fun a ha => (post_ret2 ha rfl rfl rfl ?_))
  obtain rfl := Option.some.inj H
  exact ⟨rfl, HS0.sel [] rfl⟩

/-! function 51: (*valise/code.Decoder).Next -/
theorem code_Decoder_Next_n0.calls {S0 : Nat → Prop} {w0 : World} {g_r_1 : Nat} {A_r_1_data : Option Addr} {c_r_1_data : Nat} {r_1_data : List Int} {r_1_at : Int} {r : Int × Int × List Int × Int} (HS0 : Hp S0 w0 w0 [.box g_r_1 [.slice A_r_1_data r_1_data.length c_r_1_data, .int .i64 r_1_at] 112, .own A_r_1_data c_r_1_data (rowC (Eint .u8) r_1_data) 5 (Eint .u8).sz]) (h : code_Decoder_Next_n0.f r_1_data r_1_at = some r) :
    Calls Try.prog 51 ([.pointer none, .pointer (some ⟨g_r_1, 0, none⟩)] : List Value).toArray w0 (fun e w => ∃ (A_r_1_data' : Option Addr), ∃ (c_r_1_data' : Nat), e = .returned (.tuple #[.int .i64 r.1, .int .i64 r.2.1]) ∧ Hp S0 w0 w [.box g_r_1 [.slice A_r_1_data' r.2.2.1.length c_r_1_data', .int .i64 r.2.2.2] 112, .own A_r_1_data' c_r_1_data' (rowC (Eint .u8) r.2.2.1) 5 (Eint .u8).sz]) := by
  have H : ((some (0, 1, r_1_data, r_1_at)) : Option (Int × Int × List Int × Int)) = some r := h
  refine calls_start Try.func51 rfl rfl ?_
  refine L_seq ?_
  refine L_region ?_
  refine F_val rfl rfl rfl (O_assign rfl rfl) ?_
  refine F_val rfl rfl rfl (O_assign rfl rfl) ?_
  refine F_nil ?_
  refine L_seq ?_
  refine L_seq ?_
  refine L_region ?_
  refine F_val rfl rfl rfl (O_move rfl rfl) ?_
  refine F_val rfl rfl rfl (O_peq rfl rfl rfl Try.underlying62) ?_
  refine F_val rfl rfl rfl (O_move rfl rfl) ?_
  refine F_gskip rfl rfl rfl rfl rfl rfl rfl ?_
  refine F_gskip rfl rfl rfl rfl rfl rfl rfl ?_
  refine F_val rfl rfl rfl (O_pickT rfl rfl rfl) ?_
  refine F_nil ?_
  refine L_cond rfl (fun _ => ?_) (fun hx => by cases hx)
  refine L_seq ?_
  refine L_region ?_
  refine F_val rfl rfl rfl (O_assign rfl rfl) ?_
  refine F_val rfl rfl rfl (O_assign rfl rfl) ?_
  refine F_nil ?_
  refine L_ret (fun a ha => (post_ret2 ha rfl rfl rfl ?_))
  obtain rfl := Option.some.inj H
  exact ⟨_, _, rfl, HS0.sel [0, 1] rfl⟩

/-! function 10: valise/valiselaw5.CodeNil -/
theorem valiselaw5_CodeNil.calls {S0 : Nat → Prop} {w0 : World} {r : Bool} (HS0 : Hp S0 w0 w0 []) (h : valiselaw5_CodeNil.f = some r) :
    Calls Try.prog 10 ([] : List Value).toArray w0 (fun e w => e = .returned (.bool r) ∧ Hp S0 w0 w []) := by
  have H : (((bits_NewWriter.f).bind fun (z5, z6) => (code_Encoder_Put_n0.f z5 z6 0).bind fun (z18, z19, z20) => (bits_NewReader.f ([] : List Int)).bind fun z29 => onO z29 ((code_Decoder_Next_n0_n1.f).bind fun (z34, z35) => (if ((z18 ≠ 1) ∨ (z34 ≠ 0)) ∨ (z35 ≠ 1) then (some true) else ((code_Encoder_Len_n0.f 0).bind fun z78 => some (decide (z78 ≠ 0)))).bind fun b71 => if b71 = true then (some false) else ((code_NewEncoder.f [1, 1]).bind fun (z92, z93) => onO z92 ((code_NewDecoder.f [1, 1]).bind fun (z105, z106) => onO z105 (some false) fun (z109, z110, z111, z112, z113) => some false) fun (z127, z128, z129, z130) => (code_NewDecoder.f [1, 1]).bind fun (z150, z151) => onO z150 (some false) fun (z154, z155, z156, z157, z158) => if (z93 ≠ 0) ∨ (z151 ≠ 0) then (some false) else ((code_Encoder_Put_n1.f z127 z128 z129 z130 0).bind fun z197 => (code_Encoder_Put_n1.f z127 z128 z129 z130 7).bind fun z203 => (code_Decoder_Next_n1.f z154 z155 z156 z157 z158).bind fun (z209, z210) => some (decide ((((z197 = 1) ∧ (z203 = 1)) ∧ (z209 = 0)) ∧ (z210 = 1)))))) fun (z256, z257) => (code_Decoder_Next_n0.f z256 z257).bind fun (z269, z270, z271, z272) => (if ((z18 ≠ 1) ∨ (z269 ≠ 0)) ∨ (z270 ≠ 1) then (some true) else ((code_Encoder_Len_n0.f 0).bind fun z316 => some (decide (z316 ≠ 0)))).bind fun b309 => if b309 = true then (some false) else ((code_NewEncoder.f [1, 1]).bind fun (z330, z331) => onO z330 ((code_NewDecoder.f [1, 1]).bind fun (z343, z344) => onO z343 (some false) fun (z347, z348, z349, z350, z351) => some false) fun (z365, z366, z367, z368) => (code_NewDecoder.f [1, 1]).bind fun (z388, z389) => onO z388 (some false) fun (z392, z393, z394, z395, z396) => if (z331 ≠ 0) ∨ (z389 ≠ 0) then (some false) else ((code_Encoder_Put_n1.f z365 z366 z367 z368 0).bind fun z435 => (code_Encoder_Put_n1.f z365 z366 z367 z368 7).bind fun z441 => (code_Decoder_Next_n1.f z392 z393 z394 z395 z396).bind fun (z447, z448) => some (decide ((((z435 = 1) ∧ (z441 = 1)) ∧ (z447 = 0)) ∧ (z448 = 1)))))) : Option (Bool)) = some r := h
  refine calls_start Try.func10 rfl rfl ?_
  refine L_seq ?_
  refine L_region ?_
  refine F_val rfl rfl rfl (O_assign rfl rfl) ?_
  refine F_nil ?_
  refine L_seq ?_
  refine L_region ?_
  refine F_val rfl rfl rfl (O_assign rfl rfl) ?_
  refine F_nil ?_
  refine L_seq ?_
  refine L_region ?_
  refine F_val rfl rfl rfl (O_assign rfl rfl) ?_
  refine F_nil ?_
  refine L_seq ?_
  refine L_region ?_
  refine F_val rfl rfl rfl (O_move rfl rfl) ?_
  obtain ⟨⟨z5, z6⟩, h4, H⟩ := of_bind H
  refine F_call (xs := []) rfl rfl rfl rfl Try.func32 nm32 rfl rfl ((bits_NewWriter.calls (HS0.give [] rfl (Lent.nil)) h4).mono (fun e w hc => ?_))
  obtain ⟨g9, A11, c12, rfl, HSo⟩ := hc
  refine ⟨.pointer (some ⟨g9, 0, none⟩), rfl, ?_⟩
  have HS8 : Hp S0 w0 w [.box g9 [.slice A11 z5.length c12, .int .i64 z6] 98, .own A11 c12 (rowC (Eint .u8) z5) 5 (Eint .u8).sz] := (HS0.back [] HSo rfl).sel [0, 1] rfl
  obtain ⟨⟨z18, z19, z20⟩, h17, H⟩ := of_bind H
  refine F_call (xs := [.tmp 14, .tmp 15, .const (.int .i64 0)]) rfl rfl rfl rfl Try.func36 nm36 rfl rfl ((code_Encoder_Put_n0.calls (HS8.give [0, 1] rfl (Lent.nil)) h17).mono (fun e w hc => ?_))
  obtain ⟨A23, c24, rfl, HSo⟩ := hc
  refine ⟨.int .i64 z18, rfl, ?_⟩
  have HS22 : Hp S0 w0 w [.box g9 [.slice A23 z19.length c24, .int .i64 z20] 98, .own A23 c24 (rowC (Eint .u8) z19) 5 (Eint .u8).sz] := (HS8.back [0, 1] HSo rfl).sel [2, 3] rfl
  refine F_val rfl rfl rfl (O_assign rfl rfl) ?_
  refine F_nil ?_
  refine L_seq ?_
  refine L_region ?_
  refine F_val rfl rfl rfl (O_move rfl rfl) ?_
  obtain ⟨z29, h28, H⟩ := of_bind H
  rcases z29 with _ | z29
  · refine F_call (xs := [.const (.slice none 0 0)]) rfl rfl rfl rfl Try.func47 nm47 rfl rfl ((bits_NewReader.calls (HS22.give [] rfl (Lent.nilrd (Lent.nil))) (Nat.zero_le _) h28).mono (fun e w hc => ?_))
    have H := (onO_none _ _).symm.trans H
    obtain ⟨rfl, HSo⟩ := hc
    refine ⟨.pointer none, rfl, ?_⟩
    have HS31 : Hp S0 w0 w [.box g9 [.slice A23 z19.length c24, .int .i64 z20] 98, .own A23 c24 (rowC (Eint .u8) z19) 5 (Eint .u8).sz] := (HS22.back [] HSo rfl).sel [0, 1] rfl
    obtain ⟨⟨z34, z35⟩, h33, H⟩ := of_bind H
    refine F_qcall (v := .tuple #[.int .i64 z34, .int .i64 z35]) (xs := [.tmp 18, .tmp 19]) rfl rfl rfl rfl Try.func51 nm51 rfl rfl ((code_Decoder_Next_n0_n1.calls (HS31.give [] rfl (Lent.nil)) h33).mono (fun e w hc => ?_)) (fun w36 hw37 => ?_)
    · obtain ⟨rfl, h⟩ := hc
      exact ⟨rfl, h.chg0⟩
    have HS38 := HS31.keep hw37
    refine F_val rfl rfl rfl (O_move rfl rfl) ?_
    refine F_val rfl rfl rfl (O_extract (v := .int .i64 z34) rfl rfl rfl) ?_
    refine F_val rfl rfl rfl (O_extract (v := .int .i64 z35) rfl rfl rfl) ?_
    refine F_val rfl rfl rfl (O_assign rfl rfl) ?_
    refine F_val rfl rfl rfl (O_assign rfl rfl) ?_
    refine F_nil ?_
    refine L_seq ?_
    refine L_seq ?_
    refine L_region ?_
    refine F_val rfl rfl rfl (O_move rfl rfl) ?_
    refine F_qcall (v := .int .i64 z18) (xs := [.tmp 23]) rfl rfl rfl rfl Try.func23 nm23 rfl rfl ((valiselaw5_num.calls (HS38.give [] rfl (Lent.nil)) (rfl : valiselaw5_num.f z18 = some z18)).mono (fun e w hc => ?_)) (fun w42 hw43 => ?_)
    · obtain ⟨rfl, h⟩ := hc
      exact ⟨rfl, h.chg0⟩
    have HS44 := HS38.keep hw43
    refine F_val rfl rfl rfl (O_ne rfl rfl rfl) ?_
    refine F_val rfl rfl rfl (O_move rfl rfl) ?_
    refine F_grp 3 [(29, .bool (decide ((z18 ≠ 1) ∨ (z34 ≠ 0)))), (1, .pointer none), (5, .int .i64 z35)] ?_ ?_
    · rcases Decidable.em (z18 ≠ 1) with c48 | c48
      · refine F_know (i := 26) rfl (dec_t c48) ?_
        refine F_gskip rfl rfl rfl rfl rfl rfl rfl ?_
        refine F_gskip rfl rfl rfl rfl rfl rfl rfl ?_
        refine F_val rfl rfl rfl (O_pickT rfl rfl rfl) ?_
        refine F_know (i := 29) rfl (dec_or_t (q := z34 ≠ 0) c48) ?_
        exact F_grpE (fun a ha => Is.cons ha (Is.cons ha (Is.cons ha (Is.nil ha) rfl) rfl) rfl)
      · refine F_know (i := 26) rfl (dec_f c48) ?_
        refine F_gval rfl rfl rfl rfl rfl rfl (O_move rfl rfl) ?_
        refine F_gval rfl rfl rfl rfl rfl rfl (O_ne rfl rfl rfl) ?_
        refine F_val rfl rfl rfl (O_pickF rfl rfl rfl) ?_
        refine F_know (i := 29) rfl (dec_or_f (q := z34 ≠ 0) c48) ?_
        exact F_grpE (fun a ha => Is.cons ha (Is.cons ha (Is.cons ha (Is.nil ha) rfl) rfl) rfl)
    · skip
      refine F_val rfl rfl rfl (O_move rfl rfl) ?_
      refine F_grpQ 4 [(34, .bool (decide (((z18 ≠ 1) ∨ (z34 ≠ 0)) ∨ (z35 ≠ 1)))), (1, .pointer none)] ?_ (fun w55 hw56 => ?_)
      · rcases Decidable.em ((z18 ≠ 1) ∨ (z34 ≠ 0)) with c58 | c58
        · refine F_know (i := 30) rfl (dec_t c58) ?_
          refine F_gskip rfl rfl rfl rfl rfl rfl rfl ?_
          refine F_gskip rfl rfl rfl rfl rfl rfl rfl ?_
          refine F_gskip rfl rfl rfl rfl rfl rfl rfl ?_
          refine F_val rfl rfl rfl (O_pickT rfl rfl rfl) ?_
          refine F_know (i := 34) rfl (dec_or_t (q := z35 ≠ 1) c58) ?_
          exact F_grpQE (Chg.refl NoB _) (fun a ha => Is.cons ha (Is.cons ha (Is.nil ha) rfl) rfl)
        · refine F_know (i := 30) rfl (dec_f c58) ?_
          refine F_gval rfl rfl rfl rfl rfl rfl (O_move rfl rfl) ?_
          refine F_gqcall (v := .int .i64 z35) (xs := [.tmp 31]) rfl rfl rfl rfl rfl rfl rfl Try.func23 nm23 rfl rfl ((valiselaw5_num.calls (HS44.give [] rfl (Lent.nil)) (rfl : valiselaw5_num.f z35 = some z35)).mono (fun e w hc => ?_)) (fun w62 hw63 => ?_)
          · obtain ⟨rfl, h⟩ := hc
            exact ⟨rfl, h.chg0⟩
          have HS64 := HS44.keep hw63
          refine F_gval rfl rfl rfl rfl rfl rfl (O_ne rfl rfl rfl) ?_
          refine F_val rfl rfl rfl (O_pickF rfl rfl rfl) ?_
          refine F_know (i := 34) rfl (dec_or_f (q := z35 ≠ 1) c58) ?_
          exact F_grpQE ((Chg.refl NoB _).trans hw63) (fun a ha => Is.cons ha (Is.cons ha (Is.nil ha) rfl) rfl)
      · have HS57 := HS44.keep hw56
        refine F_val rfl rfl rfl (O_move rfl rfl) ?_
        obtain ⟨b71, Hb71, H⟩ := of_bind H
        refine F_grpQ 4 [(39, .bool b71)] ?_ (fun w72 hw73 => ?_)
        · rcases Decidable.em (((z18 ≠ 1) ∨ (z34 ≠ 0)) ∨ (z35 ≠ 1)) with c75 | c75
          · refine F_know (i := 35) rfl (dec_t c75) ?_
            have H := of_pos Hb71 c75
            refine F_gskip rfl rfl rfl rfl rfl rfl rfl ?_
            refine F_gskip rfl rfl rfl rfl rfl rfl rfl ?_
            refine F_gskip rfl rfl rfl rfl rfl rfl rfl ?_
            refine F_val rfl rfl rfl (O_pickT rfl rfl rfl) ?_
            refine F_know (i := 39) rfl (congrArg Value.bool (Option.some.inj H)) ?_
            exact F_grpQE (Chg.refl NoB _) (fun a ha => Is.cons ha (Is.nil ha) rfl)
          · refine F_know (i := 35) rfl (dec_f c75) ?_
            have H := of_neg Hb71 c75
            refine F_gval rfl rfl rfl rfl rfl rfl (O_move rfl rfl) ?_
            obtain ⟨z78, h77, H⟩ := of_bind H
            refine F_gqcall (v := .int .i64 z78) (xs := [.tmp 36, .const (.int .i64 0)]) rfl rfl rfl rfl rfl rfl rfl Try.func38 nm38 rfl rfl ((code_Encoder_Len_n0.calls (HS57.give [] rfl (Lent.nil)) h77).mono (fun e w hc => ?_)) (fun w79 hw80 => ?_)
            · obtain ⟨rfl, h⟩ := hc
              exact ⟨rfl, h.chg0⟩
            have HS81 := HS57.keep hw80
            refine F_gval rfl rfl rfl rfl rfl rfl (O_ne rfl rfl rfl) ?_
            refine F_val rfl rfl rfl (O_pickF rfl rfl rfl) ?_
            refine F_know (i := 39) rfl (congrArg Value.bool (Option.some.inj H)) ?_
            exact F_grpQE ((Chg.refl NoB _).trans hw80) (fun a ha => Is.cons ha (Is.nil ha) rfl)
        · have HS74 := HS57.keep hw73
          refine F_nil ?_
          refine L_cond rfl (fun c82 => ?_) (fun c82 => ?_)
          · have H := of_pos H c82
            refine L_seq ?_
            refine L_region ?_
            refine F_val rfl rfl rfl (O_assign rfl rfl) ?_
            refine F_nil ?_
            refine L_ret (fun a ha => (post_ret1 ha rfl rfl ?_))
            obtain rfl := Option.some.inj H
            exact ⟨rfl, HS74.sel [] rfl⟩
          · have H := of_neg H (by rw [c82]; exact Bool.false_ne_true)
            refine L_skip ?_
            refine L_seq ?_
            refine L_region ?_
            refine F_litE (E := (Eint .i64)) (e := 3) [(0, .int .i64 1), (1, .int .i64 1)] [1, 1] rfl rfl rfl rfl rfl rfl rfl (by decide) (fun w => by kernel_rfl) HS74 (fun w83 A85 c86 HS84 => ?_)
            have HS84 : Hp S0 w0 w83 [.box g9 [.slice A23 z19.length c24, .int .i64 z20] 98, .own A23 c24 (rowC (Eint .u8) z19) 5 (Eint .u8).sz, .own A85 c86 (rowC (Eint .i64) [1, 1]) 3 (Eint .i64).sz] := HS84
            obtain ⟨⟨z92, z93⟩, h91, H⟩ := of_bind H
            rcases z92 with _ | z92
            · refine F_call (xs := [.tmp 41]) rfl rfl rfl rfl Try.func30 nm30 rfl rfl ((code_NewEncoder.calls (HS84.give [] rfl (Lent.own HS84 (Lent.nil) (i := 2) rfl rfl ((HS84.cells_own (i := 2) rfl).self))) (HS84.own_capE (i := 2) rfl (by decide)) h91).mono (fun e w hc => ?_))
              have H := (onO_none _ _).symm.trans H
              obtain ⟨rfl, HSo⟩ := hc
              refine ⟨.tuple #[.pointer none, .int .i64 z93], rfl, ?_⟩
              have HS95 : Hp S0 w0 w [.box g9 [.slice A23 z19.length c24, .int .i64 z20] 98, .own A23 c24 (rowC (Eint .u8) z19) 5 (Eint .u8).sz, .own A85 c86 (rowC (Eint .i64) [1, 1]) 3 (Eint .i64).sz] := (HS84.back [] HSo rfl).sel [0, 1, 2] rfl
              refine F_val rfl rfl rfl (O_move rfl rfl) ?_
              refine F_val rfl rfl rfl (O_extract (v := .pointer none) rfl rfl rfl) ?_
              refine F_val rfl rfl rfl (O_extract (v := .int .i64 z93) rfl rfl rfl) ?_
              refine F_val rfl rfl rfl (O_assign rfl rfl) ?_
              refine F_val rfl rfl rfl (O_assign rfl rfl) ?_
              refine F_nil ?_
              refine L_seq ?_
              refine L_region ?_
              refine F_litE (E := (Eint .i64)) (e := 3) [(0, .int .i64 1), (1, .int .i64 1)] [1, 1] rfl rfl rfl rfl rfl rfl rfl (by decide) (fun w => by kernel_rfl) HS95 (fun w96 A98 c99 HS97 => ?_)
              have HS97 : Hp S0 w0 w96 [.box g9 [.slice A23 z19.length c24, .int .i64 z20] 98, .own A23 c24 (rowC (Eint .u8) z19) 5 (Eint .u8).sz, .own A85 c86 (rowC (Eint .i64) [1, 1]) 3 (Eint .i64).sz, .own A98 c99 (rowC (Eint .i64) [1, 1]) 3 (Eint .i64).sz] := HS97
              obtain ⟨⟨z105, z106⟩, h104, H⟩ := of_bind H
              rcases z105 with _ | z105
              · refine F_call (xs := [.tmp 46]) rfl rfl rfl rfl Try.func45 nm45 rfl rfl ((code_NewDecoder.calls (HS97.give [] rfl (Lent.own HS97 (Lent.nil) (i := 3) rfl rfl ((HS97.cells_own (i := 3) rfl).self))) (HS97.own_capE (i := 3) rfl (by decide)) h104).mono (fun e w hc => ?_))
                have H := (onO_none _ _).symm.trans H
                obtain ⟨rfl, HSo⟩ := hc
                refine ⟨.tuple #[.pointer none, .int .i64 z106], rfl, ?_⟩
                have HS108 : Hp S0 w0 w [.box g9 [.slice A23 z19.length c24, .int .i64 z20] 98, .own A23 c24 (rowC (Eint .u8) z19) 5 (Eint .u8).sz, .own A85 c86 (rowC (Eint .i64) [1, 1]) 3 (Eint .i64).sz, .own A98 c99 (rowC (Eint .i64) [1, 1]) 3 (Eint .i64).sz] := (HS97.back [] HSo rfl).sel [0, 1, 2, 3] rfl
                refine F_val rfl rfl rfl (O_move rfl rfl) ?_
                refine F_val rfl rfl rfl (O_extract (v := .pointer none) rfl rfl rfl) ?_
                refine F_val rfl rfl rfl (O_extract (v := .int .i64 z106) rfl rfl rfl) ?_
                refine F_val rfl rfl rfl (O_assign rfl rfl) ?_
                refine F_val rfl rfl rfl (O_assign rfl rfl) ?_
                refine F_nil ?_
                refine L_seq ?_
                refine L_seq ?_
                refine L_region ?_
                refine F_val rfl rfl rfl (O_move rfl rfl) ?_
                refine F_val rfl rfl rfl (O_peq rfl rfl rfl Try.underlying41) ?_
                refine F_val rfl rfl rfl (O_move rfl rfl) ?_
                refine F_gskip rfl rfl rfl rfl rfl rfl rfl ?_
                refine F_gskip rfl rfl rfl rfl rfl rfl rfl ?_
                refine F_val rfl rfl rfl (O_pickT rfl rfl rfl) ?_
                refine F_val rfl rfl rfl (O_move rfl rfl) ?_
                refine F_gskip rfl rfl rfl rfl rfl rfl rfl ?_
                refine F_gskip rfl rfl rfl rfl rfl rfl rfl ?_
                refine F_gskip rfl rfl rfl rfl rfl rfl rfl ?_
                refine F_val rfl rfl rfl (O_pickT rfl rfl rfl) ?_
                refine F_val rfl rfl rfl (O_move rfl rfl) ?_
                refine F_gskip rfl rfl rfl rfl rfl rfl rfl ?_
                refine F_gskip rfl rfl rfl rfl rfl rfl rfl ?_
                refine F_gskip rfl rfl rfl rfl rfl rfl rfl ?_
                refine F_val rfl rfl rfl (O_pickT rfl rfl rfl) ?_
                refine F_nil ?_
                refine L_cond rfl (fun _ => ?_) (fun hx => by cases hx)
                refine L_seq ?_
                refine L_region ?_
                refine F_val rfl rfl rfl (O_assign rfl rfl) ?_
                refine F_nil ?_
                refine L_ret (fun a ha => (post_ret1 ha rfl rfl ?_))
                obtain rfl := Option.some.inj H
                exact ⟨rfl, HS108.sel [] rfl⟩
              · refine F_call (xs := [.tmp 46]) rfl rfl rfl rfl Try.func45 nm45 rfl rfl ((code_NewDecoder.calls (HS97.give [] rfl (Lent.own HS97 (Lent.nil) (i := 3) rfl rfl ((HS97.cells_own (i := 3) rfl).self))) (HS97.own_capE (i := 3) rfl (by decide)) h104).mono (fun e w hc => ?_))
                obtain ⟨z109, z110, z111, z112, z113⟩ := z105
                have H := (onO_some _ _ _).symm.trans H
                obtain ⟨g116, A118, c119, A121, c122, A124, c125, rfl, HSo⟩ := hc
                refine ⟨.tuple #[.pointer (some ⟨g116, 0, none⟩), .int .i64 z106], rfl, ?_⟩
                have HS115 : Hp S0 w0 w [.box g9 [.slice A23 z19.length c24, .int .i64 z20] 98, .own A23 c24 (rowC (Eint .u8) z19) 5 (Eint .u8).sz, .own A85 c86 (rowC (Eint .i64) [1, 1]) 3 (Eint .i64).sz, .own A98 c99 (rowC (Eint .i64) [1, 1]) 3 (Eint .i64).sz, .box g116 (([.slice A118 z109.length c119, .slice A121 z110.length c122] : List Value) ++ rowC (Eint .i64) z111 ++ rowC (Eint .i64) z112 ++ ([.slice A124 z113.length c125] : List Value)) 108, .own A118 c119 (rowC (Eint .i64) z109) 3 (Eint .i64).sz, .own A121 c122 (rowC (Eint .i64) z110) 3 (Eint .i64).sz, .own A124 c125 (rowC (Eint .i64) z113) 3 (Eint .i64).sz] := (HS97.back [] HSo rfl).sel [0, 1, 2, 3, 4, 5, 6, 7] rfl
                refine F_val rfl rfl rfl (O_move rfl rfl) ?_
                refine F_val rfl rfl rfl (O_extract (v := .pointer (some ⟨g116, 0, none⟩)) rfl rfl rfl) ?_
                refine F_val rfl rfl rfl (O_extract (v := .int .i64 z106) rfl rfl rfl) ?_
                refine F_val rfl rfl rfl (O_assign rfl rfl) ?_
                refine F_val rfl rfl rfl (O_assign rfl rfl) ?_
                refine F_nil ?_
                refine L_seq ?_
                refine L_seq ?_
                refine L_region ?_
                refine F_val rfl rfl rfl (O_move rfl rfl) ?_
                refine F_val rfl rfl rfl (O_peq rfl rfl rfl Try.underlying41) ?_
                refine F_val rfl rfl rfl (O_move rfl rfl) ?_
                refine F_gskip rfl rfl rfl rfl rfl rfl rfl ?_
                refine F_gskip rfl rfl rfl rfl rfl rfl rfl ?_
                refine F_val rfl rfl rfl (O_pickT rfl rfl rfl) ?_
                refine F_val rfl rfl rfl (O_move rfl rfl) ?_
                refine F_gskip rfl rfl rfl rfl rfl rfl rfl ?_
                refine F_gskip rfl rfl rfl rfl rfl rfl rfl ?_
                refine F_gskip rfl rfl rfl rfl rfl rfl rfl ?_
                refine F_val rfl rfl rfl (O_pickT rfl rfl rfl) ?_
                refine F_val rfl rfl rfl (O_move rfl rfl) ?_
                refine F_gskip rfl rfl rfl rfl rfl rfl rfl ?_
                refine F_gskip rfl rfl rfl rfl rfl rfl rfl ?_
                refine F_gskip rfl rfl rfl rfl rfl rfl rfl ?_
                refine F_val rfl rfl rfl (O_pickT rfl rfl rfl) ?_
                refine F_nil ?_
                refine L_cond rfl (fun _ => ?_) (fun hx => by cases hx)
                refine L_seq ?_
                refine L_region ?_
                refine F_val rfl rfl rfl (O_assign rfl rfl) ?_
                refine F_nil ?_
                refine L_ret (fun a ha => (post_ret1 ha rfl rfl ?_))
                obtain rfl := Option.some.inj H
                exact ⟨rfl, HS115.sel [] rfl⟩
            · refine F_call (xs := [.tmp 41]) rfl rfl rfl rfl Try.func30 nm30 rfl rfl ((code_NewEncoder.calls (HS84.give [] rfl (Lent.own HS84 (Lent.nil) (i := 2) rfl rfl ((HS84.cells_own (i := 2) rfl).self))) (HS84.own_capE (i := 2) rfl (by decide)) h91).mono (fun e w hc => ?_))
              obtain ⟨z127, z128, z129, z130⟩ := z92
              have H := (onO_some _ _ _).symm.trans H
              obtain ⟨g133, A135, c136, A138, c139, rfl, HSo⟩ := hc
              refine ⟨.tuple #[.pointer (some ⟨g133, 0, none⟩), .int .i64 z93], rfl, ?_⟩
              have HS132 : Hp S0 w0 w [.box g9 [.slice A23 z19.length c24, .int .i64 z20] 98, .own A23 c24 (rowC (Eint .u8) z19) 5 (Eint .u8).sz, .own A85 c86 (rowC (Eint .i64) [1, 1]) 3 (Eint .i64).sz, .box g133 (([.slice A135 z127.length c136, .slice A138 z128.length c139] : List Value) ++ rowC (Eint .i64) z129 ++ rowC (Eint .i64) z130) 94, .own A135 c136 (rowC (Eint .i64) z127) 3 (Eint .i64).sz, .own A138 c139 (rowC (Eint .i64) z128) 3 (Eint .i64).sz] := (HS84.back [] HSo rfl).sel [0, 1, 2, 3, 4, 5] rfl
              refine F_val rfl rfl rfl (O_move rfl rfl) ?_
              refine F_val rfl rfl rfl (O_extract (v := .pointer (some ⟨g133, 0, none⟩)) rfl rfl rfl) ?_
              refine F_val rfl rfl rfl (O_extract (v := .int .i64 z93) rfl rfl rfl) ?_
              refine F_val rfl rfl rfl (O_assign rfl rfl) ?_
              refine F_val rfl rfl rfl (O_assign rfl rfl) ?_
              refine F_nil ?_
              refine L_seq ?_
              refine L_region ?_
              refine F_litE (E := (Eint .i64)) (e := 3) [(0, .int .i64 1), (1, .int .i64 1)] [1, 1] rfl rfl rfl rfl rfl rfl rfl (by decide) (fun w => by kernel_rfl) HS132 (fun w141 A143 c144 HS142 => ?_)
              have HS142 : Hp S0 w0 w141 [.box g9 [.slice A23 z19.length c24, .int .i64 z20] 98, .own A23 c24 (rowC (Eint .u8) z19) 5 (Eint .u8).sz, .own A85 c86 (rowC (Eint .i64) [1, 1]) 3 (Eint .i64).sz, .box g133 (([.slice A135 z127.length c136, .slice A138 z128.length c139] : List Value) ++ rowC (Eint .i64) z129 ++ rowC (Eint .i64) z130) 94, .own A135 c136 (rowC (Eint .i64) z127) 3 (Eint .i64).sz, .own A138 c139 (rowC (Eint .i64) z128) 3 (Eint .i64).sz, .own A143 c144 (rowC (Eint .i64) [1, 1]) 3 (Eint .i64).sz] := HS142
              obtain ⟨⟨z150, z151⟩, h149, H⟩ := of_bind H
              rcases z150 with _ | z150
              · refine F_call (xs := [.tmp 46]) rfl rfl rfl rfl Try.func45 nm45 rfl rfl ((code_NewDecoder.calls (HS142.give [] rfl (Lent.own HS142 (Lent.nil) (i := 6) rfl rfl ((HS142.cells_own (i := 6) rfl).self))) (HS142.own_capE (i := 6) rfl (by decide)) h149).mono (fun e w hc => ?_))
                have H := (onO_none _ _).symm.trans H
                obtain ⟨rfl, HSo⟩ := hc
                refine ⟨.tuple #[.pointer none, .int .i64 z151], rfl, ?_⟩
                have HS153 : Hp S0 w0 w [.box g9 [.slice A23 z19.length c24, .int .i64 z20] 98, .own A23 c24 (rowC (Eint .u8) z19) 5 (Eint .u8).sz, .own A85 c86 (rowC (Eint .i64) [1, 1]) 3 (Eint .i64).sz, .box g133 (([.slice A135 z127.length c136, .slice A138 z128.length c139] : List Value) ++ rowC (Eint .i64) z129 ++ rowC (Eint .i64) z130) 94, .own A135 c136 (rowC (Eint .i64) z127) 3 (Eint .i64).sz, .own A138 c139 (rowC (Eint .i64) z128) 3 (Eint .i64).sz, .own A143 c144 (rowC (Eint .i64) [1, 1]) 3 (Eint .i64).sz] := (HS142.back [] HSo rfl).sel [0, 1, 2, 3, 4, 5, 6] rfl
                refine F_val rfl rfl rfl (O_move rfl rfl) ?_
                refine F_val rfl rfl rfl (O_extract (v := .pointer none) rfl rfl rfl) ?_
                refine F_val rfl rfl rfl (O_extract (v := .int .i64 z151) rfl rfl rfl) ?_
                refine F_val rfl rfl rfl (O_assign rfl rfl) ?_
                refine F_val rfl rfl rfl (O_assign rfl rfl) ?_
                refine F_nil ?_
                refine L_seq ?_
                refine L_seq ?_
                refine L_region ?_
                refine F_val rfl rfl rfl (O_move rfl rfl) ?_
                refine F_val rfl rfl rfl (O_peq rfl rfl rfl Try.underlying41) ?_
                refine F_val rfl rfl rfl (O_move rfl rfl) ?_
                refine F_gval rfl rfl rfl rfl rfl rfl (O_move rfl rfl) ?_
                refine F_gval rfl rfl rfl rfl rfl rfl (O_peq rfl rfl rfl Try.underlying62) ?_
                refine F_val rfl rfl rfl (O_pickF rfl rfl rfl) ?_
                refine F_val rfl rfl rfl (O_move rfl rfl) ?_
                refine F_gskip rfl rfl rfl rfl rfl rfl rfl ?_
                refine F_gskip rfl rfl rfl rfl rfl rfl rfl ?_
                refine F_gskip rfl rfl rfl rfl rfl rfl rfl ?_
                refine F_val rfl rfl rfl (O_pickT rfl rfl rfl) ?_
                refine F_val rfl rfl rfl (O_move rfl rfl) ?_
                refine F_gskip rfl rfl rfl rfl rfl rfl rfl ?_
                refine F_gskip rfl rfl rfl rfl rfl rfl rfl ?_
                refine F_gskip rfl rfl rfl rfl rfl rfl rfl ?_
                refine F_val rfl rfl rfl (O_pickT rfl rfl rfl) ?_
                refine F_nil ?_
                refine L_cond rfl (fun _ => ?_) (fun hx => by cases hx)
                refine L_seq ?_
                refine L_region ?_
                refine F_val rfl rfl rfl (O_assign rfl rfl) ?_
                refine F_nil ?_
                refine L_ret (fun a ha => (post_ret1 ha rfl rfl ?_))
                obtain rfl := Option.some.inj H
                exact ⟨rfl, HS153.sel [] rfl⟩
              · refine F_call (xs := [.tmp 46]) rfl rfl rfl rfl Try.func45 nm45 rfl rfl ((code_NewDecoder.calls (HS142.give [] rfl (Lent.own HS142 (Lent.nil) (i := 6) rfl rfl ((HS142.cells_own (i := 6) rfl).self))) (HS142.own_capE (i := 6) rfl (by decide)) h149).mono (fun e w hc => ?_))
                obtain ⟨z154, z155, z156, z157, z158⟩ := z150
                have H := (onO_some _ _ _).symm.trans H
                obtain ⟨g161, A163, c164, A166, c167, A169, c170, rfl, HSo⟩ := hc
                refine ⟨.tuple #[.pointer (some ⟨g161, 0, none⟩), .int .i64 z151], rfl, ?_⟩
                have HS160 : Hp S0 w0 w [.box g9 [.slice A23 z19.length c24, .int .i64 z20] 98, .own A23 c24 (rowC (Eint .u8) z19) 5 (Eint .u8).sz, .own A85 c86 (rowC (Eint .i64) [1, 1]) 3 (Eint .i64).sz, .box g133 (([.slice A135 z127.length c136, .slice A138 z128.length c139] : List Value) ++ rowC (Eint .i64) z129 ++ rowC (Eint .i64) z130) 94, .own A135 c136 (rowC (Eint .i64) z127) 3 (Eint .i64).sz, .own A138 c139 (rowC (Eint .i64) z128) 3 (Eint .i64).sz, .own A143 c144 (rowC (Eint .i64) [1, 1]) 3 (Eint .i64).sz, .box g161 (([.slice A163 z154.length c164, .slice A166 z155.length c167] : List Value) ++ rowC (Eint .i64) z156 ++ rowC (Eint .i64) z157 ++ ([.slice A169 z158.length c170] : List Value)) 108, .own A163 c164 (rowC (Eint .i64) z154) 3 (Eint .i64).sz, .own A166 c167 (rowC (Eint .i64) z155) 3 (Eint .i64).sz, .own A169 c170 (rowC (Eint .i64) z158) 3 (Eint .i64).sz] := (HS142.back [] HSo rfl).sel [0, 1, 2, 3, 4, 5, 6, 7, 8, 9, 10] rfl
                refine F_val rfl rfl rfl (O_move rfl rfl) ?_
                refine F_val rfl rfl rfl (O_extract (v := .pointer (some ⟨g161, 0, none⟩)) rfl rfl rfl) ?_
                refine F_val rfl rfl rfl (O_extract (v := .int .i64 z151) rfl rfl rfl) ?_
                refine F_val rfl rfl rfl (O_assign rfl rfl) ?_
                refine F_val rfl rfl rfl (O_assign rfl rfl) ?_
                refine F_nil ?_
                refine L_seq ?_
                refine L_seq ?_
                refine L_region ?_
                refine F_val rfl rfl rfl (O_move rfl rfl) ?_
                refine F_val rfl rfl rfl (O_peq rfl rfl rfl Try.underlying41) ?_
                refine F_val rfl rfl rfl (O_move rfl rfl) ?_
                refine F_gval rfl rfl rfl rfl rfl rfl (O_move rfl rfl) ?_
                refine F_gval rfl rfl rfl rfl rfl rfl (O_peq rfl rfl rfl Try.underlying62) ?_
                refine F_val rfl rfl rfl (O_pickF rfl rfl rfl) ?_
                refine F_val rfl rfl rfl (O_move rfl rfl) ?_
                refine F_gval rfl rfl rfl rfl rfl rfl (O_move rfl rfl) ?_
                refine F_gqcall (v := .int .i64 z93) (xs := [.tmp 57]) rfl rfl rfl rfl rfl rfl rfl Try.func23 nm23 rfl rfl ((valiselaw5_num.calls (HS160.give [] rfl (Lent.nil)) (rfl : valiselaw5_num.f z93 = some z93)).mono (fun e w hc => ?_)) (fun w175 hw176 => ?_)
                · obtain ⟨rfl, h⟩ := hc
                  exact ⟨rfl, h.chg0⟩
                have HS177 := HS160.keep hw176
                refine F_gval rfl rfl rfl rfl rfl rfl (O_ne rfl rfl rfl) ?_
                refine F_val rfl rfl rfl (O_pickF rfl rfl rfl) ?_
                refine F_val rfl rfl rfl (O_move rfl rfl) ?_
                refine F_grpQ 4 [(65, .bool (decide ((z93 ≠ 0) ∨ (z151 ≠ 0)))), (6, .pointer (some ⟨g133, 0, none⟩)), (8, .pointer (some ⟨g161, 0, none⟩))] ?_ (fun w184 hw185 => ?_)
                · rcases Decidable.em (z93 ≠ 0) with c187 | c187
                  · refine F_know (i := 61) rfl (dec_t c187) ?_
                    refine F_gskip rfl rfl rfl rfl rfl rfl rfl ?_
                    refine F_gskip rfl rfl rfl rfl rfl rfl rfl ?_
                    refine F_gskip rfl rfl rfl rfl rfl rfl rfl ?_
                    refine F_val rfl rfl rfl (O_pickT rfl rfl rfl) ?_
                    refine F_know (i := 65) rfl (dec_or_t (q := z151 ≠ 0) c187) ?_
                    exact F_grpQE (Chg.refl NoB _) (fun a ha => Is.cons ha (Is.cons ha (Is.cons ha (Is.nil ha) rfl) rfl) rfl)
                  · refine F_know (i := 61) rfl (dec_f c187) ?_
                    refine F_gval rfl rfl rfl rfl rfl rfl (O_move rfl rfl) ?_
                    refine F_gqcall (v := .int .i64 z151) (xs := [.tmp 62]) rfl rfl rfl rfl rfl rfl rfl Try.func23 nm23 rfl rfl ((valiselaw5_num.calls (HS177.give [] rfl (Lent.nil)) (rfl : valiselaw5_num.f z151 = some z151)).mono (fun e w hc => ?_)) (fun w191 hw192 => ?_)
                    · obtain ⟨rfl, h⟩ := hc
                      exact ⟨rfl, h.chg0⟩
                    have HS193 := HS177.keep hw192
                    refine F_gval rfl rfl rfl rfl rfl rfl (O_ne rfl rfl rfl) ?_
                    refine F_val rfl rfl rfl (O_pickF rfl rfl rfl) ?_
                    refine F_know (i := 65) rfl (dec_or_f (q := z151 ≠ 0) c187) ?_
                    exact F_grpQE ((Chg.refl NoB _).trans hw192) (fun a ha => Is.cons ha (Is.cons ha (Is.cons ha (Is.nil ha) rfl) rfl) rfl)
                · have HS186 := HS177.keep hw185
                  refine F_nil ?_
                  refine L_condP rfl (fun c194 => ?_) (fun c194 => ?_)
                  · have H := of_pos H c194
                    refine L_seq ?_
                    refine L_region ?_
                    refine F_val rfl rfl rfl (O_assign rfl rfl) ?_
                    refine F_nil ?_
                    refine L_ret (fun a ha => (post_ret1 ha rfl rfl ?_))
                    obtain rfl := Option.some.inj H
                    exact ⟨rfl, HS186.sel [] rfl⟩
                  · have H := of_neg H c194
                    refine L_skip ?_
                    refine L_seq ?_
                    refine L_region ?_
                    refine F_val rfl rfl rfl (O_move rfl rfl) ?_
                    obtain ⟨z197, h196, H⟩ := of_bind H
                    refine F_qcall (v := .int .i64 z197) (xs := [.tmp 66, .const (.pointer none), .const (.int .i64 0)]) rfl rfl rfl rfl Try.func36 nm36 rfl rfl ((code_Encoder_Put_n1.calls (HS186.give [] rfl (Lent.box HS186 (Lent.own HS186 (Lent.own HS186 (Lent.nil) (i := 5) rfl rfl ((HS186.cells_own (i := 5) rfl).self)) (i := 4) rfl rfl ((HS186.cells_own (i := 4) rfl).self)) (i := 3) rfl rfl (HS186.cells_box (i := 3) rfl).self)) h196).mono (fun e w hc => ?_)) (fun w198 hw199 => ?_)
                    · obtain ⟨rfl, h⟩ := hc
                      exact ⟨rfl, h.chg0⟩
                    have HS200 := HS186.keep hw199
                    refine F_val rfl rfl rfl (O_assign rfl rfl) ?_
                    refine F_nil ?_
                    refine L_seq ?_
                    refine L_region ?_
                    refine F_val rfl rfl rfl (O_move rfl rfl) ?_
                    obtain ⟨z203, h202, H⟩ := of_bind H
                    refine F_qcall (v := .int .i64 z203) (xs := [.tmp 68, .const (.pointer none), .const (.int .i64 7)]) rfl rfl rfl rfl Try.func36 nm36 rfl rfl ((code_Encoder_Put_n1.calls (HS200.give [] rfl (Lent.box HS200 (Lent.own HS200 (Lent.own HS200 (Lent.nil) (i := 5) rfl rfl ((HS200.cells_own (i := 5) rfl).self)) (i := 4) rfl rfl ((HS200.cells_own (i := 4) rfl).self)) (i := 3) rfl rfl (HS200.cells_box (i := 3) rfl).self)) h202).mono (fun e w hc => ?_)) (fun w204 hw205 => ?_)
                    · obtain ⟨rfl, h⟩ := hc
                      exact ⟨rfl, h.chg0⟩
                    have HS206 := HS200.keep hw205
                    refine F_val rfl rfl rfl (O_assign rfl rfl) ?_
                    refine F_nil ?_
                    refine L_seq ?_
                    refine L_region ?_
                    refine F_val rfl rfl rfl (O_move rfl rfl) ?_
                    obtain ⟨⟨z209, z210⟩, h208, H⟩ := of_bind H
                    refine F_qcall (v := .tuple #[.int .i64 z209, .int .i64 z210]) (xs := [.tmp 71, .const (.pointer none)]) rfl rfl rfl rfl Try.func51 nm51 rfl rfl ((code_Decoder_Next_n1.calls (HS206.give [] rfl (Lent.box HS206 (Lent.own HS206 (Lent.own HS206 (Lent.own HS206 (Lent.nil) (i := 10) rfl rfl ((HS206.cells_own (i := 10) rfl).self)) (i := 9) rfl rfl ((HS206.cells_own (i := 9) rfl).self)) (i := 8) rfl rfl ((HS206.cells_own (i := 8) rfl).self)) (i := 7) rfl rfl (HS206.cells_box (i := 7) rfl).self)) h208).mono (fun e w hc => ?_)) (fun w211 hw212 => ?_)
                    · obtain ⟨rfl, h⟩ := hc
                      exact ⟨rfl, h.chg0⟩
                    have HS213 := HS206.keep hw212
                    refine F_val rfl rfl rfl (O_move rfl rfl) ?_
                    refine F_val rfl rfl rfl (O_extract (v := .int .i64 z209) rfl rfl rfl) ?_
                    refine F_val rfl rfl rfl (O_extract (v := .int .i64 z210) rfl rfl rfl) ?_
                    refine F_val rfl rfl rfl (O_assign rfl rfl) ?_
                    refine F_val rfl rfl rfl (O_assign rfl rfl) ?_
                    refine F_nil ?_
                    refine L_seq ?_
                    refine L_region ?_
                    refine F_val rfl rfl rfl (O_move rfl rfl) ?_
                    refine F_qcall (v := .int .i64 z197) (xs := [.tmp 75]) rfl rfl rfl rfl Try.func23 nm23 rfl rfl ((valiselaw5_num.calls (HS213.give [] rfl (Lent.nil)) (rfl : valiselaw5_num.f z197 = some z197)).mono (fun e w hc => ?_)) (fun w217 hw218 => ?_)
                    · obtain ⟨rfl, h⟩ := hc
                      exact ⟨rfl, h.chg0⟩
                    have HS219 := HS213.keep hw218
                    refine F_val rfl rfl rfl (O_eq rfl rfl rfl) ?_
                    refine F_val rfl rfl rfl (O_move rfl rfl) ?_
                    refine F_grpQ 4 [(82, .bool (decide ((z197 = 1) ∧ (z203 = 1)))), (12, .int .i64 z209), (13, .int .i64 z210)] ?_ (fun w226 hw227 => ?_)
                    · rcases Decidable.em (z197 = 1) with c229 | c229
                      · refine F_know (i := 78) rfl (dec_t c229) ?_
                        refine F_gval rfl rfl rfl rfl rfl rfl (O_move rfl rfl) ?_
                        refine F_gqcall (v := .int .i64 z203) (xs := [.tmp 79]) rfl rfl rfl rfl rfl rfl rfl Try.func23 nm23 rfl rfl ((valiselaw5_num.calls (HS219.give [] rfl (Lent.nil)) (rfl : valiselaw5_num.f z203 = some z203)).mono (fun e w hc => ?_)) (fun w233 hw234 => ?_)
                        · obtain ⟨rfl, h⟩ := hc
                          exact ⟨rfl, h.chg0⟩
                        have HS235 := HS219.keep hw234
                        refine F_gval rfl rfl rfl rfl rfl rfl (O_eq rfl rfl rfl) ?_
                        refine F_val rfl rfl rfl (O_pickT rfl rfl rfl) ?_
                        refine F_know (i := 82) rfl (dec_and_t (q := z203 = 1) c229) ?_
                        exact F_grpQE ((Chg.refl NoB _).trans hw234) (fun a ha => Is.cons ha (Is.cons ha (Is.cons ha (Is.nil ha) rfl) rfl) rfl)
                      · refine F_know (i := 78) rfl (dec_f c229) ?_
                        refine F_gskip rfl rfl rfl rfl rfl rfl rfl ?_
                        refine F_gskip rfl rfl rfl rfl rfl rfl rfl ?_
                        refine F_gskip rfl rfl rfl rfl rfl rfl rfl ?_
                        refine F_val rfl rfl rfl (O_pickF rfl rfl rfl) ?_
                        refine F_know (i := 82) rfl (dec_and_f (q := z203 = 1) c229) ?_
                        exact F_grpQE (Chg.refl NoB _) (fun a ha => Is.cons ha (Is.cons ha (Is.cons ha (Is.nil ha) rfl) rfl) rfl)
                    · have HS228 := HS219.keep hw227
                      refine F_val rfl rfl rfl (O_move rfl rfl) ?_
                      refine F_grp 3 [(86, .bool (decide (((z197 = 1) ∧ (z203 = 1)) ∧ (z209 = 0)))), (13, .int .i64 z210)] ?_ ?_
                      · rcases Decidable.em ((z197 = 1) ∧ (z203 = 1)) with c239 | c239
                        · refine F_know (i := 83) rfl (dec_t c239) ?_
                          refine F_gval rfl rfl rfl rfl rfl rfl (O_move rfl rfl) ?_
                          refine F_gval rfl rfl rfl rfl rfl rfl (O_eq rfl rfl rfl) ?_
                          refine F_val rfl rfl rfl (O_pickT rfl rfl rfl) ?_
                          refine F_know (i := 86) rfl (dec_and_t (q := z209 = 0) c239) ?_
                          exact F_grpE (fun a ha => Is.cons ha (Is.cons ha (Is.nil ha) rfl) rfl)
                        · refine F_know (i := 83) rfl (dec_f c239) ?_
                          refine F_gskip rfl rfl rfl rfl rfl rfl rfl ?_
                          refine F_gskip rfl rfl rfl rfl rfl rfl rfl ?_
                          refine F_val rfl rfl rfl (O_pickF rfl rfl rfl) ?_
                          refine F_know (i := 86) rfl (dec_and_f (q := z209 = 0) c239) ?_
                          exact F_grpE (fun a ha => Is.cons ha (Is.cons ha (Is.nil ha) rfl) rfl)
                      · skip
                        refine F_val rfl rfl rfl (O_move rfl rfl) ?_
                        refine F_grpQ 4 [(91, .bool (decide ((((z197 = 1) ∧ (z203 = 1)) ∧ (z209 = 0)) ∧ (z210 = 1))))] ?_ (fun w246 hw247 => ?_)
                        · rcases Decidable.em (((z197 = 1) ∧ (z203 = 1)) ∧ (z209 = 0)) with c249 | c249
                          · refine F_know (i := 87) rfl (dec_t c249) ?_
                            refine F_gval rfl rfl rfl rfl rfl rfl (O_move rfl rfl) ?_
                            refine F_gqcall (v := .int .i64 z210) (xs := [.tmp 88]) rfl rfl rfl rfl rfl rfl rfl Try.func23 nm23 rfl rfl ((valiselaw5_num.calls (HS228.give [] rfl (Lent.nil)) (rfl : valiselaw5_num.f z210 = some z210)).mono (fun e w hc => ?_)) (fun w253 hw254 => ?_)
                            · obtain ⟨rfl, h⟩ := hc
                              exact ⟨rfl, h.chg0⟩
                            have HS255 := HS228.keep hw254
                            refine F_gval rfl rfl rfl rfl rfl rfl (O_eq rfl rfl rfl) ?_
                            refine F_val rfl rfl rfl (O_pickT rfl rfl rfl) ?_
                            refine F_know (i := 91) rfl (dec_and_t (q := z210 = 1) c249) ?_
                            exact F_grpQE ((Chg.refl NoB _).trans hw254) (fun a ha => Is.cons ha (Is.nil ha) rfl)
                          · refine F_know (i := 87) rfl (dec_f c249) ?_
                            refine F_gskip rfl rfl rfl rfl rfl rfl rfl ?_
                            refine F_gskip rfl rfl rfl rfl rfl rfl rfl ?_
                            refine F_gskip rfl rfl rfl rfl rfl rfl rfl ?_
                            refine F_val rfl rfl rfl (O_pickF rfl rfl rfl) ?_
                            refine F_know (i := 91) rfl (dec_and_f (q := z210 = 1) c249) ?_
                            exact F_grpQE (Chg.refl NoB _) (fun a ha => Is.cons ha (Is.nil ha) rfl)
                        · have HS248 := HS228.keep hw247
                          refine F_val rfl rfl rfl (O_assign rfl rfl) ?_
                          refine F_nil ?_
                          refine L_ret (fun a ha => (post_ret1 ha rfl rfl ?_))
                          obtain rfl := Option.some.inj H
                          exact ⟨rfl, HS248.sel [] rfl⟩
  · refine F_call (xs := [.const (.slice none 0 0)]) rfl rfl rfl rfl Try.func47 nm47 rfl rfl ((bits_NewReader.calls (HS22.give [] rfl (Lent.nilrd (Lent.nil))) (Nat.zero_le _) h28).mono (fun e w hc => ?_))
    obtain ⟨z256, z257⟩ := z29
    have H := (onO_some _ _ _).symm.trans H
    obtain ⟨g260, A262, c263, rfl, HSo⟩ := hc
    refine ⟨.pointer (some ⟨g260, 0, none⟩), rfl, ?_⟩
    have HS259 : Hp S0 w0 w [.box g9 [.slice A23 z19.length c24, .int .i64 z20] 98, .own A23 c24 (rowC (Eint .u8) z19) 5 (Eint .u8).sz, .box g260 [.slice A262 z256.length c263, .int .i64 z257] 112, .own A262 c263 (rowC (Eint .u8) z256) 5 (Eint .u8).sz] := (HS22.back [] HSo rfl).sel [0, 1, 2, 3] rfl
    obtain ⟨⟨z269, z270, z271, z272⟩, h268, H⟩ := of_bind H
    refine F_call (xs := [.tmp 18, .tmp 19]) rfl rfl rfl rfl Try.func51 nm51 rfl rfl ((code_Decoder_Next_n0.calls (HS259.give [2, 3] rfl (Lent.nil)) h268).mono (fun e w hc => ?_))
    obtain ⟨A275, c276, rfl, HSo⟩ := hc
    refine ⟨.tuple #[.int .i64 z269, .int .i64 z270], rfl, ?_⟩
    have HS274 : Hp S0 w0 w [.box g9 [.slice A23 z19.length c24, .int .i64 z20] 98, .own A23 c24 (rowC (Eint .u8) z19) 5 (Eint .u8).sz, .box g260 [.slice A275 z271.length c276, .int .i64 z272] 112, .own A275 c276 (rowC (Eint .u8) z271) 5 (Eint .u8).sz] := (HS259.back [2, 3] HSo rfl).sel [0, 1, 4, 5] rfl
    refine F_val rfl rfl rfl (O_move rfl rfl) ?_
    refine F_val rfl rfl rfl (O_extract (v := .int .i64 z269) rfl rfl rfl) ?_
    refine F_val rfl rfl rfl (O_extract (v := .int .i64 z270) rfl rfl rfl) ?_
    refine F_val rfl rfl rfl (O_assign rfl rfl) ?_
    refine F_val rfl rfl rfl (O_assign rfl rfl) ?_
    refine F_nil ?_
    refine L_seq ?_
    refine L_seq ?_
    refine L_region ?_
    refine F_val rfl rfl rfl (O_move rfl rfl) ?_
    refine F_qcall (v := .int .i64 z18) (xs := [.tmp 23]) rfl rfl rfl rfl Try.func23 nm23 rfl rfl ((valiselaw5_num.calls (HS274.give [] rfl (Lent.nil)) (rfl : valiselaw5_num.f z18 = some z18)).mono (fun e w hc => ?_)) (fun w280 hw281 => ?_)
    · obtain ⟨rfl, h⟩ := hc
      exact ⟨rfl, h.chg0⟩
    have HS282 := HS274.keep hw281
    refine F_val rfl rfl rfl (O_ne rfl rfl rfl) ?_
    refine F_val rfl rfl rfl (O_move rfl rfl) ?_
    refine F_grp 3 [(29, .bool (decide ((z18 ≠ 1) ∨ (z269 ≠ 0)))), (1, .pointer none), (5, .int .i64 z270)] ?_ ?_
    · rcases Decidable.em (z18 ≠ 1) with c286 | c286
      · refine F_know (i := 26) rfl (dec_t c286) ?_
        refine F_gskip rfl rfl rfl rfl rfl rfl rfl ?_
        refine F_gskip rfl rfl rfl rfl rfl rfl rfl ?_
        refine F_val rfl rfl rfl (O_pickT rfl rfl rfl) ?_
        refine F_know (i := 29) rfl (dec_or_t (q := z269 ≠ 0) c286) ?_
        exact F_grpE (fun a ha => Is.cons ha (Is.cons ha (Is.cons ha (Is.nil ha) rfl) rfl) rfl)
      · refine F_know (i := 26) rfl (dec_f c286) ?_
        refine F_gval rfl rfl rfl rfl rfl rfl (O_move rfl rfl) ?_
        refine F_gval rfl rfl rfl rfl rfl rfl (O_ne rfl rfl rfl) ?_
        refine F_val rfl rfl rfl (O_pickF rfl rfl rfl) ?_
        refine F_know (i := 29) rfl (dec_or_f (q := z269 ≠ 0) c286) ?_
        exact F_grpE (fun a ha => Is.cons ha (Is.cons ha (Is.cons ha (Is.nil ha) rfl) rfl) rfl)
    · skip
      refine F_val rfl rfl rfl (O_move rfl rfl) ?_
      refine F_grpQ 4 [(34, .bool (decide (((z18 ≠ 1) ∨ (z269 ≠ 0)) ∨ (z270 ≠ 1)))), (1, .pointer none)] ?_ (fun w293 hw294 => ?_)
      · rcases Decidable.em ((z18 ≠ 1) ∨ (z269 ≠ 0)) with c296 | c296
        · refine F_know (i := 30) rfl (dec_t c296) ?_
          refine F_gskip rfl rfl rfl rfl rfl rfl rfl ?_
          refine F_gskip rfl rfl rfl rfl rfl rfl rfl ?_
          refine F_gskip rfl rfl rfl rfl rfl rfl rfl ?_
          refine F_val rfl rfl rfl (O_pickT rfl rfl rfl) ?_
          refine F_know (i := 34) rfl (dec_or_t (q := z270 ≠ 1) c296) ?_
          exact F_grpQE (Chg.refl NoB _) (fun a ha => Is.cons ha (Is.cons ha (Is.nil ha) rfl) rfl)
        · refine F_know (i := 30) rfl (dec_f c296) ?_
          refine F_gval rfl rfl rfl rfl rfl rfl (O_move rfl rfl) ?_
          refine F_gqcall (v := .int .i64 z270) (xs := [.tmp 31]) rfl rfl rfl rfl rfl rfl rfl Try.func23 nm23 rfl rfl ((valiselaw5_num.calls (HS282.give [] rfl (Lent.nil)) (rfl : valiselaw5_num.f z270 = some z270)).mono (fun e w hc => ?_)) (fun w300 hw301 => ?_)
          · obtain ⟨rfl, h⟩ := hc
            exact ⟨rfl, h.chg0⟩
          have HS302 := HS282.keep hw301
          refine F_gval rfl rfl rfl rfl rfl rfl (O_ne rfl rfl rfl) ?_
          refine F_val rfl rfl rfl (O_pickF rfl rfl rfl) ?_
          refine F_know (i := 34) rfl (dec_or_f (q := z270 ≠ 1) c296) ?_
          exact F_grpQE ((Chg.refl NoB _).trans hw301) (fun a ha => Is.cons ha (Is.cons ha (Is.nil ha) rfl) rfl)
      · have HS295 := HS282.keep hw294
        refine F_val rfl rfl rfl (O_move rfl rfl) ?_
        obtain ⟨b309, Hb309, H⟩ := of_bind H
        refine F_grpQ 4 [(39, .bool b309)] ?_ (fun w310 hw311 => ?_)
        · rcases Decidable.em (((z18 ≠ 1) ∨ (z269 ≠ 0)) ∨ (z270 ≠ 1)) with c313 | c313
          · refine F_know (i := 35) rfl (dec_t c313) ?_
            have H := of_pos Hb309 c313
            refine F_gskip rfl rfl rfl rfl rfl rfl rfl ?_
            refine F_gskip rfl rfl rfl rfl rfl rfl rfl ?_
            refine F_gskip rfl rfl rfl rfl rfl rfl rfl ?_
            refine F_val rfl rfl rfl (O_pickT rfl rfl rfl) ?_
            refine F_know (i := 39) rfl (congrArg Value.bool (Option.some.inj H)) ?_
            exact F_grpQE (Chg.refl NoB _) (fun a ha => Is.cons ha (Is.nil ha) rfl)
          · refine F_know (i := 35) rfl (dec_f c313) ?_
            have H := of_neg Hb309 c313
            refine F_gval rfl rfl rfl rfl rfl rfl (O_move rfl rfl) ?_
            obtain ⟨z316, h315, H⟩ := of_bind H
            refine F_gqcall (v := .int .i64 z316) (xs := [.tmp 36, .const (.int .i64 0)]) rfl rfl rfl rfl rfl rfl rfl Try.func38 nm38 rfl rfl ((code_Encoder_Len_n0.calls (HS295.give [] rfl (Lent.nil)) h315).mono (fun e w hc => ?_)) (fun w317 hw318 => ?_)
            · obtain ⟨rfl, h⟩ := hc
              exact ⟨rfl, h.chg0⟩
            have HS319 := HS295.keep hw318
            refine F_gval rfl rfl rfl rfl rfl rfl (O_ne rfl rfl rfl) ?_
            refine F_val rfl rfl rfl (O_pickF rfl rfl rfl) ?_
            refine F_know (i := 39) rfl (congrArg Value.bool (Option.some.inj H)) ?_
            exact F_grpQE ((Chg.refl NoB _).trans hw318) (fun a ha => Is.cons ha (Is.nil ha) rfl)
        · have HS312 := HS295.keep hw311
          refine F_nil ?_
          refine L_cond rfl (fun c320 => ?_) (fun c320 => ?_)
          · have H := of_pos H c320
            refine L_seq ?_
            refine L_region ?_
            refine F_val rfl rfl rfl (O_assign rfl rfl) ?_
            refine F_nil ?_
            refine L_ret (fun a ha => (post_ret1 ha rfl rfl ?_))
            obtain rfl := Option.some.inj H
            exact ⟨rfl, HS312.sel [] rfl⟩
          · have H := of_neg H (by rw [c320]; exact Bool.false_ne_true)
            refine L_skip ?_
            refine L_seq ?_
            refine L_region ?_
            refine F_litE (E := (Eint .i64)) (e := 3) [(0, .int .i64 1), (1, .int .i64 1)] [1, 1] rfl rfl rfl rfl rfl rfl rfl (by decide) (fun w => by kernel_rfl) HS312 (fun w321 A323 c324 HS322 => ?_)
            have HS322 : Hp S0 w0 w321 [.box g9 [.slice A23 z19.length c24, .int .i64 z20] 98, .own A23 c24 (rowC (Eint .u8) z19) 5 (Eint .u8).sz, .box g260 [.slice A275 z271.length c276, .int .i64 z272] 112, .own A275 c276 (rowC (Eint .u8) z271) 5 (Eint .u8).sz, .own A323 c324 (rowC (Eint .i64) [1, 1]) 3 (Eint .i64).sz] := HS322
            obtain ⟨⟨z330, z331⟩, h329, H⟩ := of_bind H
            rcases z330 with _ | z330
            · refine F_call (xs := [.tmp 41]) rfl rfl rfl rfl Try.func30 nm30 rfl rfl ((code_NewEncoder.calls (HS322.give [] rfl (Lent.own HS322 (Lent.nil) (i := 4) rfl rfl ((HS322.cells_own (i := 4) rfl).self))) (HS322.own_capE (i := 4) rfl (by decide)) h329).mono (fun e w hc => ?_))
              have H := (onO_none _ _).symm.trans H
              obtain ⟨rfl, HSo⟩ := hc
              refine ⟨.tuple #[.pointer none, .int .i64 z331], rfl, ?_⟩
              have HS333 : Hp S0 w0 w [.box g9 [.slice A23 z19.length c24, .int .i64 z20] 98, .own A23 c24 (rowC (Eint .u8) z19) 5 (Eint .u8).sz, .box g260 [.slice A275 z271.length c276, .int .i64 z272] 112, .own A275 c276 (rowC (Eint .u8) z271) 5 (Eint .u8).sz, .own A323 c324 (rowC (Eint .i64) [1, 1]) 3 (Eint .i64).sz] := (HS322.back [] HSo rfl).sel [0, 1, 2, 3, 4] rfl
              refine F_val rfl rfl rfl (O_move rfl rfl) ?_
              refine F_val rfl rfl rfl (O_extract (v := .pointer none) rfl rfl rfl) ?_
              refine F_val rfl rfl rfl (O_extract (v := .int .i64 z331) rfl rfl rfl) ?_
              refine F_val rfl rfl rfl (O_assign rfl rfl) ?_
              refine F_val rfl rfl rfl (O_assign rfl rfl) ?_
              refine F_nil ?_
              refine L_seq ?_
              refine L_region ?_
              refine F_litE (E := (Eint .i64)) (e := 3) [(0, .int .i64 1), (1, .int .i64 1)] [1, 1] rfl rfl rfl rfl rfl rfl rfl (by decide) (fun w => by kernel_rfl) HS333 (fun w334 A336 c337 HS335 => ?_)
              have HS335 : Hp S0 w0 w334 [.box g9 [.slice A23 z19.length c24, .int .i64 z20] 98, .own A23 c24 (rowC (Eint .u8) z19) 5 (Eint .u8).sz, .box g260 [.slice A275 z271.length c276, .int .i64 z272] 112, .own A275 c276 (rowC (Eint .u8) z271) 5 (Eint .u8).sz, .own A323 c324 (rowC (Eint .i64) [1, 1]) 3 (Eint .i64).sz, .own A336 c337 (rowC (Eint .i64) [1, 1]) 3 (Eint .i64).sz] := HS335
              obtain ⟨⟨z343, z344⟩, h342, H⟩ := of_bind H
              rcases z343 with _ | z343
              · refine F_call (xs := [.tmp 46]) rfl rfl rfl rfl Try.func45 nm45 rfl rfl ((code_NewDecoder.calls (HS335.give [] rfl (Lent.own HS335 (Lent.nil) (i := 5) rfl rfl ((HS335.cells_own (i := 5) rfl).self))) (HS335.own_capE (i := 5) rfl (by decide)) h342).mono (fun e w hc => ?_))
                have H := (onO_none _ _).symm.trans H
                obtain ⟨rfl, HSo⟩ := hc
                refine ⟨.tuple #[.pointer none, .int .i64 z344], rfl, ?_⟩
                have HS346 : Hp S0 w0 w [.box g9 [.slice A23 z19.length c24, .int .i64 z20] 98, .own A23 c24 (rowC (Eint .u8) z19) 5 (Eint .u8).sz, .box g260 [.slice A275 z271.length c276, .int .i64 z272] 112, .own A275 c276 (rowC (Eint .u8) z271) 5 (Eint .u8).sz, .own A323 c324 (rowC (Eint .i64) [1, 1]) 3 (Eint .i64).sz, .own A336 c337 (rowC (Eint .i64) [1, 1]) 3 (Eint .i64).sz] := (HS335.back [] HSo rfl).sel [0, 1, 2, 3, 4, 5] rfl
                refine F_val rfl rfl rfl (O_move rfl rfl) ?_
                refine F_val rfl rfl rfl (O_extract (v := .pointer none) rfl rfl rfl) ?_
                refine F_val rfl rfl rfl (O_extract (v := .int .i64 z344) rfl rfl rfl) ?_
                refine F_val rfl rfl rfl (O_assign rfl rfl) ?_
                refine F_val rfl rfl rfl (O_assign rfl rfl) ?_
                refine F_nil ?_
                refine L_seq ?_
                refine L_seq ?_
                refine L_region ?_
                refine F_val rfl rfl rfl (O_move rfl rfl) ?_
                refine F_val rfl rfl rfl (O_peq rfl rfl rfl Try.underlying41) ?_
                refine F_val rfl rfl rfl (O_move rfl rfl) ?_
                refine F_gskip rfl rfl rfl rfl rfl rfl rfl ?_
                refine F_gskip rfl rfl rfl rfl rfl rfl rfl ?_
                refine F_val rfl rfl rfl (O_pickT rfl rfl rfl) ?_
                refine F_val rfl rfl rfl (O_move rfl rfl) ?_
                refine F_gskip rfl rfl rfl rfl rfl rfl rfl ?_
                refine F_gskip rfl rfl rfl rfl rfl rfl rfl ?_
                refine F_gskip rfl rfl rfl rfl rfl rfl rfl ?_
                refine F_val rfl rfl rfl (O_pickT rfl rfl rfl) ?_
                refine F_val rfl rfl rfl (O_move rfl rfl) ?_
                refine F_gskip rfl rfl rfl rfl rfl rfl rfl ?_
                refine F_gskip rfl rfl rfl rfl rfl rfl rfl ?_
                refine F_gskip rfl rfl rfl rfl rfl rfl rfl ?_
                refine F_val rfl rfl rfl (O_pickT rfl rfl rfl) ?_
                refine F_nil ?_
                refine L_cond rfl (fun _ => ?_) (fun hx => by cases hx)
                refine L_seq ?_
                refine L_region ?_
                refine F_val rfl rfl rfl (O_assign rfl rfl) ?_
                refine F_nil ?_
                refine L_ret (fun a ha => (post_ret1 ha rfl rfl ?_))
                obtain rfl := Option.some.inj H
                exact ⟨rfl, HS346.sel [] rfl⟩
              · refine F_call (xs := [.tmp 46]) rfl rfl rfl rfl Try.func45 nm45 rfl rfl ((code_NewDecoder.calls (HS335.give [] rfl (Lent.own HS335 (Lent.nil) (i := 5) rfl rfl ((HS335.cells_own (i := 5) rfl).self))) (HS335.own_capE (i := 5) rfl (by decide)) h342).mono (fun e w hc => ?_))
                obtain ⟨z347, z348, z349, z350, z351⟩ := z343
                have H := (onO_some _ _ _).symm.trans H
                obtain ⟨g354, A356, c357, A359, c360, A362, c363, rfl, HSo⟩ := hc
                refine ⟨.tuple #[.pointer (some ⟨g354, 0, none⟩), .int .i64 z344], rfl, ?_⟩
                have HS353 : Hp S0 w0 w [.box g9 [.slice A23 z19.length c24, .int .i64 z20] 98, .own A23 c24 (rowC (Eint .u8) z19) 5 (Eint .u8).sz, .box g260 [.slice A275 z271.length c276, .int .i64 z272] 112, .own A275 c276 (rowC (Eint .u8) z271) 5 (Eint .u8).sz, .own A323 c324 (rowC (Eint .i64) [1, 1]) 3 (Eint .i64).sz, .own A336 c337 (rowC (Eint .i64) [1, 1]) 3 (Eint .i64).sz, .box g354 (([.slice A356 z347.length c357, .slice A359 z348.length c360] : List Value) ++ rowC (Eint .i64) z349 ++ rowC (Eint .i64) z350 ++ ([.slice A362 z351.length c363] : List Value)) 108, .own A356 c357 (rowC (Eint .i64) z347) 3 (Eint .i64).sz, .own A359 c360 (rowC (Eint .i64) z348) 3 (Eint .i64).sz, .own A362 c363 (rowC (Eint .i64) z351) 3 (Eint .i64).sz] := (HS335.back [] HSo rfl).sel [0, 1, 2, 3, 4, 5, 6, 7, 8, 9] rfl
                refine F_val rfl rfl rfl (O_move rfl rfl) ?_
                refine F_val rfl rfl rfl (O_extract (v := .pointer (some ⟨g354, 0, none⟩)) rfl rfl rfl) ?_
                refine F_val rfl rfl rfl (O_extract (v := .int .i64 z344) rfl rfl rfl) ?_
                refine F_val rfl rfl rfl (O_assign rfl rfl) ?_
                refine F_val rfl rfl rfl (O_assign rfl rfl) ?_
                refine F_nil ?_
                refine L_seq ?_
                refine L_seq ?_
                refine L_region ?_
                refine F_val rfl rfl rfl (O_move rfl rfl) ?_
                refine F_val rfl rfl rfl (O_peq rfl rfl rfl Try.underlying41) ?_
                refine F_val rfl rfl rfl (O_move rfl rfl) ?_
                refine F_gskip rfl rfl rfl rfl rfl rfl rfl ?_
                refine F_gskip rfl rfl rfl rfl rfl rfl rfl ?_
                refine F_val rfl rfl rfl (O_pickT rfl rfl rfl) ?_
                refine F_val rfl rfl rfl (O_move rfl rfl) ?_
                refine F_gskip rfl rfl rfl rfl rfl rfl rfl ?_
                refine F_gskip rfl rfl rfl rfl rfl rfl rfl ?_
                refine F_gskip rfl rfl rfl rfl rfl rfl rfl ?_
                refine F_val rfl rfl rfl (O_pickT rfl rfl rfl) ?_
                refine F_val rfl rfl rfl (O_move rfl rfl) ?_
                refine F_gskip rfl rfl rfl rfl rfl rfl rfl ?_
                refine F_gskip rfl rfl rfl rfl rfl rfl rfl ?_
                refine F_gskip rfl rfl rfl rfl rfl rfl rfl ?_
                refine F_val rfl rfl rfl (O_pickT rfl rfl rfl) ?_
                refine F_nil ?_
                refine L_cond rfl (fun _ => ?_) (fun hx => by cases hx)
                refine L_seq ?_
                refine L_region ?_
                refine F_val rfl rfl rfl (O_assign rfl rfl) ?_
                refine F_nil ?_
                refine L_ret (fun a ha => (post_ret1 ha rfl rfl ?_))
                obtain rfl := Option.some.inj H
                exact ⟨rfl, HS353.sel [] rfl⟩
            · refine F_call (xs := [.tmp 41]) rfl rfl rfl rfl Try.func30 nm30 rfl rfl ((code_NewEncoder.calls (HS322.give [] rfl (Lent.own HS322 (Lent.nil) (i := 4) rfl rfl ((HS322.cells_own (i := 4) rfl).self))) (HS322.own_capE (i := 4) rfl (by decide)) h329).mono (fun e w hc => ?_))
              obtain ⟨z365, z366, z367, z368⟩ := z330
              have H := (onO_some _ _ _).symm.trans H
              obtain ⟨g371, A373, c374, A376, c377, rfl, HSo⟩ := hc
              refine ⟨.tuple #[.pointer (some ⟨g371, 0, none⟩), .int .i64 z331], rfl, ?_⟩
              have HS370 : Hp S0 w0 w [.box g9 [.slice A23 z19.length c24, .int .i64 z20] 98, .own A23 c24 (rowC (Eint .u8) z19) 5 (Eint .u8).sz, .box g260 [.slice A275 z271.length c276, .int .i64 z272] 112, .own A275 c276 (rowC (Eint .u8) z271) 5 (Eint .u8).sz, .own A323 c324 (rowC (Eint .i64) [1, 1]) 3 (Eint .i64).sz, .box g371 (([.slice A373 z365.length c374, .slice A376 z366.length c377] : List Value) ++ rowC (Eint .i64) z367 ++ rowC (Eint .i64) z368) 94, .own A373 c374 (rowC (Eint .i64) z365) 3 (Eint .i64).sz, .own A376 c377 (rowC (Eint .i64) z366) 3 (Eint .i64).sz] := (HS322.back [] HSo rfl).sel [0, 1, 2, 3, 4, 5, 6, 7] rfl
              refine F_val rfl rfl rfl (O_move rfl rfl) ?_
              refine F_val rfl rfl rfl (O_extract (v := .pointer (some ⟨g371, 0, none⟩)) rfl rfl rfl) ?_
              refine F_val rfl rfl rfl (O_extract (v := .int .i64 z331) rfl rfl rfl) ?_
              refine F_val rfl rfl rfl (O_assign rfl rfl) ?_
              refine F_val rfl rfl rfl (O_assign rfl rfl) ?_
              refine F_nil ?_
              refine L_seq ?_
              refine L_region ?_
              refine F_litE (E := (Eint .i64)) (e := 3) [(0, .int .i64 1), (1, .int .i64 1)] [1, 1] rfl rfl rfl rfl rfl rfl rfl (by decide) (fun w => by kernel_rfl) HS370 (fun w379 A381 c382 HS380 => ?_)
              have HS380 : Hp S0 w0 w379 [.box g9 [.slice A23 z19.length c24, .int .i64 z20] 98, .own A23 c24 (rowC (Eint .u8) z19) 5 (Eint .u8).sz, .box g260 [.slice A275 z271.length c276, .int .i64 z272] 112, .own A275 c276 (rowC (Eint .u8) z271) 5 (Eint .u8).sz, .own A323 c324 (rowC (Eint .i64) [1, 1]) 3 (Eint .i64).sz, .box g371 (([.slice A373 z365.length c374, .slice A376 z366.length c377] : List Value) ++ rowC (Eint .i64) z367 ++ rowC (Eint .i64) z368) 94, .own A373 c374 (rowC (Eint .i64) z365) 3 (Eint .i64).sz, .own A376 c377 (rowC (Eint .i64) z366) 3 (Eint .i64).sz, .own A381 c382 (rowC (Eint .i64) [1, 1]) 3 (Eint .i64).sz] := HS380
              obtain ⟨⟨z388, z389⟩, h387, H⟩ := of_bind H
              rcases z388 with _ | z388
              · refine F_call (xs := [.tmp 46]) rfl rfl rfl rfl Try.func45 nm45 rfl rfl ((code_NewDecoder.calls (HS380.give [] rfl (Lent.own HS380 (Lent.nil) (i := 8) rfl rfl ((HS380.cells_own (i := 8) rfl).self))) (HS380.own_capE (i := 8) rfl (by decide)) h387).mono (fun e w hc => ?_))
                have H := (onO_none _ _).symm.trans H
                obtain ⟨rfl, HSo⟩ := hc
                refine ⟨.tuple #[.pointer none, .int .i64 z389], rfl, ?_⟩
                have HS391 : Hp S0 w0 w [.box g9 [.slice A23 z19.length c24, .int .i64 z20] 98, .own A23 c24 (rowC (Eint .u8) z19) 5 (Eint .u8).sz, .box g260 [.slice A275 z271.length c276, .int .i64 z272] 112, .own A275 c276 (rowC (Eint .u8) z271) 5 (Eint .u8).sz, .own A323 c324 (rowC (Eint .i64) [1, 1]) 3 (Eint .i64).sz, .box g371 (([.slice A373 z365.length c374, .slice A376 z366.length c377] : List Value) ++ rowC (Eint .i64) z367 ++ rowC (Eint .i64) z368) 94, .own A373 c374 (rowC (Eint .i64) z365) 3 (Eint .i64).sz, .own A376 c377 (rowC (Eint .i64) z366) 3 (Eint .i64).sz, .own A381 c382 (rowC (Eint .i64) [1, 1]) 3 (Eint .i64).sz] := (HS380.back [] HSo rfl).sel [0, 1, 2, 3, 4, 5, 6, 7, 8] rfl
                refine F_val rfl rfl rfl (O_move rfl rfl) ?_
                refine F_val rfl rfl rfl (O_extract (v := .pointer none) rfl rfl rfl) ?_
                refine F_val rfl rfl rfl (O_extract (v := .int .i64 z389) rfl rfl rfl) ?_
                refine F_val rfl rfl rfl (O_assign rfl rfl) ?_
                refine F_val rfl rfl rfl (O_assign rfl rfl) ?_
                refine F_nil ?_
                refine L_seq ?_
                refine L_seq ?_
                refine L_region ?_
                refine F_val rfl rfl rfl (O_move rfl rfl) ?_
                refine F_val rfl rfl rfl (O_peq rfl rfl rfl Try.underlying41) ?_
                refine F_val rfl rfl rfl (O_move rfl rfl) ?_
                refine F_gval rfl rfl rfl rfl rfl rfl (O_move rfl rfl) ?_
                refine F_gval rfl rfl rfl rfl rfl rfl (O_peq rfl rfl rfl Try.underlying62) ?_
                refine F_val rfl rfl rfl (O_pickF rfl rfl rfl) ?_
                refine F_val rfl rfl rfl (O_move rfl rfl) ?_
                refine F_gskip rfl rfl rfl rfl rfl rfl rfl ?_
                refine F_gskip rfl rfl rfl rfl rfl rfl rfl ?_
                refine F_gskip rfl rfl rfl rfl rfl rfl rfl ?_
                refine F_val rfl rfl rfl (O_pickT rfl rfl rfl) ?_
                refine F_val rfl rfl rfl (O_move rfl rfl) ?_
                refine F_gskip rfl rfl rfl rfl rfl rfl rfl ?_
                refine F_gskip rfl rfl rfl rfl rfl rfl rfl ?_
                refine F_gskip rfl rfl rfl rfl rfl rfl rfl ?_
                refine F_val rfl rfl rfl (O_pickT rfl rfl rfl) ?_
                refine F_nil ?_
                refine L_cond rfl (fun _ => ?_) (fun hx => by cases hx)
                refine L_seq ?_
                refine L_region ?_
                refine F_val rfl rfl rfl (O_assign rfl rfl) ?_
                refine F_nil ?_
                refine L_ret (fun a ha => (post_ret1 ha rfl rfl ?_))
                obtain rfl := Option.some.inj H
                exact ⟨rfl, HS391.sel [] rfl⟩
              · refine F_call (xs := [.tmp 46]) rfl rfl rfl rfl Try.func45 nm45 rfl rfl ((code_NewDecoder.calls (HS380.give [] rfl (Lent.own HS380 (Lent.nil) (i := 8) rfl rfl ((HS380.cells_own (i := 8) rfl).self))) (HS380.own_capE (i := 8) rfl (by decide)) h387).mono (fun e w hc => ?_))
                obtain ⟨z392, z393, z394, z395, z396⟩ := z388
                have H := (onO_some _ _ _).symm.trans H
                obtain ⟨g399, A401, c402, A404, c405, A407, c408, rfl, HSo⟩ := hc
                refine ⟨.tuple #[.pointer (some ⟨g399, 0, none⟩), .int .i64 z389], rfl, ?_⟩
                have HS398 : Hp S0 w0 w [.box g9 [.slice A23 z19.length c24, .int .i64 z20] 98, .own A23 c24 (rowC (Eint .u8) z19) 5 (Eint .u8).sz, .box g260 [.slice A275 z271.length c276, .int .i64 z272] 112, .own A275 c276 (rowC (Eint .u8) z271) 5 (Eint .u8).sz, .own A323 c324 (rowC (Eint .i64) [1, 1]) 3 (Eint .i64).sz, .box g371 (([.slice A373 z365.length c374, .slice A376 z366.length c377] : List Value) ++ rowC (Eint .i64) z367 ++ rowC (Eint .i64) z368) 94, .own A373 c374 (rowC (Eint .i64) z365) 3 (Eint .i64).sz, .own A376 c377 (rowC (Eint .i64) z366) 3 (Eint .i64).sz, .own A381 c382 (rowC (Eint .i64) [1, 1]) 3 (Eint .i64).sz, .box g399 (([.slice A401 z392.length c402, .slice A404 z393.length c405] : List Value) ++ rowC (Eint .i64) z394 ++ rowC (Eint .i64) z395 ++ ([.slice A407 z396.length c408] : List Value)) 108, .own A401 c402 (rowC (Eint .i64) z392) 3 (Eint .i64).sz, .own A404 c405 (rowC (Eint .i64) z393) 3 (Eint .i64).sz, .own A407 c408 (rowC (Eint .i64) z396) 3 (Eint .i64).sz] := (HS380.back [] HSo rfl).sel [0, 1, 2, 3, 4, 5, 6, 7, 8, 9, 10, 11, 12] rfl
                refine F_val rfl rfl rfl (O_move rfl rfl) ?_
                refine F_val rfl rfl rfl (O_extract (v := .pointer (some ⟨g399, 0, none⟩)) rfl rfl rfl) ?_
                refine F_val rfl rfl rfl (O_extract (v := .int .i64 z389) rfl rfl rfl) ?_
                refine F_val rfl rfl rfl (O_assign rfl rfl) ?_
                refine F_val rfl rfl rfl (O_assign rfl rfl) ?_
                refine F_nil ?_
                refine L_seq ?_
                refine L_seq ?_
                refine L_region ?_
                refine F_val rfl rfl rfl (O_move rfl rfl) ?_
                refine F_val rfl rfl rfl (O_peq rfl rfl rfl Try.underlying41) ?_
                refine F_val rfl rfl rfl (O_move rfl rfl) ?_
                refine F_gval rfl rfl rfl rfl rfl rfl (O_move rfl rfl) ?_
                refine F_gval rfl rfl rfl rfl rfl rfl (O_peq rfl rfl rfl Try.underlying62) ?_
                refine F_val rfl rfl rfl (O_pickF rfl rfl rfl) ?_
                refine F_val rfl rfl rfl (O_move rfl rfl) ?_
                refine F_gval rfl rfl rfl rfl rfl rfl (O_move rfl rfl) ?_
                refine F_gqcall (v := .int .i64 z331) (xs := [.tmp 57]) rfl rfl rfl rfl rfl rfl rfl Try.func23 nm23 rfl rfl ((valiselaw5_num.calls (HS398.give [] rfl (Lent.nil)) (rfl : valiselaw5_num.f z331 = some z331)).mono (fun e w hc => ?_)) (fun w413 hw414 => ?_)
                · obtain ⟨rfl, h⟩ := hc
                  exact ⟨rfl, h.chg0⟩
                have HS415 := HS398.keep hw414
                refine F_gval rfl rfl rfl rfl rfl rfl (O_ne rfl rfl rfl) ?_
                refine F_val rfl rfl rfl (O_pickF rfl rfl rfl) ?_
                refine F_val rfl rfl rfl (O_move rfl rfl) ?_
                refine F_grpQ 4 [(65, .bool (decide ((z331 ≠ 0) ∨ (z389 ≠ 0)))), (6, .pointer (some ⟨g371, 0, none⟩)), (8, .pointer (some ⟨g399, 0, none⟩))] ?_ (fun w422 hw423 => ?_)
                · rcases Decidable.em (z331 ≠ 0) with c425 | c425
                  · refine F_know (i := 61) rfl (dec_t c425) ?_
                    refine F_gskip rfl rfl rfl rfl rfl rfl rfl ?_
                    refine F_gskip rfl rfl rfl rfl rfl rfl rfl ?_
                    refine F_gskip rfl rfl rfl rfl rfl rfl rfl ?_
                    refine F_val rfl rfl rfl (O_pickT rfl rfl rfl) ?_
                    refine F_know (i := 65) rfl (dec_or_t (q := z389 ≠ 0) c425) ?_
                    exact F_grpQE (Chg.refl NoB _) (fun a ha => Is.cons ha (Is.cons ha (Is.cons ha (Is.nil ha) rfl) rfl) rfl)
                  · refine F_know (i := 61) rfl (dec_f c425) ?_
                    refine F_gval rfl rfl rfl rfl rfl rfl (O_move rfl rfl) ?_
                    refine F_gqcall (v := .int .i64 z389) (xs := [.tmp 62]) rfl rfl rfl rfl rfl rfl rfl Try.func23 nm23 rfl rfl ((valiselaw5_num.calls (HS415.give [] rfl (Lent.nil)) (rfl : valiselaw5_num.f z389 = some z389)).mono (fun e w hc => ?_)) (fun w429 hw430 => ?_)
                    · obtain ⟨rfl, h⟩ := hc
                      exact ⟨rfl, h.chg0⟩
                    have HS431 := HS415.keep hw430
                    refine F_gval rfl rfl rfl rfl rfl rfl (O_ne rfl rfl rfl) ?_
                    refine F_val rfl rfl rfl (O_pickF rfl rfl rfl) ?_
                    refine F_know (i := 65) rfl (dec_or_f (q := z389 ≠ 0) c425) ?_
                    exact F_grpQE ((Chg.refl NoB _).trans hw430) (fun a ha => Is.cons ha (Is.cons ha (Is.cons ha (Is.nil ha) rfl) rfl) rfl)
                · have HS424 := HS415.keep hw423
                  refine F_nil ?_
                  refine L_condP rfl (fun c432 => ?_) (fun c432 => ?_)
                  · have H := of_pos H c432
                    refine L_seq ?_
                    refine L_region ?_
                    refine F_val rfl rfl rfl (O_assign rfl rfl) ?_
                    refine F_nil ?_
                    refine L_ret (fun a ha => (post_ret1 ha rfl rfl ?_))
                    obtain rfl := Option.some.inj H
                    exact ⟨rfl, HS424.sel [] rfl⟩
                  · have H := of_neg H c432
                    refine L_skip ?_
                    refine L_seq ?_
                    refine L_region ?_
                    refine F_val rfl rfl rfl (O_move rfl rfl) ?_
                    obtain ⟨z435, h434, H⟩ := of_bind H
                    refine F_qcall (v := .int .i64 z435) (xs := [.tmp 66, .const (.pointer none), .const (.int .i64 0)]) rfl rfl rfl rfl Try.func36 nm36 rfl rfl ((code_Encoder_Put_n1.calls (HS424.give [] rfl (Lent.box HS424 (Lent.own HS424 (Lent.own HS424 (Lent.nil) (i := 7) rfl rfl ((HS424.cells_own (i := 7) rfl).self)) (i := 6) rfl rfl ((HS424.cells_own (i := 6) rfl).self)) (i := 5) rfl rfl (HS424.cells_box (i := 5) rfl).self)) h434).mono (fun e w hc => ?_)) (fun w436 hw437 => ?_)
                    · obtain ⟨rfl, h⟩ := hc
                      exact ⟨rfl, h.chg0⟩
                    have HS438 := HS424.keep hw437
                    refine F_val rfl rfl rfl (O_assign rfl rfl) ?_
                    refine F_nil ?_
                    refine L_seq ?_
                    refine L_region ?_
                    refine F_val rfl rfl rfl (O_move rfl rfl) ?_
                    obtain ⟨z441, h440, H⟩ := of_bind H
                    refine F_qcall (v := .int .i64 z441) (xs := [.tmp 68, .const (.pointer none), .const (.int .i64 7)]) rfl rfl rfl rfl Try.func36 nm36 rfl rfl ((code_Encoder_Put_n1.calls (HS438.give [] rfl (Lent.box HS438 (Lent.own HS438 (Lent.own HS438 (Lent.nil) (i := 7) rfl rfl ((HS438.cells_own (i := 7) rfl).self)) (i := 6) rfl rfl ((HS438.cells_own (i := 6) rfl).self)) (i := 5) rfl rfl (HS438.cells_box (i := 5) rfl).self)) h440).mono (fun e w hc => ?_)) (fun w442 hw443 => ?_)
                    · obtain ⟨rfl, h⟩ := hc
                      exact ⟨rfl, h.chg0⟩
                    have HS444 := HS438.keep hw443
                    refine F_val rfl rfl rfl (O_assign rfl rfl) ?_
                    refine F_nil ?_
                    refine L_seq ?_
                    refine L_region ?_
                    refine F_val rfl rfl rfl (O_move rfl rfl) ?_
                    obtain ⟨⟨z447, z448⟩, h446, H⟩ := of_bind H
                    refine F_qcall (v := .tuple #[.int .i64 z447, .int .i64 z448]) (xs := [.tmp 71, .const (.pointer none)]) rfl rfl rfl rfl Try.func51 nm51 rfl rfl ((code_Decoder_Next_n1.calls (HS444.give [] rfl (Lent.box HS444 (Lent.own HS444 (Lent.own HS444 (Lent.own HS444 (Lent.nil) (i := 12) rfl rfl ((HS444.cells_own (i := 12) rfl).self)) (i := 11) rfl rfl ((HS444.cells_own (i := 11) rfl).self)) (i := 10) rfl rfl ((HS444.cells_own (i := 10) rfl).self)) (i := 9) rfl rfl (HS444.cells_box (i := 9) rfl).self)) h446).mono (fun e w hc => ?_)) (fun w449 hw450 => ?_)
                    · obtain ⟨rfl, h⟩ := hc
                      exact ⟨rfl, h.chg0⟩
                    have HS451 := HS444.keep hw450
                    refine F_val rfl rfl rfl (O_move rfl rfl) ?_
                    refine F_val rfl rfl rfl (O_extract (v := .int .i64 z447) rfl rfl rfl) ?_
                    refine F_val rfl rfl rfl (O_extract (v := .int .i64 z448) rfl rfl rfl) ?_
                    refine F_val rfl rfl rfl (O_assign rfl rfl) ?_
                    refine F_val rfl rfl rfl (O_assign rfl rfl) ?_
                    refine F_nil ?_
                    refine L_seq ?_
                    refine L_region ?_
                    refine F_val rfl rfl rfl (O_move rfl rfl) ?_
                    refine F_qcall (v := .int .i64 z435) (xs := [.tmp 75]) rfl rfl rfl rfl Try.func23 nm23 rfl rfl ((valiselaw5_num.calls (HS451.give [] rfl (Lent.nil)) (rfl : valiselaw5_num.f z435 = some z435)).mono (fun e w hc => ?_)) (fun w455 hw456 => ?_)
                    · obtain ⟨rfl, h⟩ := hc
                      exact ⟨rfl, h.chg0⟩
                    have HS457 := HS451.keep hw456
                    refine F_val rfl rfl rfl (O_eq rfl rfl rfl) ?_
                    refine F_val rfl rfl rfl (O_move rfl rfl) ?_
                    refine F_grpQ 4 [(82, .bool (decide ((z435 = 1) ∧ (z441 = 1)))), (12, .int .i64 z447), (13, .int .i64 z448)] ?_ (fun w464 hw465 => ?_)
                    · rcases Decidable.em (z435 = 1) with c467 | c467
                      · refine F_know (i := 78) rfl (dec_t c467) ?_
                        refine F_gval rfl rfl rfl rfl rfl rfl (O_move rfl rfl) ?_
                        refine F_gqcall (v := .int .i64 z441) (xs := [.tmp 79]) rfl rfl rfl rfl rfl rfl rfl Try.func23 nm23 rfl rfl ((valiselaw5_num.calls (HS457.give [] rfl (Lent.nil)) (rfl : valiselaw5_num.f z441 = some z441)).mono (fun e w hc => ?_)) (fun w471 hw472 => ?_)
                        · obtain ⟨rfl, h⟩ := hc
                          exact ⟨rfl, h.chg0⟩
                        have HS473 := HS457.keep hw472
                        refine F_gval rfl rfl rfl rfl rfl rfl (O_eq rfl rfl rfl) ?_
                        refine F_val rfl rfl rfl (O_pickT rfl rfl rfl) ?_
                        refine F_know (i := 82) rfl (dec_and_t (q := z441 = 1) c467) ?_
                        exact F_grpQE ((Chg.refl NoB _).trans hw472) (fun a ha => Is.cons ha (Is.cons ha (Is.cons ha (Is.nil ha) rfl) rfl) rfl)
                      · refine F_know (i := 78) rfl (dec_f c467) ?_
                        refine F_gskip rfl rfl rfl rfl rfl rfl rfl ?_
                        refine F_gskip rfl rfl rfl rfl rfl rfl rfl ?_
                        refine F_gskip rfl rfl rfl rfl rfl rfl rfl ?_
                        refine F_val rfl rfl rfl (O_pickF rfl rfl rfl) ?_
                        refine F_know (i := 82) rfl (dec_and_f (q := z441 = 1) c467) ?_
                        exact F_grpQE (Chg.refl NoB _) (fun a ha => Is.cons ha (Is.cons ha (Is.cons ha (Is.nil ha) rfl) rfl) rfl)
                    · have HS466 := HS457.keep hw465
                      refine F_val rfl rfl rfl (O_move rfl rfl) ?_
                      refine F_grp 3 [(86, .bool (decide (((z435 = 1) ∧ (z441 = 1)) ∧ (z447 = 0)))), (13, .int .i64 z448)] ?_ ?_
                      · rcases Decidable.em ((z435 = 1) ∧ (z441 = 1)) with c477 | c477
                        · refine F_know (i := 83) rfl (dec_t c477) ?_
                          refine F_gval rfl rfl rfl rfl rfl rfl (O_move rfl rfl) ?_
                          refine F_gval rfl rfl rfl rfl rfl rfl (O_eq rfl rfl rfl) ?_
                          refine F_val rfl rfl rfl (O_pickT rfl rfl rfl) ?_
                          refine F_know (i := 86) rfl (dec_and_t (q := z447 = 0) c477) ?_
                          exact F_grpE (fun a ha => Is.cons ha (Is.cons ha (Is.nil ha) rfl) rfl)
                        · refine F_know (i := 83) rfl (dec_f c477) ?_
                          refine F_gskip rfl rfl rfl rfl rfl rfl rfl ?_
                          refine F_gskip rfl rfl rfl rfl rfl rfl rfl ?_
                          refine F_val rfl rfl rfl (O_pickF rfl rfl rfl) ?_
                          refine F_know (i := 86) rfl (dec_and_f (q := z447 = 0) c477) ?_
                          exact F_grpE (fun a ha => Is.cons ha (Is.cons ha (Is.nil ha) rfl) rfl)
                      · skip
                        refine F_val rfl rfl rfl (O_move rfl rfl) ?_
                        refine F_grpQ 4 [(91, .bool (decide ((((z435 = 1) ∧ (z441 = 1)) ∧ (z447 = 0)) ∧ (z448 = 1))))] ?_ (fun w484 hw485 => ?_)
                        · rcases Decidable.em (((z435 = 1) ∧ (z441 = 1)) ∧ (z447 = 0)) with c487 | c487
                          · refine F_know (i := 87) rfl (dec_t c487) ?_
                            refine F_gval rfl rfl rfl rfl rfl rfl (O_move rfl rfl) ?_
                            refine F_gqcall (v := .int .i64 z448) (xs := [.tmp 88]) rfl rfl rfl rfl rfl rfl rfl Try.func23 nm23 rfl rfl ((valiselaw5_num.calls (HS466.give [] rfl (Lent.nil)) (rfl : valiselaw5_num.f z448 = some z448)).mono (fun e w hc => ?_)) (fun w491 hw492 => ?_)
                            · obtain ⟨rfl, h⟩ := hc
                              exact ⟨rfl, h.chg0⟩
                            have HS493 := HS466.keep hw492
                            refine F_gval rfl rfl rfl rfl rfl rfl (O_eq rfl rfl rfl) ?_
                            refine F_val rfl rfl rfl (O_pickT rfl rfl rfl) ?_
                            refine F_know (i := 91) rfl (dec_and_t (q := z448 = 1) c487) ?_
                            exact F_grpQE ((Chg.refl NoB _).trans hw492) (fun a ha => Is.cons ha (Is.nil ha) rfl)
                          · refine F_know (i := 87) rfl (dec_f c487) ?_
                            refine F_gskip rfl rfl rfl rfl rfl rfl rfl ?_
                            refine F_gskip rfl rfl rfl rfl rfl rfl rfl ?_
                            refine F_gskip rfl rfl rfl rfl rfl rfl rfl ?_
                            refine F_val rfl rfl rfl (O_pickF rfl rfl rfl) ?_
                            refine F_know (i := 91) rfl (dec_and_f (q := z448 = 1) c487) ?_
                            exact F_grpQE (Chg.refl NoB _) (fun a ha => Is.cons ha (Is.nil ha) rfl)
                        · have HS486 := HS466.keep hw485
                          refine F_val rfl rfl rfl (O_assign rfl rfl) ?_
                          refine F_nil ?_
                          refine L_ret (fun a ha => (post_ret1 ha rfl rfl ?_))
                          obtain rfl := Option.some.inj H
                          exact ⟨rfl, HS486.sel [] rfl⟩

end Go.Proofs.Ytfglehdaimgaeaa
