import Derived.Test.YtfglehdaimgaeaaChecked
import Derived.Test.YtfglehdaimgaeaaGCodeWritesPure
set_option linter.unusedVariables false
set_option linter.unusedSimpArgs false
set_option maxRecDepth 10000
set_option maxHeartbeats 1000000
namespace Go.Proofs.Ytfglehdaimgaeaa
open Go Go.V Go.V.Pu
theorem mix : Try.prog.follows .mixedOrders = true := by kernel_rfl
theorem info3 : (Try.prog.info? 3).map (fun i => (i.zero, i.size, i.bytes)) = some (some (.int .i64 0), 1, 8) := by kernel_rfl
theorem size3 : (Try.prog.info? 3).map (·.size) = some 1 := by kernel_rfl
theorem nm28 : (Try.f28.name == "runtime.NumGoroutine") = false := by kernel_rfl
theorem nm20 : (Try.f20.name == "runtime.NumGoroutine") = false := by kernel_rfl
theorem zero82 : (Try.prog.info? 82).map (·.zero) = some (some (.agg #[.int .i64 0, .int .i64 0, .int .i64 0, .int .i64 0, .int .i64 0, .int .i64 0, .int .i64 0, .int .i64 0, .int .i64 0, .int .i64 0, .int .i64 0, .int .i64 0, .int .i64 0, .int .i64 0, .int .i64 0, .int .i64 0])) := by kernel_rfl
theorem wide82 : Wide Try.prog 82 16 := Wide.of Try.underlying82 rfl (by kernel_rfl)
theorem size82 : (Try.prog.info? 82).map (·.size) = some 16 := by kernel_rfl
theorem flat3 : Flat Try.prog 3 := Flat.of Try.underlying3 rfl
theorem zarr82 (w : World) : (Instr.build 82 #[]).run Try.prog w = .ok (.agg (rowC (Eint .i64) (List.replicate 16 (0 : Int))).toArray) w := by kernel_rfl
theorem nm57 : (Try.f57.name == "runtime.NumGoroutine") = false := by kernel_rfl
theorem nm58 : (Try.f58.name == "runtime.NumGoroutine") = false := by kernel_rfl
theorem nm64 : (Try.f64.name == "runtime.NumGoroutine") = false := by kernel_rfl
theorem zero91 : (Try.prog.info? 91).map (·.zero) = some (some (.agg #[.slice none 0 0, .slice none 0 0, .int .i64 0, .int .i64 0, .int .i64 0, .int .i64 0, .int .i64 0, .int .i64 0, .int .i64 0, .int .i64 0, .int .i64 0, .int .i64 0, .int .i64 0, .int .i64 0, .int .i64 0, .int .i64 0, .int .i64 0, .int .i64 0, .int .i64 0, .int .i64 0, .int .i64 0, .int .i64 0, .int .i64 0, .int .i64 0, .int .i64 0, .int .i64 0, .int .i64 0, .int .i64 0, .int .i64 0, .int .i64 0, .int .i64 0, .int .i64 0, .int .i64 0, .int .i64 0])) := by kernel_rfl
theorem nm62 : (Try.f62.name == "runtime.NumGoroutine") = false := by kernel_rfl
theorem nm61 : (Try.f61.name == "runtime.NumGoroutine") = false := by kernel_rfl
theorem struct91 : StructAt Try.prog 91 [(0, 1), (1, 1), (2, 16), (18, 16)] [.slice none 0 0, .slice none 0 0, .int .i64 0, .int .i64 0, .int .i64 0, .int .i64 0, .int .i64 0, .int .i64 0, .int .i64 0, .int .i64 0, .int .i64 0, .int .i64 0, .int .i64 0, .int .i64 0, .int .i64 0, .int .i64 0, .int .i64 0, .int .i64 0, .int .i64 0, .int .i64 0, .int .i64 0, .int .i64 0, .int .i64 0, .int .i64 0, .int .i64 0, .int .i64 0, .int .i64 0, .int .i64 0, .int .i64 0, .int .i64 0, .int .i64 0, .int .i64 0, .int .i64 0, .int .i64 0] := StructAt.of Try.underlying91 zero91 rfl (fun w => by kernel_rfl)
theorem size91 : (Try.prog.info? 91).map (·.size) = some 34 := by kernel_rfl
theorem wide91 : Wide Try.prog 91 34 := Wide.of Try.underlying91 rfl (by kernel_rfl)
theorem nm65 : (Try.f65.name == "runtime.NumGoroutine") = false := by kernel_rfl
theorem zero94 : (Try.prog.info? 94).map (·.zero) = some (some (.agg #[.slice none 0 0, .slice none 0 0, .int .i64 0, .int .i64 0, .int .i64 0, .int .i64 0, .int .i64 0, .int .i64 0, .int .i64 0, .int .i64 0, .int .i64 0, .int .i64 0, .int .i64 0, .int .i64 0, .int .i64 0, .int .i64 0, .int .i64 0, .int .i64 0, .int .i64 0, .int .i64 0, .int .i64 0, .int .i64 0, .int .i64 0, .int .i64 0, .int .i64 0, .int .i64 0, .int .i64 0, .int .i64 0, .int .i64 0, .int .i64 0, .int .i64 0, .int .i64 0, .int .i64 0, .int .i64 0])) := by kernel_rfl
theorem struct94 : StructAt Try.prog 94 [(0, 34)] [.slice none 0 0, .slice none 0 0, .int .i64 0, .int .i64 0, .int .i64 0, .int .i64 0, .int .i64 0, .int .i64 0, .int .i64 0, .int .i64 0, .int .i64 0, .int .i64 0, .int .i64 0, .int .i64 0, .int .i64 0, .int .i64 0, .int .i64 0, .int .i64 0, .int .i64 0, .int .i64 0, .int .i64 0, .int .i64 0, .int .i64 0, .int .i64 0, .int .i64 0, .int .i64 0, .int .i64 0, .int .i64 0, .int .i64 0, .int .i64 0, .int .i64 0, .int .i64 0, .int .i64 0, .int .i64 0] := StructAt.of Try.underlying94 zero94 rfl (fun w => by kernel_rfl)
theorem nm30 : (Try.f30.name == "runtime.NumGoroutine") = false := by kernel_rfl
theorem nm59 : (Try.f59.name == "runtime.NumGoroutine") = false := by kernel_rfl
theorem nm74 : (Try.f74.name == "runtime.NumGoroutine") = false := by kernel_rfl
theorem nm60 : (Try.f60.name == "runtime.NumGoroutine") = false := by kernel_rfl
theorem nm22 : (Try.f22.name == "runtime.NumGoroutine") = false := by kernel_rfl
theorem nm26 : (Try.f26.name == "runtime.NumGoroutine") = false := by kernel_rfl
theorem field96_0 : FieldAt Try.prog 96 0 0 := fun w a => by kernel_rfl
theorem flat22 : Flat Try.prog 22 := Flat.of Try.underlying22 rfl
theorem size22 : (Try.prog.info? 22).map (·.size) = some 1 := by kernel_rfl
theorem nm31 : (Try.f31.name == "runtime.NumGoroutine") = false := by kernel_rfl
theorem nm23 : (Try.f23.name == "runtime.NumGoroutine") = false := by kernel_rfl
theorem nm15 : (Try.f15.name == "runtime.NumGoroutine") = false := by kernel_rfl
theorem nm24 : (Try.f24.name == "runtime.NumGoroutine") = false := by kernel_rfl
theorem nm18 : (Try.f18.name == "runtime.NumGoroutine") = false := by kernel_rfl
theorem nm32 : (Try.f32.name == "runtime.NumGoroutine") = false := by kernel_rfl
theorem nm33 : (Try.f33.name == "runtime.NumGoroutine") = false := by kernel_rfl
theorem field98_1 : FieldAt Try.prog 98 1 1 := fun w a => by kernel_rfl
theorem field98_0 : FieldAt Try.prog 98 0 0 := fun w a => by kernel_rfl
theorem flat59 : Flat Try.prog 59 := Flat.of Try.underlying59 rfl
theorem info5 : (Try.prog.info? 5).map (fun i => (i.zero, i.size, i.bytes)) = some (some (.int .u8 0), 1, 1) := by kernel_rfl
theorem size59 : (Try.prog.info? 59).map (·.size) = some 1 := by kernel_rfl
theorem size5 : (Try.prog.info? 5).map (·.size) = some 1 := by kernel_rfl
theorem flat5 : Flat Try.prog 5 := Flat.of Try.underlying5 rfl
theorem nm66 : (Try.f66.name == "runtime.NumGoroutine") = false := by kernel_rfl
theorem nm34 : (Try.f34.name == "runtime.NumGoroutine") = false := by kernel_rfl
theorem nm67 : (Try.f67.name == "runtime.NumGoroutine") = false := by kernel_rfl
theorem field100_0 : FieldAt Try.prog 100 0 0 := fun w a => by kernel_rfl
theorem nm68 : (Try.f68.name == "runtime.NumGoroutine") = false := by kernel_rfl
theorem nm35 : (Try.f35.name == "runtime.NumGoroutine") = false := by kernel_rfl
theorem field94_0 : FieldAt Try.prog 94 0 0 := fun w a => by kernel_rfl
theorem field91_0 : FieldAt Try.prog 91 0 0 := fun w a => by kernel_rfl
theorem nm38 : (Try.f38.name == "runtime.NumGoroutine") = false := by kernel_rfl
theorem field91_1 : FieldAt Try.prog 91 1 1 := fun w a => by kernel_rfl
theorem nm69 : (Try.f69.name == "runtime.NumGoroutine") = false := by kernel_rfl
theorem nm36 : (Try.f36.name == "runtime.NumGoroutine") = false := by kernel_rfl
theorem nm39 : (Try.f39.name == "runtime.NumGoroutine") = false := by kernel_rfl
theorem field96_1 : FieldAt Try.prog 96 1 1 := fun w a => by kernel_rfl
theorem nm37 : (Try.f37.name == "runtime.NumGoroutine") = false := by kernel_rfl
theorem nm40 : (Try.f40.name == "runtime.NumGoroutine") = false := by kernel_rfl
theorem nm41 : (Try.f41.name == "runtime.NumGoroutine") = false := by kernel_rfl
theorem nm43 : (Try.f43.name == "runtime.NumGoroutine") = false := by kernel_rfl
theorem nm44 : (Try.f44.name == "runtime.NumGoroutine") = false := by kernel_rfl
theorem nm42 : (Try.f42.name == "runtime.NumGoroutine") = false := by kernel_rfl
/-! function 28: valise/valiselaw5.copied -/
theorem valiselaw5_copied.calls {S0 : Nat → Prop} {w0 : World} {A_l_0 : Option Addr} {c_l_0 : Nat} {l_l_0 : List Int} {r : List Int} (HS0 : Hp S0 w0 w0 [.rd A_l_0 (rowC (Eint .i64) l_l_0)]) (hc_l_0 : l_l_0.length ≤ c_l_0) (h : valiselaw5_copied.f l_l_0 = some r) :
    Calls Try.prog 28 ([.slice A_l_0 l_l_0.length c_l_0] : List Value).toArray w0 (fun e w => ∃ (A1 : Option Addr), ∃ (c1 : Nat), e = .returned (.slice A1 r.length c1) ∧ Hp S0 w0 w [.own A1 c1 (rowC (Eint .i64) r) 3 (Eint .i64).sz]) := by
  have H : ((gd ((0 : Int) ≤ (l_l_0.length : Int) ∧ (l_l_0.length : Int) ≤ (IntKind.i64.wrap ((l_l_0.length : Int) + 4))) (gd ((IntKind.i64.wrap ((l_l_0.length : Int) + 4)) * 8 ≤ 281474976710656) (bnd (List.replicate ((l_l_0.length : Int) : Int).toNat (0 : Int)) fun l6 => bnd (cpy l6 l_l_0) fun l13 => some l13))) : Option (List Int)) = some r := h
  refine calls_start Try.func28 rfl rfl ?_
  refine L_seq ?_
  refine L_region ?_
  refine F_val rfl rfl rfl (O_assign rfl rfl) ?_
  refine F_nil ?_
  refine L_seq ?_
  refine L_region ?_
  refine F_val rfl rfl rfl (O_move rfl rfl) ?_
  refine F_val rfl rfl rfl (O_len rfl rfl Try.underlying22) ?_
  refine F_val rfl rfl rfl (O_move rfl rfl) ?_
  refine F_val rfl rfl rfl (O_len rfl rfl Try.underlying22) ?_
  refine F_val rfl rfl rfl (O_add rfl rfl rfl) ?_
  obtain ⟨⟨g3, g4⟩, H⟩ := of_gd H
  obtain ⟨g5, H⟩ := of_gd H
  obtain ⟨l6, h7, H⟩ := of_bnd H
  refine F_makeCE (E := (Eint .i64)) rfl rfl rfl rfl rfl rfl Try.underlying22 info3 rfl (by decide) (by decide) g3 g4 g5 HS0 h7 (fun w1 A8 c9 HS2 => ?_)
  have HS2 : Hp S0 w0 w1 [.rd A_l_0 (rowC (Eint .i64) l_l_0), .own A8 c9 (rowC (Eint .i64) l6) 3 (Eint .i64).sz] := HS2
  refine F_val rfl rfl rfl (O_assign rfl rfl) ?_
  refine F_nil ?_
  refine L_seq ?_
  refine L_region ?_
  refine F_val rfl rfl rfl (O_move rfl rfl) ?_
  refine F_val rfl rfl rfl (O_move rfl rfl) ?_
  obtain ⟨l13, h14, H⟩ := of_bnd H
  refine F_copyE (E := (Eint .i64)) (xs := l6) (ys := l_l_0) (i := 1) rfl rfl rfl rfl Try.underlying22 size3 rfl rfl HS2 rfl (HS2.cells_rd (i := 0) rfl) h14 (fun w11 HS12 => ?_)
  have e15 : l6.length = l13.length := by rw [← h14, cpy_length]
  refine F_know (i := 3) rfl (congrArg (fun n => Value.slice A8 n c9) e15) ?_
  have HS12 : Hp S0 w0 w11 [.rd A_l_0 (rowC (Eint .i64) l_l_0), .own A8 c9 (rowC (Eint .i64) l13) 3 (Eint .i64).sz] := HS12
  refine F_nil ?_
  refine L_seq ?_
  refine L_region ?_
  refine F_val rfl rfl rfl (O_move rfl rfl) ?_
  refine F_val rfl rfl rfl (O_assign rfl rfl) ?_
  refine F_nil ?_
  refine L_ret (fun a ha => (post_ret1 ha rfl rfl ?_))
  obtain rfl := Option.some.inj H
  exact ⟨_, _, rfl, HS12.sel [1] rfl⟩

/-! function 20: valise/valiselaw5.framed -/
theorem valiselaw5_framed.calls {S0 : Nat → Prop} {w0 : World} {A_l_0 : Option Addr} {c_l_0 : Nat} {l_l_0 : List Int} {r : List Int} (HS0 : Hp S0 w0 w0 [.rd A_l_0 (rowC (Eint .i64) l_l_0)]) (hc_l_0 : l_l_0.length ≤ c_l_0) (h : valiselaw5_framed.f l_l_0 = some r) :
    Calls Try.prog 20 ([.slice A_l_0 l_l_0.length c_l_0] : List Value).toArray w0 (fun e w => ∃ (A1 : Option Addr), ∃ (c1 : Nat), e = .returned (.slice A1 r.length c1) ∧ Hp S0 w0 w [.own A1 c1 (rowC (Eint .i64) r) 3 (Eint .i64).sz]) := by
  have H : (((valiselaw5_copied.f l_l_0).bind fun z5 => bnd (z5 ++ [(-71), (-72), (-73)]) fun l18 => gd ((l18.length : Int) * 8 ≤ 140737488355328) (some l18)) : Option (List Int)) = some r := h
  refine calls_start Try.func20 rfl rfl ?_
  refine L_seq ?_
  refine L_region ?_
  refine F_val rfl rfl rfl (O_assign rfl rfl) ?_
  refine F_nil ?_
  refine L_seq ?_
  refine L_region ?_
  refine F_val rfl rfl rfl (O_move rfl rfl) ?_
  obtain ⟨z5, h4, H⟩ := of_bind H
  refine F_call (xs := [.tmp 4]) rfl rfl rfl rfl Try.func28 nm28 rfl rfl ((valiselaw5_copied.calls (HS0.give [] rfl (Lent.rd HS0 (Lent.nil) (i := 0) rfl ((HS0.cells_rd (i := 0) rfl).self))) hc_l_0 h4).mono (fun e w hc => ?_))
  obtain ⟨A8, c9, rfl, HSo⟩ := hc
  refine ⟨.slice A8 z5.length c9, rfl, ?_⟩
  have HS7 : Hp S0 w0 w [.rd A_l_0 (rowC (Eint .i64) l_l_0), .own A8 c9 (rowC (Eint .i64) z5) 3 (Eint .i64).sz] := (HS0.back [] HSo rfl).sel [0, 1] rfl
  refine F_val rfl rfl rfl (O_assign rfl rfl) ?_
  refine F_nil ?_
  refine L_seq ?_
  refine L_region ?_
  refine F_val rfl rfl rfl (O_move rfl rfl) ?_
  refine F_litE (E := (Eint .i64)) (e := 3) [(0, .int .i64 (-71)), (1, .int .i64 (-72)), (2, .int .i64 (-73))] [(-71), (-72), (-73)] rfl rfl rfl rfl rfl rfl rfl (by decide) (fun w => by kernel_rfl) HS7 (fun w11 A13 c14 HS12 => ?_)
  have HS12 : Hp S0 w0 w11 [.rd A_l_0 (rowC (Eint .i64) l_l_0), .own A8 c9 (rowC (Eint .i64) z5) 3 (Eint .i64).sz, .own A13 c14 (rowC (Eint .i64) [(-71), (-72), (-73)]) 3 (Eint .i64).sz] := HS12
  obtain ⟨l18, h19, H⟩ := of_bnd H
  obtain ⟨g20, H⟩ := of_gd H
  refine F_appE (E := (Eint .i64)) (xs := z5) (ys := [(-71), (-72), (-73)]) (i := 1) rfl rfl rfl rfl Try.underlying22 info3 rfl (by decide) (by decide) rfl rfl HS12 rfl (HS12.cells_own (i := 2) rfl) h19 g20 (fun w16 A21 c22 HS17 => ?_)
  have HS17 : Hp S0 w0 w16 [.rd A_l_0 (rowC (Eint .i64) l_l_0), .own A21 c22 (rowC (Eint .i64) l18) 3 (Eint .i64).sz, .own A13 c14 (rowC (Eint .i64) [(-71), (-72), (-73)]) 3 (Eint .i64).sz] := HS17
  refine F_val rfl rfl rfl (O_assign rfl rfl) ?_
  refine F_nil ?_
  refine L_ret (fun a ha => (post_ret1 ha rfl rfl ?_))
  obtain rfl := Option.some.inj H
  exact ⟨_, _, rfl, HS17.sel [1] rfl⟩

/-! function 57: valise/code.count -/
theorem code_count.calls {S0 : Nat → Prop} {w0 : World} {A_lens_0 : Option Addr} {c_lens_0 : Nat} {l_lens_0 : List Int} {r : List Int × Int} (HS0 : Hp S0 w0 w0 [.rd A_lens_0 (rowC (Eint .i64) l_lens_0)]) (hc_lens_0 : l_lens_0.length ≤ c_lens_0) (h : code_count.f l_lens_0 = some r) :
    Calls Try.prog 57 ([.slice A_lens_0 l_lens_0.length c_lens_0] : List Value).toArray w0 (fun e w => e = .returned (.tuple #[.agg (rowC (Eint .i64) r.1).toArray, .int .i64 r.2]) ∧ Hp S0 w0 w []) := by
  have H : ((if 288 < (l_lens_0.length : Int) then (some ((List.replicate 16 (0 : Int)), 1)) else ((code_count.l1 FU (List.replicate 16 (0 : Int)) 0 l_lens_0).bind fun (yj12 : Sum (List Int × Int) (List Int)) => onR yj12 (fun r => some r) fun y83 => gd (y83.length = 16) (bnd (y83.set (0 : Int).toNat 0) fun l158 => some (l158, 0)))) : Option (List Int × Int)) = some r := h
  refine calls_start Try.func57 rfl rfl ?_
  refine L_seq ?_
  refine L_region ?_
  refine F_alloc (C := rowC (Eint .i64) (List.replicate 16 (0 : Int))) rfl rfl rfl rfl zero82 rfl HS0 (fun w1 g3 HS2 => ?_)
  have HS2 : Hp S0 w0 w1 [.rd A_lens_0 (rowC (Eint .i64) l_lens_0), .box g3 (rowC (Eint .i64) (List.replicate 16 (0 : Int))) 82] := HS2
  refine F_val rfl rfl rfl (O_assign rfl rfl) ?_
  refine F_nil ?_
  refine L_seq ?_
  refine L_region ?_
  refine F_alloc (C := rowC (Eint .i64) (List.replicate 16 (0 : Int))) rfl rfl rfl rfl zero82 rfl HS2 (fun w5 g7 HS6 => ?_)
  have HS6 : Hp S0 w0 w5 [.rd A_lens_0 (rowC (Eint .i64) l_lens_0), .box g3 (rowC (Eint .i64) (List.replicate 16 (0 : Int))) 82, .box g7 (rowC (Eint .i64) (List.replicate 16 (0 : Int))) 82] := HS6
  refine F_nil ?_
  refine L_seq ?_
  refine L_seq ?_
  refine L_region ?_
  refine F_val rfl rfl rfl (O_move rfl rfl) ?_
  refine F_val rfl rfl rfl (O_len rfl rfl Try.underlying22) ?_
  refine F_val rfl rfl rfl (O_gt rfl rfl rfl) ?_
  refine F_nil ?_
  refine L_condP rfl (fun c9 => ?_) (fun c9 => ?_)
  · have H := of_pos H c9
    refine L_seq ?_
    refine L_region ?_
    refine F_val rfl rfl rfl (O_loadSg [] (rowC (Eint .i64) (List.replicate 16 (0 : Int))) [] rfl rfl wide82 (HS6.cells_box (i := 2) rfl) (by simp only [List.append_assoc, List.cons_append, List.nil_append, List.append_nil]) rfl (row_len List.length_replicate) (by decide)) ?_
    refine F_stSg 1 (rowC (Eint .i64) (List.replicate 16 (0 : Int))) [] (rowC (Eint .i64) (List.replicate 16 (0 : Int))) (rowC (Eint .i64) (List.replicate 16 (0 : Int))) [] rfl rfl rfl rfl rfl size82 HS6 rfl rfl ones_row (by simp only [List.append_assoc, List.cons_append, List.nil_append, List.append_nil]) (by simp only [List.append_assoc, List.cons_append, List.nil_append, List.append_nil]) rfl (row_len List.length_replicate) (row_len List.length_replicate) (fun w10 HS11 => ?_)
    have HS11 : Hp S0 w0 w10 [.rd A_lens_0 (rowC (Eint .i64) l_lens_0), .box g3 (rowC (Eint .i64) (List.replicate 16 (0 : Int))) 82, .box g7 (rowC (Eint .i64) (List.replicate 16 (0 : Int))) 82] := HS11
    refine F_val rfl rfl rfl (O_assign rfl rfl) ?_
    refine F_nil ?_
    refine L_ret (fun a ha => (post_retc2 ha rfl rfl wide82 (HS11.cells_box (i := 1) rfl) (row_len List.length_replicate) (by decide) rfl ?_))
    obtain rfl := Option.some.inj H
    exact ⟨rfl, HS11.sel [] rfl⟩
  · have H := of_neg H c9
    refine L_skip ?_
    refine L_seq ?_
    refine L_seq ?_
    refine L_region ?_
    refine F_val rfl rfl rfl (O_move rfl rfl) ?_
    refine F_val rfl rfl rfl (O_len rfl rfl Try.underlying22) ?_
    refine F_val rfl rfl rfl (O_move rfl rfl) ?_
    refine F_nil ?_
    obtain ⟨yj12, Hyj12, H⟩ := of_bind H
    refine L_join (fun a w => ∃ (y83 : List Int), yj12 = Sum.inr y83 ∧ Is Try.f57.ntmps a [(2, .pointer (some ⟨g3, 0, none⟩)), (4, .pointer (some ⟨g7, 0, none⟩))] ∧ Hp S0 w0 w [.rd A_lens_0 (rowC (Eint .i64) l_lens_0), .box g3 (rowC (Eint .i64) (List.replicate 16 (0 : Int))) 82, .box g7 (rowC (Eint .i64) y83) 82]) (fun Qj12 hNj12 hOj12 => ?_) (fun a w hR => ?_)
    · have HOj12 := H
      have H := Hyj12
      refine L_blk (fun Qb84 hNb84 hXb84 hOb84 => ?_)
      refine L_lp (fun k a w => ∃ (y129 : List Int), ∃ (t130 : Int), Is Try.f57.ntmps a [(2, .pointer (some ⟨g3, 0, none⟩)), (4, .pointer (some ⟨g7, 0, none⟩)), (11, .slice A_lens_0 l_lens_0.length c_lens_0), (12, .int .i64 (l_lens_0.length : Int)), (13, .int .i64 t130)] ∧ Hp S0 w0 w [.rd A_lens_0 (rowC (Eint .i64) l_lens_0), .box g3 (rowC (Eint .i64) (List.replicate 16 (0 : Int))) 82, .box g7 (rowC (Eint .i64) y129) 82] ∧ code_count.l1 k y129 t130 l_lens_0 = some yj12) FU (fun a ha => ⟨_, _, Is.cons ha (Is.cons ha (Is.cons ha (Is.cons ha (Is.cons ha (Is.nil ha) rfl) rfl) rfl) rfl) rfl, HS6.sel [0, 1, 2] rfl, H⟩) (fun kp128 a w131 hI Qp128 hNp128 hOp128 => ?_)
      obtain ⟨y129, t130, ha, HS132, HAp128⟩ := hI
      cases kp128 with
      | zero => cases (show (none : Option _) = some _ from HAp128)
      | succ kp128 =>
        have H := (code_count.l1.eq_2 ..).symm.trans HAp128
        refine wpLF_app ?_ ha
        refine L_seq ?_
        refine L_region ?_
        refine F_val rfl rfl rfl (O_lt rfl rfl rfl) ?_
        refine F_nil ?_
        refine L_seq ?_
        refine L_condP rfl (fun c133 => ?_) (fun c133 => ?_)
        · have H := of_pos H c133
          refine L_skip ?_
          refine L_seq ?_
          refine L_blk (fun Q134 hN134 hX134 hO134 => ?_)
          refine L_seq ?_
          refine L_region ?_
          obtain ⟨⟨g135, g136⟩, H⟩ := of_gd H
          refine F_val rfl rfl rfl (O_idx rfl rfl rfl Try.underlying22 size3 g135 g136 (Cells.isA (HS132.cells_rd (i := 0) rfl) (rowC_ne (E := (Eint .i64)) g135 g136 (by decide)))) ?_
          refine F_val rfl rfl rfl (O_loadC rfl rfl flat3 (HS132.cells_rd (i := 0) rfl) (int_cell g135 g136)) ?_
          obtain ⟨x137, h138, H⟩ := of_bnd H
          refine F_val rfl rfl rfl (O_assign' rfl rfl (congrArg (Value.int .i64) h138)) ?_
          refine F_nil ?_
          refine L_seq ?_
          refine L_seq ?_
          refine L_region ?_
          refine F_val rfl rfl rfl (O_move rfl rfl) ?_
          refine F_val rfl rfl rfl (O_lt rfl rfl rfl) ?_
          refine F_val rfl rfl rfl (O_move rfl rfl) ?_
          refine F_grp 3 [(22, .bool (decide ((x137 < 0) ∨ (15 < x137)))), (2, .pointer (some ⟨g3, 0, none⟩)), (4, .pointer (some ⟨g7, 0, none⟩)), (6, .int .i64 x137), (11, .slice A_lens_0 l_lens_0.length c_lens_0), (12, .int .i64 (l_lens_0.length : Int)), (13, .int .i64 t130)] ?_ ?_
          · rcases Decidable.em (x137 < 0) with c142 | c142
            · refine F_know (i := 19) rfl (dec_t c142) ?_
              refine F_gskip rfl rfl rfl rfl rfl rfl rfl ?_
              refine F_gskip rfl rfl rfl rfl rfl rfl rfl ?_
              refine F_val rfl rfl rfl (O_pickT rfl rfl rfl) ?_
              refine F_know (i := 22) rfl (dec_or_t (q := 15 < x137) c142) ?_
              exact F_grpE (fun a ha => Is.cons ha (Is.cons ha (Is.cons ha (Is.cons ha (Is.cons ha (Is.cons ha (Is.cons ha (Is.nil ha) rfl) rfl) rfl) rfl) rfl) rfl) rfl)
            · refine F_know (i := 19) rfl (dec_f c142) ?_
              refine F_gval rfl rfl rfl rfl rfl rfl (O_move rfl rfl) ?_
              refine F_gval rfl rfl rfl rfl rfl rfl (O_gt rfl rfl rfl) ?_
              refine F_val rfl rfl rfl (O_pickF rfl rfl rfl) ?_
              refine F_know (i := 22) rfl (dec_or_f (q := 15 < x137) c142) ?_
              exact F_grpE (fun a ha => Is.cons ha (Is.cons ha (Is.cons ha (Is.cons ha (Is.cons ha (Is.cons ha (Is.cons ha (Is.nil ha) rfl) rfl) rfl) rfl) rfl) rfl) rfl)
          · skip
            refine F_nil ?_
            refine L_condP rfl (fun c143 => ?_) (fun c143 => ?_)
            · have H := of_pos H c143
              refine L_seq ?_
              refine L_region ?_
              refine F_val rfl rfl rfl (O_build (vs := []) (v := .agg (rowC (Eint .i64) (List.replicate 16 (0 : Int))).toArray) rfl rfl rfl zarr82) ?_
              refine F_stSg 1 (rowC (Eint .i64) (List.replicate 16 (0 : Int))) [] (rowC (Eint .i64) (List.replicate 16 (0 : Int))) (rowC (Eint .i64) (List.replicate 16 (0 : Int))) [] rfl rfl rfl rfl rfl size82 HS132 rfl rfl ones_row (by simp only [List.append_assoc, List.cons_append, List.nil_append, List.append_nil]) (by simp only [List.append_assoc, List.cons_append, List.nil_append, List.append_nil]) rfl (row_len List.length_replicate) (row_len List.length_replicate) (fun w144 HS145 => ?_)
              have HS145 : Hp S0 w0 w144 [.rd A_lens_0 (rowC (Eint .i64) l_lens_0), .box g3 (rowC (Eint .i64) (List.replicate 16 (0 : Int))) 82, .box g7 (rowC (Eint .i64) y129) 82] := HS145
              refine F_val rfl rfl rfl (O_assign rfl rfl) ?_
              refine F_nil ?_
              refine L_ret (fun a ha => (hO134 .ret a _ rfl (hOp128 .ret a _ rfl (hOb84 .ret a _ rfl (hOj12 .ret a _ rfl (post_retc2 ha rfl rfl wide82 (HS145.cells_box (i := 1) rfl) (row_len List.length_replicate) (by decide) rfl ?_))))))
              obtain rfl := Option.some.inj H
              obtain rfl := Option.some.inj (show (some ((List.replicate 16 (0 : Int)), 50) : Option (List Int × Int)) = some _ from HOj12)
              exact ⟨rfl, HS145.sel [] rfl⟩
            · have H := of_neg H c143
              refine L_skip ?_
              refine L_region ?_
              refine F_val rfl rfl rfl (O_move rfl rfl) ?_
              obtain ⟨⟨g146, g147⟩, H⟩ := of_gd H
              refine F_val rfl rfl rfl (O_idxA rfl rfl rfl Try.underlying82 size3 g146 g147) ?_
              obtain ⟨g148, H⟩ := of_gd H
              refine F_val rfl rfl rfl (O_loadB rfl rfl flat3 (HS132.cells_box (i := 2) rfl) (at0 (int_cell g146 (arr_lt g148 g147)))) ?_
              refine F_val rfl rfl rfl (O_add rfl rfl rfl) ?_
              refine F_val rfl rfl rfl (O_idxA rfl rfl rfl Try.underlying82 size3 g146 g147) ?_
              obtain ⟨l151, h152, H⟩ := of_bnd H
              refine F_stAr (E := (Eint .i64)) (xs := y129) (q := x137) (a := IntKind.i64.wrap ((rd y129 x137) + 1)) (off := 0) 2 (rowC (Eint .i64) l151) [] [] rfl rfl rfl rfl rfl size3 HS132 rfl rfl (by simp only [List.append_assoc, List.cons_append, List.nil_append, List.append_nil]) rfl g146 (arr_lt g148 g147) h152 (by simp only [List.append_assoc, List.cons_append, List.nil_append, List.append_nil]) (fun w149 HS150 => ?_)
              have hl153 : l151.length = 16 := by rw [← h152, List.length_set]; exact g148
              have HS150 : Hp S0 w0 w149 [.rd A_lens_0 (rowC (Eint .i64) l_lens_0), .box g3 (rowC (Eint .i64) (List.replicate 16 (0 : Int))) 82, .box g7 (rowC (Eint .i64) l151) 82] := HS150
              refine F_nil ?_
              refine L_endB hN134 ?_
              refine L_region ?_
              refine F_val rfl rfl rfl (O_add rfl rfl rfl) ?_
              refine F_val rfl rfl rfl (O_move rfl rfl) ?_
              refine F_nil ?_
              refine L_nil (fun a ha => hNp128 _ a _ (Nat.lt_succ_self _) ⟨_, _, Is.cons ha (Is.cons ha (Is.cons ha (Is.cons ha (Is.cons ha (Is.nil ha) rfl) rfl) rfl) rfl) rfl, HS150.sel [0, 1, 2] rfl, H⟩)
        · have H := of_neg H c133
          refine L_exitB (fun a w h => hOp128 (.exit 0) a w rfl (hXb84 a w h)) ?_
          refine L_nil (fun a ha => hNj12 a _ ⟨_, (Option.some.inj H).symm, Is.cons ha (Is.cons ha (Is.nil ha) rfl) rfl, HS132.sel [0, 1, 2] rfl⟩)
    · obtain ⟨y83, rfl, ha, HS155⟩ := hR
      refine wpLF_app ?_ ha
      have H := (onR_inr _ _ _).symm.trans H
      refine L_seq ?_
      refine L_region ?_
      refine F_val rfl rfl rfl (O_idxA rfl rfl rfl Try.underlying82 size3 (by decide) (by decide)) ?_
      obtain ⟨g160, H⟩ := of_gd H
      obtain ⟨l158, h159, H⟩ := of_bnd H
      refine F_stAr (E := (Eint .i64)) (xs := y83) (q := 0) (a := 0) (off := 0) 2 (rowC (Eint .i64) l158) [] [] rfl rfl rfl rfl rfl size3 HS155 rfl rfl (by simp only [List.append_assoc, List.cons_append, List.nil_append, List.append_nil]) rfl (by decide) (arr_lt g160 (by decide)) h159 (by simp only [List.append_assoc, List.cons_append, List.nil_append, List.append_nil]) (fun w156 HS157 => ?_)
      have hl161 : l158.length = 16 := by rw [← h159, List.length_set]; exact g160
      have HS157 : Hp S0 w0 w156 [.rd A_lens_0 (rowC (Eint .i64) l_lens_0), .box g3 (rowC (Eint .i64) (List.replicate 16 (0 : Int))) 82, .box g7 (rowC (Eint .i64) l158) 82] := HS157
      refine F_nil ?_
      refine L_seq ?_
      refine L_region ?_
      refine F_val rfl rfl rfl (O_loadSg [] (rowC (Eint .i64) l158) [] rfl rfl wide82 (HS157.cells_box (i := 2) rfl) (by simp only [List.append_assoc, List.cons_append, List.nil_append, List.append_nil]) rfl (row_len hl161) (by decide)) ?_
      refine F_stSg 1 (rowC (Eint .i64) l158) [] (rowC (Eint .i64) (List.replicate 16 (0 : Int))) (rowC (Eint .i64) l158) [] rfl rfl rfl rfl rfl size82 HS157 rfl rfl ones_row (by simp only [List.append_assoc, List.cons_append, List.nil_append, List.append_nil]) (by simp only [List.append_assoc, List.cons_append, List.nil_append, List.append_nil]) rfl (row_len List.length_replicate) (row_len hl161) (fun w162 HS163 => ?_)
      have HS163 : Hp S0 w0 w162 [.rd A_lens_0 (rowC (Eint .i64) l_lens_0), .box g3 (rowC (Eint .i64) l158) 82, .box g7 (rowC (Eint .i64) l158) 82] := HS163
      refine F_val rfl rfl rfl (O_assign rfl rfl) ?_
      refine F_nil ?_
      refine L_ret (fun a ha => (post_retc2 ha rfl rfl wide82 (HS163.cells_box (i := 1) rfl) (row_len hl161) (by decide) rfl ?_))
      obtain rfl := Option.some.inj H
      exact ⟨rfl, HS163.sel [] rfl⟩

/-! function 58: valise/code.shape -/
theorem code_shape.calls {S0 : Nat → Prop} {w0 : World} {l_n_0 : List Int} {r : Int} (HS0 : Hp S0 w0 w0 []) (h : code_shape.f l_n_0 = some r) :
    Calls Try.prog 58 ([.agg (rowC (Eint .i64) l_n_0).toArray] : List Value).toArray w0 (fun e w => e = .returned (.int .i64 r) ∧ Hp S0 w0 w []) := by
  have H : (((code_shape.l1 FU 0 0 1 l_n_0).bind fun (words_49, used_50) => if words_49 = 0 then (some 0) else ((if words_49 = 1 then (gd (l_n_0.length = 16) (some (decide (rd l_n_0 1 = 1)))) else (some false)).bind fun b99 => if b99 = true then (some 1) else (if 32768 < used_50 then (some 3) else (if used_50 = 32768 then (some 4) else (some 2))))) : Option (Int)) = some r := h
  refine calls_start Try.func58 rfl rfl ?_
  refine L_seq ?_
  refine L_region ?_
  refine F_box (C := rowC (Eint .i64) l_n_0) rfl rfl rfl rfl rfl rfl HS0 (fun w1 g3 HS2 => ?_)
  have HS2 : Hp S0 w0 w1 [.box g3 (rowC (Eint .i64) l_n_0) 82] := HS2
  refine F_val rfl rfl rfl (O_assign rfl rfl) ?_
  refine F_nil ?_
  refine L_seq ?_
  refine L_region ?_
  refine F_val rfl rfl rfl (O_assign rfl rfl) ?_
  refine F_val rfl rfl rfl (O_assign rfl rfl) ?_
  refine F_nil ?_
  refine L_seq ?_
  refine L_seq ?_
  refine L_region ?_
  refine F_val rfl rfl rfl (O_assign rfl rfl) ?_
  refine F_nil ?_
  obtain ⟨yj5, Hyj5, H⟩ := of_bind H
  refine L_join (fun a w => ∃ (words_49 : Int), ∃ (used_50 : Int), yj5 = (words_49, used_50) ∧ Is Try.f58.ntmps a [(1, .pointer (some ⟨g3, 0, none⟩)), (3, .int .i64 words_49), (4, .int .i64 used_50)] ∧ Hp S0 w0 w [.box g3 (rowC (Eint .i64) l_n_0) 82]) (fun Qj5 hNj5 hOj5 => ?_) (fun a w hR => ?_)
  · skip
    have H := Hyj5
    refine L_blk (fun Qb51 hNb51 hXb51 hOb51 => ?_)
    refine L_lp (fun k a w => ∃ (words_77 : Int), ∃ (used_78 : Int), ∃ (l_79 : Int), Is Try.f58.ntmps a [(1, .pointer (some ⟨g3, 0, none⟩)), (3, .int .i64 words_77), (4, .int .i64 used_78), (5, .int .i64 l_79)] ∧ Hp S0 w0 w [.box g3 (rowC (Eint .i64) l_n_0) 82] ∧ code_shape.l1 k words_77 used_78 l_79 l_n_0 = some yj5) FU (fun a ha => ⟨_, _, _, Is.cons ha (Is.cons ha (Is.cons ha (Is.cons ha (Is.nil ha) rfl) rfl) rfl) rfl, HS2.sel [0] rfl, H⟩) (fun kp76 a w80 hI Qp76 hNp76 hOp76 => ?_)
    obtain ⟨words_77, used_78, l_79, ha, HS81, HAp76⟩ := hI
    cases kp76 with
    | zero => cases (show (none : Option _) = some _ from HAp76)
    | succ kp76 =>
      have H := (code_shape.l1.eq_2 ..).symm.trans HAp76
      refine wpLF_app ?_ ha
      refine L_seq ?_
      refine L_seq ?_
      refine L_region ?_
      refine F_val rfl rfl rfl (O_move rfl rfl) ?_
      refine F_val rfl rfl rfl (O_le rfl rfl rfl) ?_
      refine F_nil ?_
      refine L_condP rfl (fun c82 => ?_) (fun c82 => ?_)
      · have H := of_pos H c82
        refine L_skip ?_
        refine L_seq ?_
        refine L_blk (fun Q83 hN83 hX83 hO83 => ?_)
        refine L_seq ?_
        refine L_region ?_
        refine F_val rfl rfl rfl (O_move rfl rfl) ?_
        refine F_val rfl rfl rfl (O_move rfl rfl) ?_
        obtain ⟨⟨g84, g85⟩, H⟩ := of_gd H
        refine F_val rfl rfl rfl (O_idxA rfl rfl rfl Try.underlying82 size3 g84 g85) ?_
        obtain ⟨g86, H⟩ := of_gd H
        refine F_val rfl rfl rfl (O_loadB rfl rfl flat3 (HS81.cells_box (i := 0) rfl) (at0 (int_cell g84 (arr_lt g86 g85)))) ?_
        refine F_val rfl rfl rfl (O_add rfl rfl rfl) ?_
        obtain ⟨x87, h88, H⟩ := of_bnd H
        refine F_val rfl rfl rfl (O_assign' rfl rfl (congrArg (Value.int .i64) h88)) ?_
        refine F_nil ?_
        refine L_region ?_
        refine F_val rfl rfl rfl (O_move rfl rfl) ?_
        refine F_val rfl rfl rfl (O_move rfl rfl) ?_
        refine F_val rfl rfl rfl (O_idxA rfl rfl rfl Try.underlying82 size3 g84 g85) ?_
        refine F_val rfl rfl rfl (O_loadB rfl rfl flat3 (HS81.cells_box (i := 0) rfl) (at0 (int_cell g84 (arr_lt g86 g85)))) ?_
        refine F_val rfl rfl rfl (O_move rfl rfl) ?_
        refine F_val rfl rfl rfl (O_sub rfl rfl rfl) ?_
        obtain ⟨g89, H⟩ := of_gd H
        refine F_val rfl rfl rfl (O_shl rfl rfl rfl g89) ?_
        refine F_val rfl rfl rfl (O_add rfl rfl rfl) ?_
        obtain ⟨x90, h91, H⟩ := of_bnd H
        refine F_val rfl rfl rfl (O_assign' rfl rfl (congrArg (Value.int .i64) h91)) ?_
        refine F_nil ?_
        refine L_endB hN83 ?_
        refine L_region ?_
        refine F_val rfl rfl rfl (O_move rfl rfl) ?_
        refine F_val rfl rfl rfl (O_add rfl rfl rfl) ?_
        obtain ⟨x92, h93, H⟩ := of_bnd H
        refine F_val rfl rfl rfl (O_assign' rfl rfl (congrArg (Value.int .i64) h93)) ?_
        refine F_nil ?_
        refine L_nil (fun a ha => hNp76 _ a _ (Nat.lt_succ_self _) ⟨_, _, _, Is.cons ha (Is.cons ha (Is.cons ha (Is.cons ha (Is.nil ha) rfl) rfl) rfl) rfl, HS81.sel [0] rfl, H⟩)
      · have H := of_neg H c82
        refine L_exitB (fun a w h => hOp76 (.exit 0) a w rfl (hXb51 a w h)) ?_
        refine L_nil (fun a ha => hNj5 a _ ⟨_, _, (Option.some.inj H).symm, Is.cons ha (Is.cons ha (Is.cons ha (Is.nil ha) rfl) rfl) rfl, HS81.sel [0] rfl⟩)
  · obtain ⟨words_49, used_50, rfl, ha, HS95⟩ := hR
    refine wpLF_app ?_ ha
    refine L_seq ?_
    refine L_blk (fun Q96 hN96 hX96 hO96 => ?_)
    refine L_seq ?_
    refine L_region ?_
    refine F_val rfl rfl rfl (O_move rfl rfl) ?_
    refine F_val rfl rfl rfl (O_eq rfl rfl rfl) ?_
    refine F_val rfl rfl rfl (O_assign rfl rfl) ?_
    refine F_nil ?_
    refine L_condP rfl (fun c97 => ?_) (fun c97 => ?_)
    · have H := of_pos H c97
      refine L_seq ?_
      refine L_region ?_
      refine F_val rfl rfl rfl (O_assign rfl rfl) ?_
      refine F_nil ?_
      refine L_ret (fun a ha => (hO96 .ret a _ rfl (post_ret1 ha rfl rfl ?_)))
      obtain rfl := Option.some.inj H
      exact ⟨rfl, HS95.sel [] rfl⟩
    · have H := of_neg H c97
      refine L_seq ?_
      refine L_region ?_
      refine F_val rfl rfl rfl (O_move rfl rfl) ?_
      refine F_val rfl rfl rfl (O_eq rfl rfl rfl) ?_
      refine F_val rfl rfl rfl (O_move rfl rfl) ?_
      obtain ⟨b99, Hb99, H⟩ := of_bind H
      refine F_grp 4 [(33, .bool b99), (4, .int .i64 used_50)] ?_ ?_
      · rcases Decidable.em (words_49 = 1) with c103 | c103
        · refine F_know (i := 29) rfl (dec_t c103) ?_
          have H := of_pos Hb99 c103
          refine F_gval rfl rfl rfl rfl rfl rfl (O_idxA rfl rfl rfl Try.underlying82 size3 (by decide) (by decide)) ?_
          obtain ⟨g104, H⟩ := of_gd H
          refine F_gval rfl rfl rfl rfl rfl rfl (O_loadB rfl rfl flat3 (HS95.cells_box (i := 0) rfl) (at0 (int_cell (by decide) (arr_lt g104 (by decide))))) ?_
          refine F_gval rfl rfl rfl rfl rfl rfl (O_eq rfl rfl rfl) ?_
          refine F_val rfl rfl rfl (O_pickT rfl rfl rfl) ?_
          refine F_know (i := 33) rfl (congrArg Value.bool (Option.some.inj H)) ?_
          exact F_grpE (fun a ha => Is.cons ha (Is.cons ha (Is.nil ha) rfl) rfl)
        · refine F_know (i := 29) rfl (dec_f c103) ?_
          have H := of_neg Hb99 c103
          refine F_gskip rfl rfl rfl rfl rfl rfl rfl ?_
          refine F_gskip rfl rfl rfl rfl rfl rfl rfl ?_
          refine F_gskip rfl rfl rfl rfl rfl rfl rfl ?_
          refine F_val rfl rfl rfl (O_pickF rfl rfl rfl) ?_
          refine F_know (i := 33) rfl (congrArg Value.bool (Option.some.inj H)) ?_
          exact F_grpE (fun a ha => Is.cons ha (Is.cons ha (Is.nil ha) rfl) rfl)
      · skip
        refine F_val rfl rfl rfl (O_assign rfl rfl) ?_
        refine F_nil ?_
        refine L_cond rfl (fun c105 => ?_) (fun c105 => ?_)
        · have H := of_pos H c105
          refine L_seq ?_
          refine L_region ?_
          refine F_val rfl rfl rfl (O_assign rfl rfl) ?_
          refine F_nil ?_
          refine L_ret (fun a ha => (hO96 .ret a _ rfl (post_ret1 ha rfl rfl ?_)))
          obtain rfl := Option.some.inj H
          exact ⟨rfl, HS95.sel [] rfl⟩
        · have H := of_neg H (by rw [c105]; exact Bool.false_ne_true)
          refine L_seq ?_
          refine L_region ?_
          refine F_val rfl rfl rfl (O_move rfl rfl) ?_
          refine F_val rfl rfl rfl (O_gt rfl rfl rfl) ?_
          refine F_val rfl rfl rfl (O_assign rfl rfl) ?_
          refine F_nil ?_
          refine L_condP rfl (fun c106 => ?_) (fun c106 => ?_)
          · have H := of_pos H c106
            refine L_seq ?_
            refine L_region ?_
            refine F_val rfl rfl rfl (O_assign rfl rfl) ?_
            refine F_nil ?_
            refine L_ret (fun a ha => (hO96 .ret a _ rfl (post_ret1 ha rfl rfl ?_)))
            obtain rfl := Option.some.inj H
            exact ⟨rfl, HS95.sel [] rfl⟩
          · have H := of_neg H c106
            refine L_seq ?_
            refine L_region ?_
            refine F_val rfl rfl rfl (O_move rfl rfl) ?_
            refine F_val rfl rfl rfl (O_eq rfl rfl rfl) ?_
            refine F_val rfl rfl rfl (O_assign rfl rfl) ?_
            refine F_nil ?_
            refine L_condP rfl (fun c107 => ?_) (fun c107 => ?_)
            · have H := of_pos H c107
              refine L_seq ?_
              refine L_region ?_
              refine F_val rfl rfl rfl (O_assign rfl rfl) ?_
              refine F_nil ?_
              refine L_ret (fun a ha => (hO96 .ret a _ rfl (post_ret1 ha rfl rfl ?_)))
              obtain rfl := Option.some.inj H
              exact ⟨rfl, HS95.sel [] rfl⟩
            · have H := of_neg H c107
              refine L_skip ?_
              refine L_endB hN96 ?_
              refine L_seq ?_
              refine L_region ?_
              refine F_val rfl rfl rfl (O_assign rfl rfl) ?_
              refine F_nil ?_
              refine L_ret (fun a ha => (post_ret1 ha rfl rfl ?_))
              obtain rfl := Option.some.inj H
              exact ⟨rfl, HS95.sel [] rfl⟩

/-! function 64: valise/code.refused -/
theorem code_refused.calls {S0 : Nat → Prop} {w0 : World} {s_0 : Int} {r : Int} (HS0 : Hp S0 w0 w0 []) (h : code_refused.f s_0 = some r) :
    Calls Try.prog 64 ([.int .i64 s_0] : List Value).toArray w0 (fun e w => e = .returned (.int .i64 r) ∧ Hp S0 w0 w []) := by
  have H : ((if s_0 = 2 then (some 52) else (if s_0 = 3 then (some 51) else (some 0))) : Option (Int)) = some r := h
  refine calls_start Try.func64 rfl rfl ?_
  refine L_seq ?_
  refine L_region ?_
  refine F_val rfl rfl rfl (O_assign rfl rfl) ?_
  refine F_nil ?_
  refine L_seq ?_
  refine L_seq ?_
  refine L_region ?_
  refine F_val rfl rfl rfl (O_move rfl rfl) ?_
  refine F_nil ?_
  refine L_blk (fun Q1 hN1 hX1 hO1 => ?_)
  refine L_seq ?_
  refine L_region ?_
  refine F_val rfl rfl rfl (O_eq rfl rfl rfl) ?_
  refine F_val rfl rfl rfl (O_assign rfl rfl) ?_
  refine F_nil ?_
  refine L_condP rfl (fun c2 => ?_) (fun c2 => ?_)
  · have H := of_pos H c2
    refine L_seq ?_
    refine L_region ?_
    refine F_val rfl rfl rfl (O_assign rfl rfl) ?_
    refine F_nil ?_
    refine L_ret (fun a ha => (hO1 .ret a _ rfl (post_ret1 ha rfl rfl ?_)))
    obtain rfl := Option.some.inj H
    exact ⟨rfl, HS0.sel [] rfl⟩
  · have H := of_neg H c2
    refine L_seq ?_
    refine L_region ?_
    refine F_val rfl rfl rfl (O_eq rfl rfl rfl) ?_
    refine F_val rfl rfl rfl (O_assign rfl rfl) ?_
    refine F_nil ?_
    refine L_condP rfl (fun c3 => ?_) (fun c3 => ?_)
    · have H := of_pos H c3
      refine L_seq ?_
      refine L_region ?_
      refine F_val rfl rfl rfl (O_assign rfl rfl) ?_
      refine F_nil ?_
      refine L_ret (fun a ha => (hO1 .ret a _ rfl (post_ret1 ha rfl rfl ?_)))
      obtain rfl := Option.some.inj H
      exact ⟨rfl, HS0.sel [] rfl⟩
    · have H := of_neg H c3
      refine L_skip ?_
      refine L_endB hN1 ?_
      refine L_seq ?_
      refine L_region ?_
      refine F_val rfl rfl rfl (O_assign rfl rfl) ?_
      refine F_nil ?_
      refine L_ret (fun a ha => (post_ret1 ha rfl rfl ?_))
      obtain rfl := Option.some.inj H
      exact ⟨rfl, HS0.sel [] rfl⟩

/-! function 62: valise/code.first -/
theorem code_first.calls {S0 : Nat → Prop} {w0 : World} {l_n_0 : List Int} {r : List Int} (HS0 : Hp S0 w0 w0 []) (h : code_first.f l_n_0 = some r) :
    Calls Try.prog 62 ([.agg (rowC (Eint .i64) l_n_0).toArray] : List Value).toArray w0 (fun e w => e = .returned (.agg (rowC (Eint .i64) r).toArray) ∧ Hp S0 w0 w []) := by
  have H : (((code_first.l1 FU (List.replicate 16 (0 : Int)) 0 1 l_n_0).bind fun y71 => gd (y71.length = 16) (some y71)) : Option (List Int)) = some r := h
  refine calls_start Try.func62 rfl rfl ?_
  refine L_seq ?_
  refine L_region ?_
  refine F_box (C := rowC (Eint .i64) l_n_0) rfl rfl rfl rfl rfl rfl HS0 (fun w1 g3 HS2 => ?_)
  have HS2 : Hp S0 w0 w1 [.box g3 (rowC (Eint .i64) l_n_0) 82] := HS2
  refine F_alloc (C := rowC (Eint .i64) (List.replicate 16 (0 : Int))) rfl rfl rfl rfl zero82 rfl HS2 (fun w5 g7 HS6 => ?_)
  have HS6 : Hp S0 w0 w5 [.box g3 (rowC (Eint .i64) l_n_0) 82, .box g7 (rowC (Eint .i64) (List.replicate 16 (0 : Int))) 82] := HS6
  refine F_nil ?_
  refine L_seq ?_
  refine L_region ?_
  refine F_alloc (C := rowC (Eint .i64) (List.replicate 16 (0 : Int))) rfl rfl rfl rfl zero82 rfl HS6 (fun w9 g11 HS10 => ?_)
  have HS10 : Hp S0 w0 w9 [.box g3 (rowC (Eint .i64) l_n_0) 82, .box g7 (rowC (Eint .i64) (List.replicate 16 (0 : Int))) 82, .box g11 (rowC (Eint .i64) (List.replicate 16 (0 : Int))) 82] := HS10
  refine F_nil ?_
  refine L_seq ?_
  refine L_region ?_
  refine F_val rfl rfl rfl (O_assign rfl rfl) ?_
  refine F_nil ?_
  refine L_seq ?_
  refine L_seq ?_
  refine L_region ?_
  refine F_val rfl rfl rfl (O_assign rfl rfl) ?_
  refine F_nil ?_
  obtain ⟨yj13, Hyj13, H⟩ := of_bind H
  refine L_join (fun a w => ∃ (y71 : List Int), yj13 = y71 ∧ Is Try.f62.ntmps a [(2, .pointer (some ⟨g7, 0, none⟩)), (3, .pointer (some ⟨g11, 0, none⟩))] ∧ Hp S0 w0 w [.box g7 (rowC (Eint .i64) (List.replicate 16 (0 : Int))) 82, .box g11 (rowC (Eint .i64) y71) 82]) (fun Qj13 hNj13 hOj13 => ?_) (fun a w hR => ?_)
  · skip
    have H := Hyj13
    refine L_blk (fun Qb72 hNb72 hXb72 hOb72 => ?_)
    refine L_lp (fun k a w => ∃ (y107 : List Int), ∃ (word_108 : Int), ∃ (l_109 : Int), Is Try.f62.ntmps a [(1, .pointer (some ⟨g3, 0, none⟩)), (2, .pointer (some ⟨g7, 0, none⟩)), (3, .pointer (some ⟨g11, 0, none⟩)), (4, .int .i64 word_108), (5, .int .i64 l_109)] ∧ Hp S0 w0 w [.box g3 (rowC (Eint .i64) l_n_0) 82, .box g7 (rowC (Eint .i64) (List.replicate 16 (0 : Int))) 82, .box g11 (rowC (Eint .i64) y107) 82] ∧ code_first.l1 k y107 word_108 l_109 l_n_0 = some yj13) FU (fun a ha => ⟨_, _, _, Is.cons ha (Is.cons ha (Is.cons ha (Is.cons ha (Is.cons ha (Is.nil ha) rfl) rfl) rfl) rfl) rfl, HS10.sel [0, 1, 2] rfl, H⟩) (fun kp106 a w110 hI Qp106 hNp106 hOp106 => ?_)
    obtain ⟨y107, word_108, l_109, ha, HS111, HAp106⟩ := hI
    cases kp106 with
    | zero => cases (show (none : Option _) = some _ from HAp106)
    | succ kp106 =>
      have H := (code_first.l1.eq_2 ..).symm.trans HAp106
      refine wpLF_app ?_ ha
      refine L_seq ?_
      refine L_seq ?_
      refine L_region ?_
      refine F_val rfl rfl rfl (O_move rfl rfl) ?_
      refine F_val rfl rfl rfl (O_le rfl rfl rfl) ?_
      refine F_nil ?_
      refine L_condP rfl (fun c112 => ?_) (fun c112 => ?_)
      · have H := of_pos H c112
        refine L_skip ?_
        refine L_seq ?_
        refine L_blk (fun Q113 hN113 hX113 hO113 => ?_)
        refine L_seq ?_
        refine L_region ?_
        refine F_val rfl rfl rfl (O_move rfl rfl) ?_
        refine F_val rfl rfl rfl (O_move rfl rfl) ?_
        refine F_val rfl rfl rfl (O_sub rfl rfl rfl) ?_
        obtain ⟨⟨g114, g115⟩, H⟩ := of_gd H
        refine F_val rfl rfl rfl (O_idxA rfl rfl rfl Try.underlying82 size3 g114 g115) ?_
        obtain ⟨g116, H⟩ := of_gd H
        refine F_val rfl rfl rfl (O_loadB rfl rfl flat3 (HS111.cells_box (i := 0) rfl) (at0 (int_cell g114 (arr_lt g116 g115)))) ?_
        refine F_val rfl rfl rfl (O_add rfl rfl rfl) ?_
        refine F_val rfl rfl rfl (O_shl rfl rfl rfl (by decide)) ?_
        obtain ⟨x117, h118, H⟩ := of_bnd H
        refine F_val rfl rfl rfl (O_assign' rfl rfl (congrArg (Value.int .i64) h118)) ?_
        refine F_nil ?_
        refine L_region ?_
        refine F_val rfl rfl rfl (O_move rfl rfl) ?_
        refine F_val rfl rfl rfl (O_move rfl rfl) ?_
        obtain ⟨⟨g119, g120⟩, H⟩ := of_gd H
        refine F_val rfl rfl rfl (O_idxA rfl rfl rfl Try.underlying82 size3 g119 g120) ?_
        obtain ⟨g125, H⟩ := of_gd H
        obtain ⟨l123, h124, H⟩ := of_bnd H
        refine F_stAr (E := (Eint .i64)) (xs := y107) (q := l_109) (a := x117) (off := 0) 2 (rowC (Eint .i64) l123) [] [] rfl rfl rfl rfl rfl size3 HS111 rfl rfl (by simp only [List.append_assoc, List.cons_append, List.nil_append, List.append_nil]) rfl g119 (arr_lt g125 g120) h124 (by simp only [List.append_assoc, List.cons_append, List.nil_append, List.append_nil]) (fun w121 HS122 => ?_)
        have hl126 : l123.length = 16 := by rw [← h124, List.length_set]; exact g125
        have HS122 : Hp S0 w0 w121 [.box g3 (rowC (Eint .i64) l_n_0) 82, .box g7 (rowC (Eint .i64) (List.replicate 16 (0 : Int))) 82, .box g11 (rowC (Eint .i64) l123) 82] := HS122
        refine F_nil ?_
        refine L_endB hN113 ?_
        refine L_region ?_
        refine F_val rfl rfl rfl (O_move rfl rfl) ?_
        refine F_val rfl rfl rfl (O_add rfl rfl rfl) ?_
        obtain ⟨x127, h128, H⟩ := of_bnd H
        refine F_val rfl rfl rfl (O_assign' rfl rfl (congrArg (Value.int .i64) h128)) ?_
        refine F_nil ?_
        refine L_nil (fun a ha => hNp106 _ a _ (Nat.lt_succ_self _) ⟨_, _, _, Is.cons ha (Is.cons ha (Is.cons ha (Is.cons ha (Is.cons ha (Is.nil ha) rfl) rfl) rfl) rfl) rfl, HS122.sel [0, 1, 2] rfl, H⟩)
      · have H := of_neg H c112
        refine L_exitB (fun a w h => hOp106 (.exit 0) a w rfl (hXb72 a w h)) ?_
        refine L_nil (fun a ha => hNj13 a _ ⟨_, (Option.some.inj H).symm, Is.cons ha (Is.cons ha (Is.nil ha) rfl) rfl, HS111.sel [1, 2] rfl⟩)
  · obtain ⟨y71, ej, ha, HS130⟩ := hR
    obtain rfl := ej.symm
    refine wpLF_app ?_ ha
    refine L_seq ?_
    refine L_region ?_
    obtain ⟨g131, H⟩ := of_gd H
    refine F_val rfl rfl rfl (O_loadSg [] (rowC (Eint .i64) y71) [] rfl rfl wide82 (HS130.cells_box (i := 1) rfl) (by simp only [List.append_assoc, List.cons_append, List.nil_append, List.append_nil]) rfl (row_len g131) (by decide)) ?_
    refine F_stSg 0 (rowC (Eint .i64) y71) [] (rowC (Eint .i64) (List.replicate 16 (0 : Int))) (rowC (Eint .i64) y71) [] rfl rfl rfl rfl rfl size82 HS130 rfl rfl ones_row (by simp only [List.append_assoc, List.cons_append, List.nil_append, List.append_nil]) (by simp only [List.append_assoc, List.cons_append, List.nil_append, List.append_nil]) rfl (row_len List.length_replicate) (row_len g131) (fun w132 HS133 => ?_)
    have HS133 : Hp S0 w0 w132 [.box g7 (rowC (Eint .i64) y71) 82, .box g11 (rowC (Eint .i64) y71) 82] := HS133
    refine F_nil ?_
    refine L_ret (fun a ha => (post_retc1 ha rfl rfl wide82 (HS133.cells_box (i := 0) rfl) (row_len g131) (by decide) ?_))
    obtain rfl := Option.some.inj H
    exact ⟨rfl, HS133.sel [] rfl⟩

/-! function 61: valise/code.words -/
theorem code_words.calls {S0 : Nat → Prop} {w0 : World} {A_lens_0 : Option Addr} {c_lens_0 : Nat} {l_lens_0 : List Int} {l_next_1 : List Int} {r : List Int} (HS0 : Hp S0 w0 w0 [.rd A_lens_0 (rowC (Eint .i64) l_lens_0)]) (hc_lens_0 : l_lens_0.length ≤ c_lens_0) (h : code_words.f l_lens_0 l_next_1 = some r) :
    Calls Try.prog 61 ([.slice A_lens_0 l_lens_0.length c_lens_0, .agg (rowC (Eint .i64) l_next_1).toArray] : List Value).toArray w0 (fun e w => ∃ (A1 : Option Addr), ∃ (c1 : Nat), e = .returned (.slice A1 r.length c1) ∧ Hp S0 w0 w [.own A1 c1 (rowC (Eint .i64) r) 3 (Eint .i64).sz]) := by
  have H : ((gd ((0 : Int) ≤ (l_lens_0.length : Int) ∧ (l_lens_0.length : Int) * 8 ≤ 281474976710656) (bnd (List.replicate ((l_lens_0.length : Int) : Int).toNat (0 : Int)) fun l9 => (code_words.l1 FU l9 l_next_1 0 l_lens_0).bind fun l154 => some l154)) : Option (List Int)) = some r := h
  refine calls_start Try.func61 rfl rfl ?_
  refine L_seq ?_
  refine L_region ?_
  refine F_box (C := rowC (Eint .i64) l_next_1) rfl rfl rfl rfl rfl rfl HS0 (fun w1 g3 HS2 => ?_)
  have HS2 : Hp S0 w0 w1 [.rd A_lens_0 (rowC (Eint .i64) l_lens_0), .box g3 (rowC (Eint .i64) l_next_1) 82] := HS2
  refine F_val rfl rfl rfl (O_assign rfl rfl) ?_
  refine F_nil ?_
  refine L_seq ?_
  refine L_region ?_
  refine F_val rfl rfl rfl (O_move rfl rfl) ?_
  refine F_val rfl rfl rfl (O_len rfl rfl Try.underlying22) ?_
  obtain ⟨⟨g7, g8⟩, H⟩ := of_gd H
  obtain ⟨l9, h10, H⟩ := of_bnd H
  refine F_makeE (E := (Eint .i64)) rfl rfl rfl rfl rfl rfl Try.underlying22 info3 rfl (by decide) (by decide) g7 g8 HS2 h10 (fun w5 A11 c12 HS6 => ?_)
  have HS6 : Hp S0 w0 w5 [.rd A_lens_0 (rowC (Eint .i64) l_lens_0), .box g3 (rowC (Eint .i64) l_next_1) 82, .own A11 c12 (rowC (Eint .i64) l9) 3 (Eint .i64).sz] := HS6
  refine F_val rfl rfl rfl (O_assign rfl rfl) ?_
  refine F_nil ?_
  refine L_seq ?_
  refine L_seq ?_
  refine L_region ?_
  refine F_val rfl rfl rfl (O_move rfl rfl) ?_
  refine F_val rfl rfl rfl (O_len rfl rfl Try.underlying22) ?_
  refine F_val rfl rfl rfl (O_move rfl rfl) ?_
  refine F_nil ?_
  obtain ⟨yj14, Hyj14, H⟩ := of_bind H
  refine L_join (fun a w => ∃ (l154 : List Int), yj14 = l154 ∧ Is Try.f61.ntmps a [(5, .slice A11 l154.length c12)] ∧ Hp S0 w0 w [.rd A_lens_0 (rowC (Eint .i64) l_lens_0), .own A11 c12 (rowC (Eint .i64) l154) 3 (Eint .i64).sz]) (fun Qj14 hNj14 hOj14 => ?_) (fun a w hR => ?_)
  · skip
    have H := Hyj14
    refine L_blk (fun Qb155 hNb155 hXb155 hOb155 => ?_)
    refine L_lp (fun k a w => ∃ (l246 : List Int), ∃ (y247 : List Int), ∃ (t248 : Int), Is Try.f61.ntmps a [(3, .pointer (some ⟨g3, 0, none⟩)), (5, .slice A11 l246.length c12), (11, .slice A_lens_0 l_lens_0.length c_lens_0), (12, .int .i64 (l_lens_0.length : Int)), (13, .int .i64 t248)] ∧ Hp S0 w0 w [.rd A_lens_0 (rowC (Eint .i64) l_lens_0), .box g3 (rowC (Eint .i64) y247) 82, .own A11 c12 (rowC (Eint .i64) l246) 3 (Eint .i64).sz] ∧ code_words.l1 k l246 y247 t248 l_lens_0 = some yj14) FU (fun a ha => ⟨_, _, _, Is.cons ha (Is.cons ha (Is.cons ha (Is.cons ha (Is.cons ha (Is.nil ha) rfl) rfl) rfl) rfl) rfl, HS6.sel [0, 1, 2] rfl, H⟩) (fun kp245 a w249 hI Qp245 hNp245 hOp245 => ?_)
    obtain ⟨l246, y247, t248, ha, HS250, HAp245⟩ := hI
    cases kp245 with
    | zero => cases (show (none : Option _) = some _ from HAp245)
    | succ kp245 =>
      have H := (code_words.l1.eq_2 ..).symm.trans HAp245
      refine wpLF_app ?_ ha
      refine L_seq ?_
      refine L_region ?_
      refine F_val rfl rfl rfl (O_lt rfl rfl rfl) ?_
      refine F_nil ?_
      refine L_seq ?_
      refine L_condP rfl (fun c251 => ?_) (fun c251 => ?_)
      · have H := of_pos H c251
        refine L_skip ?_
        refine L_seq ?_
        refine L_blk (fun Q252 hN252 hX252 hO252 => ?_)
        refine L_seq ?_
        refine L_region ?_
        refine F_val rfl rfl rfl (O_move rfl rfl) ?_
        obtain ⟨⟨g253, g254⟩, H⟩ := of_gd H
        refine F_val rfl rfl rfl (O_idx rfl rfl rfl Try.underlying22 size3 g253 g254 (Cells.isA (HS250.cells_rd (i := 0) rfl) (rowC_ne (E := (Eint .i64)) g253 g254 (by decide)))) ?_
        refine F_val rfl rfl rfl (O_loadC rfl rfl flat3 (HS250.cells_rd (i := 0) rfl) (int_cell g253 g254)) ?_
        refine F_val rfl rfl rfl (O_assign rfl rfl) ?_
        obtain ⟨x255, h256, H⟩ := of_bnd H
        refine F_val rfl rfl rfl (O_assign' rfl rfl (congrArg (Value.int .i64) h256)) ?_
        refine F_nil ?_
        refine L_seq ?_
        refine L_region ?_
        refine F_val rfl rfl rfl (O_move rfl rfl) ?_
        refine F_val rfl rfl rfl (O_gt rfl rfl rfl) ?_
        refine F_nil ?_
        obtain ⟨yj257, Hyj257, H⟩ := of_bind H
        refine L_join (fun a w => ∃ (l274 : List Int), ∃ (y275 : List Int), yj257 = (l274, y275) ∧ Is Try.f61.ntmps a [(3, .pointer (some ⟨g3, 0, none⟩)), (5, .slice A11 l274.length c12), (11, .slice A_lens_0 l_lens_0.length c_lens_0), (12, .int .i64 (l_lens_0.length : Int)), (13, .int .i64 t248)] ∧ Hp S0 w0 w [.rd A_lens_0 (rowC (Eint .i64) l_lens_0), .box g3 (rowC (Eint .i64) y275) 82, .own A11 c12 (rowC (Eint .i64) l274) 3 (Eint .i64).sz]) (fun Qj257 hNj257 hOj257 => ?_) (fun a w hR => ?_)
        · skip
          have H := Hyj257
          refine L_condP rfl (fun c276 => ?_) (fun c276 => ?_)
          · have H := of_pos H c276
            refine L_seq ?_
            refine L_region ?_
            refine F_val rfl rfl rfl (O_move rfl rfl) ?_
            refine F_val rfl rfl rfl (O_move rfl rfl) ?_
            refine F_val rfl rfl rfl (O_move rfl rfl) ?_
            obtain ⟨⟨g277, g278⟩, H⟩ := of_gd H
            refine F_val rfl rfl rfl (O_idxA rfl rfl rfl Try.underlying82 size3 g277 g278) ?_
            obtain ⟨g279, H⟩ := of_gd H
            refine F_val rfl rfl rfl (O_loadB rfl rfl flat3 (HS250.cells_box (i := 1) rfl) (at0 (int_cell g277 (arr_lt g279 g278)))) ?_
            obtain ⟨⟨g280, g281⟩, H⟩ := of_gd H
            refine F_val rfl rfl rfl (O_idx rfl rfl rfl Try.underlying22 size3 g280 g281 (Cells.isA (HS250.cells_own (i := 2) rfl) (rowC_ne (E := (Eint .i64)) g280 g281 (by decide)))) ?_
            obtain ⟨l284, h285, H⟩ := of_bnd H
            refine F_setE (E := (Eint .i64)) (i := 2) (a := rd y247 x255) (q := t248) rfl rfl rfl rfl rfl rfl size3 HS250 rfl (by decide) g280 g281 h285 (fun w282 HS283 => ?_)
            have e286 : l246.length = l284.length := by rw [← h285, List.length_set]
            refine F_know (i := 5) rfl (congrArg (fun n => Value.slice A11 n c12) e286) ?_
            have HS283 : Hp S0 w0 w282 [.rd A_lens_0 (rowC (Eint .i64) l_lens_0), .box g3 (rowC (Eint .i64) y247) 82, .own A11 c12 (rowC (Eint .i64) l284) 3 (Eint .i64).sz] := HS283
            refine F_nil ?_
            refine L_region ?_
            refine F_val rfl rfl rfl (O_move rfl rfl) ?_
            refine F_val rfl rfl rfl (O_idxA rfl rfl rfl Try.underlying82 size3 g277 g278) ?_
            refine F_val rfl rfl rfl (O_loadB rfl rfl flat3 (HS283.cells_box (i := 1) rfl) (at0 (int_cell g277 (arr_lt g279 g278)))) ?_
            refine F_val rfl rfl rfl (O_add rfl rfl rfl) ?_
            refine F_val rfl rfl rfl (O_idxA rfl rfl rfl Try.underlying82 size3 g277 g278) ?_
            obtain ⟨l289, h290, H⟩ := of_bnd H
            refine F_stAr (E := (Eint .i64)) (xs := y247) (q := x255) (a := IntKind.i64.wrap ((rd y247 x255) + 1)) (off := 0) 1 (rowC (Eint .i64) l289) [] [] rfl rfl rfl rfl rfl size3 HS283 rfl rfl (by simp only [List.append_assoc, List.cons_append, List.nil_append, List.append_nil]) rfl g277 (arr_lt g279 g278) h290 (by simp only [List.append_assoc, List.cons_append, List.nil_append, List.append_nil]) (fun w287 HS288 => ?_)
            have hl291 : l289.length = 16 := by rw [← h290, List.length_set]; exact g279
            have HS288 : Hp S0 w0 w287 [.rd A_lens_0 (rowC (Eint .i64) l_lens_0), .box g3 (rowC (Eint .i64) l289) 82, .own A11 c12 (rowC (Eint .i64) l284) 3 (Eint .i64).sz] := HS288
            refine F_nil ?_
            refine L_nil (fun a ha => hNj257 a _ ⟨_, _, (Option.some.inj H).symm, Is.cons ha (Is.cons ha (Is.cons ha (Is.cons ha (Is.cons ha (Is.nil ha) rfl) rfl) rfl) rfl) rfl, HS288.sel [0, 1, 2] rfl⟩)
          · have H := of_neg H c276
            refine L_skip ?_
            refine L_nil (fun a ha => hNj257 a _ ⟨_, _, (Option.some.inj H).symm, Is.cons ha (Is.cons ha (Is.cons ha (Is.cons ha (Is.cons ha (Is.nil ha) rfl) rfl) rfl) rfl) rfl, HS250.sel [0, 1, 2] rfl⟩)
        · obtain ⟨l274, y275, rfl, ha, HS293⟩ := hR
          refine wpLF_app ?_ ha
          refine L_endB hN252 ?_
          refine L_region ?_
          refine F_val rfl rfl rfl (O_add rfl rfl rfl) ?_
          refine F_val rfl rfl rfl (O_move rfl rfl) ?_
          refine F_nil ?_
          refine L_nil (fun a ha => hNp245 _ a _ (Nat.lt_succ_self _) ⟨_, _, _, Is.cons ha (Is.cons ha (Is.cons ha (Is.cons ha (Is.cons ha (Is.nil ha) rfl) rfl) rfl) rfl) rfl, HS293.sel [0, 1, 2] rfl, H⟩)
      · have H := of_neg H c251
        refine L_exitB (fun a w h => hOp245 (.exit 0) a w rfl (hXb155 a w h)) ?_
        refine L_nil (fun a ha => hNj14 a _ ⟨_, (Option.some.inj H).symm, Is.cons ha (Is.nil ha) rfl, HS250.sel [0, 2] rfl⟩)
  · obtain ⟨l154, ej, ha, HS295⟩ := hR
    obtain rfl := ej.symm
    refine wpLF_app ?_ ha
    refine L_seq ?_
    refine L_region ?_
    refine F_val rfl rfl rfl (O_move rfl rfl) ?_
    refine F_val rfl rfl rfl (O_assign rfl rfl) ?_
    refine F_nil ?_
    refine L_ret (fun a ha => (post_ret1 ha rfl rfl ?_))
    obtain rfl := Option.some.inj H
    exact ⟨_, _, rfl, HS295.sel [1] rfl⟩

/-! function 65: valise/code.makeTable -/
theorem code_makeTable.calls {S0 : Nat → Prop} {w0 : World} {A_lens_0 : Option Addr} {c_lens_0 : Nat} {l_lens_0 : List Int} {l_counts_1 : List Int} {r : (List Int × List Int × List Int × List Int)} (HS0 : Hp S0 w0 w0 [.rd A_lens_0 (rowC (Eint .i64) l_lens_0)]) (hc_lens_0 : l_lens_0.length ≤ c_lens_0) (h : code_makeTable.f l_lens_0 l_counts_1 = some r) :
    Calls Try.prog 65 ([.slice A_lens_0 l_lens_0.length c_lens_0, .agg (rowC (Eint .i64) l_counts_1).toArray] : List Value).toArray w0 (fun e w => ∃ (A1_0 : Option Addr), ∃ (c1_0 : Nat), ∃ (A1_1 : Option Addr), ∃ (c1_1 : Nat), e = .returned (.agg (([.slice A1_0 r.1.length c1_0, .slice A1_1 r.2.1.length c1_1] : List Value) ++ rowC (Eint .i64) r.2.2.1 ++ rowC (Eint .i64) r.2.2.2).toArray) ∧ Hp S0 w0 w [.own A1_0 c1_0 (rowC (Eint .i64) r.1) 3 (Eint .i64).sz, .own A1_1 c1_1 (rowC (Eint .i64) r.2.1) 3 (Eint .i64).sz]) := by
  have H : ((gd (l_counts_1.length = 16) ((code_first.f l_counts_1).bind fun z14 => gd (z14.length = 16) (bnd (([] : List Int) ++ l_lens_0) fun l53 => gd ((l53.length : Int) * 8 ≤ 140737488355328) ((code_words.f l_lens_0 z14).bind fun z62 => some (l53, z62, l_counts_1, z14))))) : Option ((List Int × List Int × List Int × List Int))) = some r := h
  refine calls_start Try.func65 rfl rfl ?_
  refine L_seq ?_
  refine L_region ?_
  refine F_box (C := rowC (Eint .i64) l_counts_1) rfl rfl rfl rfl rfl rfl HS0 (fun w1 g3 HS2 => ?_)
  have HS2 : Hp S0 w0 w1 [.rd A_lens_0 (rowC (Eint .i64) l_lens_0), .box g3 (rowC (Eint .i64) l_counts_1) 82] := HS2
  refine F_alloc (C := ([.slice none 0 0, .slice none 0 0] : List Value) ++ rowC (Eint .i64) (List.replicate 16 (0 : Int)) ++ rowC (Eint .i64) (List.replicate 16 (0 : Int))) rfl rfl rfl rfl zero91 rfl HS2 (fun w5 g7 HS6 => ?_)
  have HS6 : Hp S0 w0 w5 [.rd A_lens_0 (rowC (Eint .i64) l_lens_0), .box g3 (rowC (Eint .i64) l_counts_1) 82, .box g7 (([.slice none 0 0, .slice none 0 0] : List Value) ++ rowC (Eint .i64) (List.replicate 16 (0 : Int)) ++ rowC (Eint .i64) (List.replicate 16 (0 : Int))) 91] := HS6
  refine F_nil ?_
  refine L_seq ?_
  refine L_region ?_
  obtain ⟨g9, H⟩ := of_gd H
  refine F_val rfl rfl rfl (O_loadSg [] (rowC (Eint .i64) l_counts_1) [] rfl rfl wide82 (HS6.cells_box (i := 1) rfl) (by simp only [List.append_assoc, List.cons_append, List.nil_append, List.append_nil]) rfl (row_len g9) (by decide)) ?_
  obtain ⟨z14, h13, H⟩ := of_bind H
  refine F_call (xs := [.tmp 6]) rfl rfl rfl rfl Try.func62 nm62 rfl rfl ((code_first.calls (HS6.give [] rfl (Lent.nil)) h13).mono (fun e w hc => ?_))
  obtain ⟨rfl, HSo⟩ := hc
  refine ⟨.agg (rowC (Eint .i64) z14).toArray, rfl, ?_⟩
  have HS16 : Hp S0 w0 w [.rd A_lens_0 (rowC (Eint .i64) l_lens_0), .box g3 (rowC (Eint .i64) l_counts_1) 82, .box g7 (([.slice none 0 0, .slice none 0 0] : List Value) ++ rowC (Eint .i64) (List.replicate 16 (0 : Int)) ++ rowC (Eint .i64) (List.replicate 16 (0 : Int))) 91] := (HS6.back [] HSo rfl).sel [0, 1, 2] rfl
  refine F_alloc (C := rowC (Eint .i64) (List.replicate 16 (0 : Int))) rfl rfl rfl rfl zero82 rfl HS16 (fun w17 g19 HS18 => ?_)
  have HS18 : Hp S0 w0 w17 [.rd A_lens_0 (rowC (Eint .i64) l_lens_0), .box g3 (rowC (Eint .i64) l_counts_1) 82, .box g7 (([.slice none 0 0, .slice none 0 0] : List Value) ++ rowC (Eint .i64) (List.replicate 16 (0 : Int)) ++ rowC (Eint .i64) (List.replicate 16 (0 : Int))) 91, .box g19 (rowC (Eint .i64) (List.replicate 16 (0 : Int))) 82] := HS18
  obtain ⟨g23, H⟩ := of_gd H
  refine F_stSg 3 (rowC (Eint .i64) z14) [] (rowC (Eint .i64) (List.replicate 16 (0 : Int))) (rowC (Eint .i64) z14) [] rfl rfl rfl rfl rfl size82 HS18 rfl rfl ones_row (by simp only [List.append_assoc, List.cons_append, List.nil_append, List.append_nil]) (by simp only [List.append_assoc, List.cons_append, List.nil_append, List.append_nil]) rfl (row_len List.length_replicate) (row_len g23) (fun w21 HS22 => ?_)
  have HS22 : Hp S0 w0 w21 [.rd A_lens_0 (rowC (Eint .i64) l_lens_0), .box g3 (rowC (Eint .i64) l_counts_1) 82, .box g7 (([.slice none 0 0, .slice none 0 0] : List Value) ++ rowC (Eint .i64) (List.replicate 16 (0 : Int)) ++ rowC (Eint .i64) (List.replicate 16 (0 : Int))) 91, .box g19 (rowC (Eint .i64) z14) 82] := HS22
  refine F_nil ?_
  refine L_seq ?_
  refine L_heldS 8 1 [8] mix rfl (fun w45 hw46 => ?_)
  have HS47 := HS22.keep hw46
  refine ⟨HS47.turns [], ?_⟩
  have HR48 : Hp (HS47.ft []) w45 w45 [.rd A_lens_0 (rowC (Eint .i64) l_lens_0), .rd (some ⟨g3, 0, none⟩) (rowC (Eint .i64) l_counts_1), .rd (some ⟨g7, 0, none⟩) (([.slice none 0 0, .slice none 0 0] : List Value) ++ rowC (Eint .i64) (List.replicate 16 (0 : Int)) ++ rowC (Eint .i64) (List.replicate 16 (0 : Int))), .rd (some ⟨g19, 0, none⟩) (rowC (Eint .i64) z14)] := HS47.give [] rfl (Lent.rd HS47 (Lent.box HS47 (Lent.box HS47 (Lent.box HS47 (Lent.nil) (i := 3) rfl rfl (HS47.cells_box (i := 3) rfl).self) (i := 2) rfl rfl (HS47.cells_box (i := 2) rfl).self) (i := 1) rfl rfl (HS47.cells_box (i := 1) rfl).self) (i := 0) rfl (HS47.cells_rd (i := 0) rfl).self)
  refine H_val (i := 0) rfl (by kernel_rfl) (by kernel_rfl) (by kernel_rfl) (by kernel_rfl) rfl rfl rfl (Chg.refl _ _) (fun wq hq => O_move rfl rfl) ?_
  refine H_val (i := 2) rfl (by kernel_rfl) (by kernel_rfl) (by kernel_rfl) (by kernel_rfl) rfl rfl rfl (Chg.refl _ _) (fun wq hq => O_move rfl rfl) ?_
  refine H_val (i := 3) rfl (by kernel_rfl) (by kernel_rfl) (by kernel_rfl) (by kernel_rfl) rfl rfl rfl (Chg.refl _ _) (fun wq hq => O_loadSg [] (rowC (Eint .i64) z14) [] rfl rfl wide82 ((HS47.keepT [] hq).cells_box (i := 3) rfl) (by simp only [List.append_assoc, List.cons_append, List.nil_append, List.append_nil]) rfl (row_len g23) (by decide)) ?_
  refine H_val (i := 5) rfl (by kernel_rfl) (by kernel_rfl) (by kernel_rfl) (by kernel_rfl) rfl rfl rfl (Chg.refl _ _) (fun wq hq => O_loadSg [] (rowC (Eint .i64) l_counts_1) [] rfl rfl wide82 ((HS47.keepT [] hq).cells_box (i := 1) rfl) (by simp only [List.append_assoc, List.cons_append, List.nil_append, List.append_nil]) rfl (row_len g9) (by decide)) ?_
  refine H_val (i := 6) rfl (by kernel_rfl) (by kernel_rfl) (by kernel_rfl) (by kernel_rfl) rfl rfl rfl (Chg.refl _ _) (fun wq hq => O_loadSg [] (rowC (Eint .i64) z14) [] rfl rfl wide82 ((HS47.keepT [] hq).cells_box (i := 3) rfl) (by simp only [List.append_assoc, List.cons_append, List.nil_append, List.append_nil]) rfl (row_len g23) (by decide)) ?_
  refine H_one (i := 1) rfl (by kernel_rfl) (by kernel_rfl) ?_
  have HS51 := HR48.addNil 3 (Eint .i64).sz
  have HS51 : Hp (HS47.ft []) w45 w45 [.rd A_lens_0 (rowC (Eint .i64) l_lens_0), .rd (some ⟨g3, 0, none⟩) (rowC (Eint .i64) l_counts_1), .rd (some ⟨g7, 0, none⟩) (([.slice none 0 0, .slice none 0 0] : List Value) ++ rowC (Eint .i64) (List.replicate 16 (0 : Int)) ++ rowC (Eint .i64) (List.replicate 16 (0 : Int))), .rd (some ⟨g19, 0, none⟩) (rowC (Eint .i64) z14), .own none 0 (rowC (Eint .i64) ([] : List Int)) 3 (Eint .i64).sz] := HS51
  obtain ⟨l53, h54, H⟩ := of_bnd H
  obtain ⟨g55, H⟩ := of_gd H
  refine F_appE (E := (Eint .i64)) (xs := ([] : List Int)) (ys := l_lens_0) (i := 4) rfl rfl rfl rfl Try.underlying22 info3 rfl (by decide) (by decide) rfl rfl HS51 rfl (HS51.cells_rd (i := 0) rfl) h54 g55 (fun w49 A56 c57 HS50 => ?_)
  have HS50 : Hp (HS47.ft []) w45 w49 [.rd A_lens_0 (rowC (Eint .i64) l_lens_0), .rd (some ⟨g3, 0, none⟩) (rowC (Eint .i64) l_counts_1), .rd (some ⟨g7, 0, none⟩) (([.slice none 0 0, .slice none 0 0] : List Value) ++ rowC (Eint .i64) (List.replicate 16 (0 : Int)) ++ rowC (Eint .i64) (List.replicate 16 (0 : Int))), .rd (some ⟨g19, 0, none⟩) (rowC (Eint .i64) z14), .own A56 c57 (rowC (Eint .i64) l53) 3 (Eint .i64).sz] := HS50
  refine H_next HS50.chg ?_
  refine H_one (i := 4) rfl (by kernel_rfl) (by kernel_rfl) ?_
  obtain ⟨z62, h61, H⟩ := of_bind H
  refine F_call (xs := [.tmp 10, .tmp 11]) rfl rfl rfl rfl Try.func61 nm61 rfl rfl ((code_words.calls (HS50.give [] rfl (Lent.rd HS50 (Lent.nil) (i := 0) rfl ((HS50.cells_rd (i := 0) rfl).self))) hc_lens_0 h61).mono (fun e w hc => ?_))
  obtain ⟨A65, c66, rfl, HSo⟩ := hc
  refine ⟨.slice A65 z62.length c66, rfl, ?_⟩
  have HS64 : Hp (HS47.ft []) w45 w [.rd A_lens_0 (rowC (Eint .i64) l_lens_0), .rd (some ⟨g3, 0, none⟩) (rowC (Eint .i64) l_counts_1), .rd (some ⟨g7, 0, none⟩) (([.slice none 0 0, .slice none 0 0] : List Value) ++ rowC (Eint .i64) (List.replicate 16 (0 : Int)) ++ rowC (Eint .i64) (List.replicate 16 (0 : Int))), .rd (some ⟨g19, 0, none⟩) (rowC (Eint .i64) z14), .own A56 c57 (rowC (Eint .i64) l53) 3 (Eint .i64).sz, .own A65 c66 (rowC (Eint .i64) z62) 3 (Eint .i64).sz] := (HS50.back [] HSo rfl).sel [0, 1, 2, 3, 4, 5] rfl
  refine H_next HS64.chg ?_
  refine H_val (i := 7) rfl (by kernel_rfl) (by kernel_rfl) (by kernel_rfl) (by kernel_rfl) rfl rfl rfl HS64.chg (fun wq hq => O_buildS (C := ([.slice A56 l53.length c57, .slice A65 z62.length c66] : List Value) ++ rowC (Eint .i64) l_counts_1 ++ rowC (Eint .i64) z14) [(0, .slice A56 l53.length c57), (1, .slice A65 z62.length c66), (2, .agg (rowC (Eint .i64) l_counts_1).toArray), (3, .agg (rowC (Eint .i64) z14).toArray)] rfl rfl rfl struct91 (Fills.cons [] [.slice none 0 0] [.slice A56 l53.length c57] [.slice none 0 0, .int .i64 0, .int .i64 0, .int .i64 0, .int .i64 0, .int .i64 0, .int .i64 0, .int .i64 0, .int .i64 0, .int .i64 0, .int .i64 0, .int .i64 0, .int .i64 0, .int .i64 0, .int .i64 0, .int .i64 0, .int .i64 0, .int .i64 0, .int .i64 0, .int .i64 0, .int .i64 0, .int .i64 0, .int .i64 0, .int .i64 0, .int .i64 0, .int .i64 0, .int .i64 0, .int .i64 0, .int .i64 0, .int .i64 0, .int .i64 0, .int .i64 0, .int .i64 0] [.slice A56 l53.length c57, .slice none 0 0, .int .i64 0, .int .i64 0, .int .i64 0, .int .i64 0, .int .i64 0, .int .i64 0, .int .i64 0, .int .i64 0, .int .i64 0, .int .i64 0, .int .i64 0, .int .i64 0, .int .i64 0, .int .i64 0, .int .i64 0, .int .i64 0, .int .i64 0, .int .i64 0, .int .i64 0, .int .i64 0, .int .i64 0, .int .i64 0, .int .i64 0, .int .i64 0, .int .i64 0, .int .i64 0, .int .i64 0, .int .i64 0, .int .i64 0, .int .i64 0, .int .i64 0, .int .i64 0] rfl (by simp only [List.append_assoc, List.cons_append, List.nil_append, List.append_nil]) rfl rfl rfl rfl (by simp only [List.append_assoc, List.cons_append, List.nil_append, List.append_nil]) (Fills.cons [.slice A56 l53.length c57] [.slice none 0 0] [.slice A65 z62.length c66] [.int .i64 0, .int .i64 0, .int .i64 0, .int .i64 0, .int .i64 0, .int .i64 0, .int .i64 0, .int .i64 0, .int .i64 0, .int .i64 0, .int .i64 0, .int .i64 0, .int .i64 0, .int .i64 0, .int .i64 0, .int .i64 0, .int .i64 0, .int .i64 0, .int .i64 0, .int .i64 0, .int .i64 0, .int .i64 0, .int .i64 0, .int .i64 0, .int .i64 0, .int .i64 0, .int .i64 0, .int .i64 0, .int .i64 0, .int .i64 0, .int .i64 0, .int .i64 0] [.slice A56 l53.length c57, .slice A65 z62.length c66, .int .i64 0, .int .i64 0, .int .i64 0, .int .i64 0, .int .i64 0, .int .i64 0, .int .i64 0, .int .i64 0, .int .i64 0, .int .i64 0, .int .i64 0, .int .i64 0, .int .i64 0, .int .i64 0, .int .i64 0, .int .i64 0, .int .i64 0, .int .i64 0, .int .i64 0, .int .i64 0, .int .i64 0, .int .i64 0, .int .i64 0, .int .i64 0, .int .i64 0, .int .i64 0, .int .i64 0, .int .i64 0, .int .i64 0, .int .i64 0, .int .i64 0, .int .i64 0] rfl (by simp only [List.append_assoc, List.cons_append, List.nil_append, List.append_nil]) rfl rfl rfl rfl (by simp only [List.append_assoc, List.cons_append, List.nil_append, List.append_nil]) (Fills.cons [.slice A56 l53.length c57, .slice A65 z62.length c66] [.int .i64 0, .int .i64 0, .int .i64 0, .int .i64 0, .int .i64 0, .int .i64 0, .int .i64 0, .int .i64 0, .int .i64 0, .int .i64 0, .int .i64 0, .int .i64 0, .int .i64 0, .int .i64 0, .int .i64 0, .int .i64 0] (rowC (Eint .i64) l_counts_1) [.int .i64 0, .int .i64 0, .int .i64 0, .int .i64 0, .int .i64 0, .int .i64 0, .int .i64 0, .int .i64 0, .int .i64 0, .int .i64 0, .int .i64 0, .int .i64 0, .int .i64 0, .int .i64 0, .int .i64 0, .int .i64 0] (([.slice A56 l53.length c57, .slice A65 z62.length c66] : List Value) ++ rowC (Eint .i64) l_counts_1 ++ ([.int .i64 0, .int .i64 0, .int .i64 0, .int .i64 0, .int .i64 0, .int .i64 0, .int .i64 0, .int .i64 0, .int .i64 0, .int .i64 0, .int .i64 0, .int .i64 0, .int .i64 0, .int .i64 0, .int .i64 0, .int .i64 0] : List Value)) rfl (by simp only [List.append_assoc, List.cons_append, List.nil_append, List.append_nil]) rfl rfl rfl (row_len g9) (by simp only [List.append_assoc, List.cons_append, List.nil_append, List.append_nil]) (Fills.cons (([.slice A56 l53.length c57, .slice A65 z62.length c66] : List Value) ++ rowC (Eint .i64) l_counts_1) [.int .i64 0, .int .i64 0, .int .i64 0, .int .i64 0, .int .i64 0, .int .i64 0, .int .i64 0, .int .i64 0, .int .i64 0, .int .i64 0, .int .i64 0, .int .i64 0, .int .i64 0, .int .i64 0, .int .i64 0, .int .i64 0] (rowC (Eint .i64) z14) [] (([.slice A56 l53.length c57, .slice A65 z62.length c66] : List Value) ++ rowC (Eint .i64) l_counts_1 ++ rowC (Eint .i64) z14) rfl (by simp only [List.append_assoc, List.cons_append, List.nil_append, List.append_nil]) (app_len rfl (row_len g9) rfl) rfl rfl (row_len g23) (by simp only [List.append_assoc, List.cons_append, List.nil_append, List.append_nil]) (Fills.nil _)))))) ?_
  refine H_end (by kernel_rfl) ?_
  have HS68 : Hp S0 w0 w [.rd A_lens_0 (rowC (Eint .i64) l_lens_0), .box g3 (rowC (Eint .i64) l_counts_1) 82, .box g7 (([.slice none 0 0, .slice none 0 0] : List Value) ++ rowC (Eint .i64) (List.replicate 16 (0 : Int)) ++ rowC (Eint .i64) (List.replicate 16 (0 : Int))) 91, .box g19 (rowC (Eint .i64) z14) 82, .own A56 c57 (rowC (Eint .i64) l53) 3 (Eint .i64).sz, .own A65 c66 (rowC (Eint .i64) z62) 3 (Eint .i64).sz] := (HS47.back [] (HS64.sel [4, 5] rfl) rfl).sel [0, 1, 2, 3, 4, 5] rfl
  refine T_one (i := 8) rfl (by kernel_rfl) ?_
  refine F_stSg 2 (([.slice A56 l53.length c57, .slice A65 z62.length c66] : List Value) ++ rowC (Eint .i64) l_counts_1 ++ rowC (Eint .i64) z14) [] (([.slice none 0 0, .slice none 0 0] : List Value) ++ rowC (Eint .i64) (List.replicate 16 (0 : Int)) ++ rowC (Eint .i64) (List.replicate 16 (0 : Int))) (([.slice A56 l53.length c57, .slice A65 z62.length c66] : List Value) ++ rowC (Eint .i64) l_counts_1 ++ rowC (Eint .i64) z14) [] rfl rfl rfl rfl rfl size91 HS68 rfl rfl (ones_app (ones_app (ones_lit rfl) ones_row) ones_row) (by simp only [List.append_assoc, List.cons_append, List.nil_append, List.append_nil]) (by simp only [List.append_assoc, List.cons_append, List.nil_append, List.append_nil]) rfl (app_len (app_len rfl (row_len List.length_replicate) rfl) (row_len List.length_replicate) rfl) (app_len (app_len rfl (row_len g9) rfl) (row_len g23) rfl) (fun w69 HS70 => ?_)
  have HS70 : Hp S0 w0 w69 [.rd A_lens_0 (rowC (Eint .i64) l_lens_0), .box g3 (rowC (Eint .i64) l_counts_1) 82, .box g7 (([.slice A56 l53.length c57, .slice A65 z62.length c66] : List Value) ++ rowC (Eint .i64) l_counts_1 ++ rowC (Eint .i64) z14) 91, .box g19 (rowC (Eint .i64) z14) 82, .own A56 c57 (rowC (Eint .i64) l53) 3 (Eint .i64).sz, .own A65 c66 (rowC (Eint .i64) z62) 3 (Eint .i64).sz] := HS70
  refine T_next ?_
  refine T_done (by kernel_rfl) ?_
  refine L_ret (fun a ha => (post_retc1 ha rfl rfl wide91 (HS70.cells_box (i := 2) rfl) (app_len (app_len rfl (row_len g9) rfl) (row_len g23) rfl) (by decide) ?_))
  obtain rfl := Option.some.inj H
  exact ⟨_, _, _, _, rfl, HS70.sel [4, 5] rfl⟩

/-! function 30: valise/code.NewEncoder -/
theorem code_NewEncoder.calls {S0 : Nat → Prop} {w0 : World} {A_lens_0 : Option Addr} {c_lens_0 : Nat} {l_lens_0 : List Int} {r : Option (List Int × List Int × List Int × List Int) × Int} (HS0 : Hp S0 w0 w0 [.rd A_lens_0 (rowC (Eint .i64) l_lens_0)]) (hc_lens_0 : l_lens_0.length ≤ c_lens_0) (h : code_NewEncoder.f l_lens_0 = some r) :
    Calls Try.prog 30 ([.slice A_lens_0 l_lens_0.length c_lens_0] : List Value).toArray w0 (fun e w => ∃ (g1 : Nat), ∃ (A1_0 : Option Addr), ∃ (c1_0 : Nat), ∃ (A1_1 : Option Addr), ∃ (c1_1 : Nat), e = .returned (.tuple #[oV r.1 g1, .int .i64 r.2]) ∧ Hp S0 w0 w [oR r.1 (fun x => .box g1 (([.slice A1_0 x.1.length c1_0, .slice A1_1 x.2.1.length c1_1] : List Value) ++ rowC (Eint .i64) x.2.2.1 ++ rowC (Eint .i64) x.2.2.2) 94), oR r.1 (fun x => .own A1_0 c1_0 (rowC (Eint .i64) x.1) 3 (Eint .i64).sz), oR r.1 (fun x => .own A1_1 c1_1 (rowC (Eint .i64) x.2.1) 3 (Eint .i64).sz)]) := by
  have H : (((code_count.f l_lens_0).bind fun (z5, z6) => gd (z5.length = 16) (if z6 ≠ 0 then (some (none, z6)) else ((code_shape.f z5).bind fun z19 => (code_refused.f z19).bind fun z25 => if z25 ≠ 0 then (some (none, z25)) else ((code_makeTable.f l_lens_0 z5).bind fun (z34, z35, z36, z37) => gd (z36.length = 16) (gd (z37.length = 16) (some (some (z34, z35, z36, z37), 0))))))) : Option (Option (List Int × List Int × List Int × List Int) × Int)) = some r := h
  refine calls_start Try.func30 rfl rfl ?_
  refine L_seq ?_
  refine L_region ?_
  refine F_val rfl rfl rfl (O_assign rfl rfl) ?_
  refine F_val rfl rfl rfl (O_assign rfl rfl) ?_
  refine F_nil ?_
  refine L_seq ?_
  refine L_region ?_
  refine F_val rfl rfl rfl (O_move rfl rfl) ?_
  obtain ⟨⟨z5, z6⟩, h4, H⟩ := of_bind H
  refine F_call (xs := [.tmp 7]) rfl rfl rfl rfl Try.func57 nm57 rfl rfl ((code_count.calls (HS0.give [] rfl (Lent.rd HS0 (Lent.nil) (i := 0) rfl ((HS0.cells_rd (i := 0) rfl).self))) hc_lens_0 h4).mono (fun e w hc => ?_))
  obtain ⟨rfl, HSo⟩ := hc
  refine ⟨.tuple #[.agg (rowC (Eint .i64) z5).toArray, .int .i64 z6], rfl, ?_⟩
  have HS8 : Hp S0 w0 w [.rd A_lens_0 (rowC (Eint .i64) l_lens_0)] := (HS0.back [] HSo rfl).sel [0] rfl
  refine F_val rfl rfl rfl (O_move rfl rfl) ?_
  refine F_val rfl rfl rfl (O_extract (v := .agg (rowC (Eint .i64) z5).toArray) rfl rfl rfl) ?_
  refine F_val rfl rfl rfl (O_extract (v := .int .i64 z6) rfl rfl rfl) ?_
  refine F_alloc (C := rowC (Eint .i64) (List.replicate 16 (0 : Int))) rfl rfl rfl rfl zero82 rfl HS8 (fun w9 g11 HS10 => ?_)
  have HS10 : Hp S0 w0 w9 [.rd A_lens_0 (rowC (Eint .i64) l_lens_0), .box g11 (rowC (Eint .i64) (List.replicate 16 (0 : Int))) 82] := HS10
  obtain ⟨g15, H⟩ := of_gd H
  refine F_stSg 1 (rowC (Eint .i64) z5) [] (rowC (Eint .i64) (List.replicate 16 (0 : Int))) (rowC (Eint .i64) z5) [] rfl rfl rfl rfl rfl size82 HS10 rfl rfl ones_row (by simp only [List.append_assoc, List.cons_append, List.nil_append, List.append_nil]) (by simp only [List.append_assoc, List.cons_append, List.nil_append, List.append_nil]) rfl (row_len List.length_replicate) (row_len g15) (fun w13 HS14 => ?_)
  have HS14 : Hp S0 w0 w13 [.rd A_lens_0 (rowC (Eint .i64) l_lens_0), .box g11 (rowC (Eint .i64) z5) 82] := HS14
  refine F_val rfl rfl rfl (O_assign rfl rfl) ?_
  refine F_nil ?_
  refine L_seq ?_
  refine L_seq ?_
  refine L_region ?_
  refine F_val rfl rfl rfl (O_move rfl rfl) ?_
  refine F_val rfl rfl rfl (O_ne rfl rfl rfl) ?_
  refine F_nil ?_
  refine L_condP rfl (fun c16 => ?_) (fun c16 => ?_)
  · have H := of_pos H c16
    refine L_seq ?_
    refine L_region ?_
    refine F_val rfl rfl rfl (O_move rfl rfl) ?_
    refine F_val rfl rfl rfl (O_assign rfl rfl) ?_
    refine F_val rfl rfl rfl (O_assign rfl rfl) ?_
    refine F_nil ?_
    refine L_ret (fun a ha => (post_ret2 ha rfl rfl rfl ?_))
    obtain rfl := Option.some.inj H
    exact ⟨0, none, 0, none, 0, rfl, HS14.sel [1000, 1001, 1002] rfl⟩
  · have H := of_neg H c16
    refine L_skip ?_
    refine L_seq ?_
    refine L_seq ?_
    refine L_region ?_
    refine F_val rfl rfl rfl (O_loadSg [] (rowC (Eint .i64) z5) [] rfl rfl wide82 (HS14.cells_box (i := 1) rfl) (by simp only [List.append_assoc, List.cons_append, List.nil_append, List.append_nil]) rfl (row_len g15) (by decide)) ?_
    obtain ⟨z19, h18, H⟩ := of_bind H
    refine F_qcall (v := .int .i64 z19) (xs := [.tmp 14]) rfl rfl rfl rfl Try.func58 nm58 rfl rfl ((code_shape.calls (HS14.give [] rfl (Lent.nil)) h18).mono (fun e w hc => ?_)) (fun w20 hw21 => ?_)
    · obtain ⟨rfl, h⟩ := hc
      exact ⟨rfl, h.chg0⟩
    have HS22 := HS14.keep hw21
    obtain ⟨z25, h24, H⟩ := of_bind H
    refine F_qcall (v := .int .i64 z25) (xs := [.tmp 15]) rfl rfl rfl rfl Try.func64 nm64 rfl rfl ((code_refused.calls (HS22.give [] rfl (Lent.nil)) h24).mono (fun e w hc => ?_)) (fun w26 hw27 => ?_)
    · obtain ⟨rfl, h⟩ := hc
      exact ⟨rfl, h.chg0⟩
    have HS28 := HS22.keep hw27
    refine F_val rfl rfl rfl (O_assign rfl rfl) ?_
    refine F_nil ?_
    refine L_seq ?_
    refine L_region ?_
    refine F_val rfl rfl rfl (O_move rfl rfl) ?_
    refine F_val rfl rfl rfl (O_ne rfl rfl rfl) ?_
    refine F_nil ?_
    refine L_condP rfl (fun c29 => ?_) (fun c29 => ?_)
    · have H := of_pos H c29
      refine L_seq ?_
      refine L_region ?_
      refine F_val rfl rfl rfl (O_move rfl rfl) ?_
      refine F_val rfl rfl rfl (O_assign rfl rfl) ?_
      refine F_val rfl rfl rfl (O_assign rfl rfl) ?_
      refine F_nil ?_
      refine L_ret (fun a ha => (post_ret2 ha rfl rfl rfl ?_))
      obtain rfl := Option.some.inj H
      exact ⟨0, none, 0, none, 0, rfl, HS28.sel [1000, 1001, 1002] rfl⟩
    · have H := of_neg H c29
      refine L_skip ?_
      refine L_seq ?_
      refine L_region ?_
      refine F_val rfl rfl rfl (O_move rfl rfl) ?_
      refine F_val rfl rfl rfl (O_loadSg [] (rowC (Eint .i64) z5) [] rfl rfl wide82 (HS28.cells_box (i := 1) rfl) (by simp only [List.append_assoc, List.cons_append, List.nil_append, List.append_nil]) rfl (row_len g15) (by decide)) ?_
      obtain ⟨⟨z34, z35, z36, z37⟩, h33, H⟩ := of_bind H
      refine F_call (xs := [.tmp 20, .tmp 21]) rfl rfl rfl rfl Try.func65 nm65 rfl rfl ((code_makeTable.calls (HS28.give [] rfl (Lent.rd HS28 (Lent.nil) (i := 0) rfl ((HS28.cells_rd (i := 0) rfl).self))) hc_lens_0 h33).mono (fun e w hc => ?_))
      obtain ⟨A40, c41, A43, c44, rfl, HSo⟩ := hc
      refine ⟨.agg (([.slice A40 z34.length c41, .slice A43 z35.length c44] : List Value) ++ rowC (Eint .i64) z36 ++ rowC (Eint .i64) z37).toArray, rfl, ?_⟩
      have HS39 : Hp S0 w0 w [.rd A_lens_0 (rowC (Eint .i64) l_lens_0), .box g11 (rowC (Eint .i64) z5) 82, .own A40 c41 (rowC (Eint .i64) z34) 3 (Eint .i64).sz, .own A43 c44 (rowC (Eint .i64) z35) 3 (Eint .i64).sz] := (HS28.back [] HSo rfl).sel [0, 1, 2, 3] rfl
      obtain ⟨g46, H⟩ := of_gd H
      obtain ⟨g47, H⟩ := of_gd H
      refine F_val rfl rfl rfl (O_buildS (C := ([.slice A40 z34.length c41, .slice A43 z35.length c44] : List Value) ++ rowC (Eint .i64) z36 ++ rowC (Eint .i64) z37) [(0, .agg (([.slice A40 z34.length c41, .slice A43 z35.length c44] : List Value) ++ rowC (Eint .i64) z36 ++ rowC (Eint .i64) z37).toArray)] rfl rfl rfl struct94 (Fills.cons [] [.slice none 0 0, .slice none 0 0, .int .i64 0, .int .i64 0, .int .i64 0, .int .i64 0, .int .i64 0, .int .i64 0, .int .i64 0, .int .i64 0, .int .i64 0, .int .i64 0, .int .i64 0, .int .i64 0, .int .i64 0, .int .i64 0, .int .i64 0, .int .i64 0, .int .i64 0, .int .i64 0, .int .i64 0, .int .i64 0, .int .i64 0, .int .i64 0, .int .i64 0, .int .i64 0, .int .i64 0, .int .i64 0, .int .i64 0, .int .i64 0, .int .i64 0, .int .i64 0, .int .i64 0, .int .i64 0] (([.slice A40 z34.length c41, .slice A43 z35.length c44] : List Value) ++ rowC (Eint .i64) z36 ++ rowC (Eint .i64) z37) [] (([.slice A40 z34.length c41, .slice A43 z35.length c44] : List Value) ++ rowC (Eint .i64) z36 ++ rowC (Eint .i64) z37) rfl (by simp only [List.append_assoc, List.cons_append, List.nil_append, List.append_nil]) rfl rfl rfl (app_len (app_len rfl (row_len g46) rfl) (row_len g47) rfl) (by simp only [List.append_assoc, List.cons_append, List.nil_append, List.append_nil]) (Fills.nil _))) ?_
      refine F_box (C := ([.slice A40 z34.length c41, .slice A43 z35.length c44] : List Value) ++ rowC (Eint .i64) z36 ++ rowC (Eint .i64) z37) rfl rfl rfl rfl rfl rfl HS39 (fun w48 g50 HS49 => ?_)
      have HS49 : Hp S0 w0 w48 [.rd A_lens_0 (rowC (Eint .i64) l_lens_0), .box g11 (rowC (Eint .i64) z5) 82, .own A40 c41 (rowC (Eint .i64) z34) 3 (Eint .i64).sz, .own A43 c44 (rowC (Eint .i64) z35) 3 (Eint .i64).sz, .box g50 (([.slice A40 z34.length c41, .slice A43 z35.length c44] : List Value) ++ rowC (Eint .i64) z36 ++ rowC (Eint .i64) z37) 94] := HS49
      refine F_val rfl rfl rfl (O_assign rfl rfl) ?_
      refine F_val rfl rfl rfl (O_assign rfl rfl) ?_
      refine F_nil ?_
      refine L_ret (fun a ha => (post_ret2 ha rfl rfl rfl ?_))
      obtain rfl := Option.some.inj H
      exact ⟨_, _, _, _, _, rfl, HS49.sel [4, 2, 3] rfl⟩

/-! function 59: valise/valiseref5.valid -/
theorem valiseref5_valid.calls {S0 : Nat → Prop} {w0 : World} {A_lens_0 : Option Addr} {c_lens_0 : Nat} {l_lens_0 : List Int} {r : Int} (HS0 : Hp S0 w0 w0 [.rd A_lens_0 (rowC (Eint .i64) l_lens_0)]) (hc_lens_0 : l_lens_0.length ≤ c_lens_0) (h : valiseref5_valid.f l_lens_0 = some r) :
    Calls Try.prog 59 ([.slice A_lens_0 l_lens_0.length c_lens_0] : List Value).toArray w0 (fun e w => e = .returned (.int .i64 r) ∧ Hp S0 w0 w []) := by
  have H : ((if 288 < (l_lens_0.length : Int) then (some 1) else ((valiseref5_valid.l1 FU 0 l_lens_0).bind fun (yj2 : Sum (Int) (Unit)) => onR yj2 (fun r => some r) fun () => some 0)) : Option (Int)) = some r := h
  refine calls_start Try.func59 rfl rfl ?_
  refine L_seq ?_
  refine L_region ?_
  refine F_val rfl rfl rfl (O_assign rfl rfl) ?_
  refine F_nil ?_
  refine L_seq ?_
  refine L_seq ?_
  refine L_region ?_
  refine F_val rfl rfl rfl (O_move rfl rfl) ?_
  refine F_val rfl rfl rfl (O_len rfl rfl Try.underlying22) ?_
  refine F_val rfl rfl rfl (O_gt rfl rfl rfl) ?_
  refine F_nil ?_
  refine L_condP rfl (fun c1 => ?_) (fun c1 => ?_)
  · have H := of_pos H c1
    refine L_seq ?_
    refine L_region ?_
    refine F_val rfl rfl rfl (O_assign rfl rfl) ?_
    refine F_nil ?_
    refine L_ret (fun a ha => (post_ret1 ha rfl rfl ?_))
    obtain rfl := Option.some.inj H
    exact ⟨rfl, HS0.sel [] rfl⟩
  · have H := of_neg H c1
    refine L_skip ?_
    refine L_seq ?_
    refine L_seq ?_
    refine L_region ?_
    refine F_val rfl rfl rfl (O_assign rfl rfl) ?_
    refine F_nil ?_
    obtain ⟨yj2, Hyj2, H⟩ := of_bind H
    refine L_join (fun a w => yj2 = Sum.inr () ∧ Is Try.f59.ntmps a [] ∧ Hp S0 w0 w [.rd A_lens_0 (rowC (Eint .i64) l_lens_0)]) (fun Qj2 hNj2 hOj2 => ?_) (fun a w hR => ?_)
    · have HOj2 := H
      have H := Hyj2
      refine L_blk (fun Qb42 hNb42 hXb42 hOb42 => ?_)
      refine L_lp (fun k a w => ∃ (i_67 : Int), Is Try.f59.ntmps a [(0, .slice A_lens_0 l_lens_0.length c_lens_0), (3, .int .i64 i_67)] ∧ Hp S0 w0 w [.rd A_lens_0 (rowC (Eint .i64) l_lens_0)] ∧ valiseref5_valid.l1 k i_67 l_lens_0 = some yj2) FU (fun a ha => ⟨_, Is.cons ha (Is.cons ha (Is.nil ha) rfl) rfl, HS0.sel [0] rfl, H⟩) (fun kp66 a w68 hI Qp66 hNp66 hOp66 => ?_)
      obtain ⟨i_67, ha, HS69, HAp66⟩ := hI
      cases kp66 with
      | zero => cases (show (none : Option _) = some _ from HAp66)
      | succ kp66 =>
        have H := (valiseref5_valid.l1.eq_2 ..).symm.trans HAp66
        refine wpLF_app ?_ ha
        refine L_seq ?_
        refine L_seq ?_
        refine L_region ?_
        refine F_val rfl rfl rfl (O_move rfl rfl) ?_
        refine F_val rfl rfl rfl (O_move rfl rfl) ?_
        refine F_val rfl rfl rfl (O_len rfl rfl Try.underlying22) ?_
        refine F_val rfl rfl rfl (O_lt rfl rfl rfl) ?_
        refine F_nil ?_
        refine L_condP rfl (fun c70 => ?_) (fun c70 => ?_)
        · have H := of_pos H c70
          refine L_skip ?_
          refine L_seq ?_
          refine L_blk (fun Q71 hN71 hX71 hO71 => ?_)
          refine L_seq ?_
          refine L_region ?_
          refine F_val rfl rfl rfl (O_move rfl rfl) ?_
          refine F_val rfl rfl rfl (O_move rfl rfl) ?_
          obtain ⟨⟨g72, g73⟩, H⟩ := of_gd H
          refine F_val rfl rfl rfl (O_idx rfl rfl rfl Try.underlying22 size3 g72 g73 (Cells.isA (HS69.cells_rd (i := 0) rfl) (rowC_ne (E := (Eint .i64)) g72 g73 (by decide)))) ?_
          refine F_val rfl rfl rfl (O_loadC rfl rfl flat3 (HS69.cells_rd (i := 0) rfl) (int_cell g72 g73)) ?_
          refine F_val rfl rfl rfl (O_lt rfl rfl rfl) ?_
          refine F_val rfl rfl rfl (O_move rfl rfl) ?_
          refine F_grp 6 [(24, .bool (decide ((rd l_lens_0 i_67 < 0) ∨ (15 < rd l_lens_0 i_67)))), (0, .slice A_lens_0 l_lens_0.length c_lens_0), (3, .int .i64 i_67)] ?_ ?_
          · rcases Decidable.em (rd l_lens_0 i_67 < 0) with c77 | c77
            · refine F_know (i := 18) rfl (dec_t c77) ?_
              refine F_gskip rfl rfl rfl rfl rfl rfl rfl ?_
              refine F_gskip rfl rfl rfl rfl rfl rfl rfl ?_
              refine F_gskip rfl rfl rfl rfl rfl rfl rfl ?_
              refine F_gskip rfl rfl rfl rfl rfl rfl rfl ?_
              refine F_gskip rfl rfl rfl rfl rfl rfl rfl ?_
              refine F_val rfl rfl rfl (O_pickT rfl rfl rfl) ?_
              refine F_know (i := 24) rfl (dec_or_t (q := 15 < rd l_lens_0 i_67) c77) ?_
              exact F_grpE (fun a ha => Is.cons ha (Is.cons ha (Is.cons ha (Is.nil ha) rfl) rfl) rfl)
            · refine F_know (i := 18) rfl (dec_f c77) ?_
              refine F_gval rfl rfl rfl rfl rfl rfl (O_move rfl rfl) ?_
              refine F_gval rfl rfl rfl rfl rfl rfl (O_move rfl rfl) ?_
              refine F_gval rfl rfl rfl rfl rfl rfl (O_idx rfl rfl rfl Try.underlying22 size3 g72 g73 (Cells.isA (HS69.cells_rd (i := 0) rfl) (rowC_ne (E := (Eint .i64)) g72 g73 (by decide)))) ?_
              refine F_gval rfl rfl rfl rfl rfl rfl (O_loadC rfl rfl flat3 (HS69.cells_rd (i := 0) rfl) (int_cell g72 g73)) ?_
              refine F_gval rfl rfl rfl rfl rfl rfl (O_gt rfl rfl rfl) ?_
              refine F_val rfl rfl rfl (O_pickF rfl rfl rfl) ?_
              refine F_know (i := 24) rfl (dec_or_f (q := 15 < rd l_lens_0 i_67) c77) ?_
              exact F_grpE (fun a ha => Is.cons ha (Is.cons ha (Is.cons ha (Is.nil ha) rfl) rfl) rfl)
          · skip
            refine F_nil ?_
            refine L_condP rfl (fun c78 => ?_) (fun c78 => ?_)
            · have H := of_pos H c78
              refine L_seq ?_
              refine L_region ?_
              refine F_val rfl rfl rfl (O_assign rfl rfl) ?_
              refine F_nil ?_
              refine L_ret (fun a ha => (hO71 .ret a _ rfl (hOp66 .ret a _ rfl (hOb42 .ret a _ rfl (hOj2 .ret a _ rfl (post_ret1 ha rfl rfl ?_))))))
              obtain rfl := Option.some.inj H
              obtain rfl := Option.some.inj (show (some 50 : Option (Int)) = some _ from HOj2)
              exact ⟨rfl, HS69.sel [] rfl⟩
            · have H := of_neg H c78
              refine L_skip ?_
              refine L_endB hN71 ?_
              refine L_region ?_
              refine F_val rfl rfl rfl (O_move rfl rfl) ?_
              refine F_val rfl rfl rfl (O_add rfl rfl rfl) ?_
              obtain ⟨x79, h80, H⟩ := of_bnd H
              refine F_val rfl rfl rfl (O_assign' rfl rfl (congrArg (Value.int .i64) h80)) ?_
              refine F_nil ?_
              refine L_nil (fun a ha => hNp66 _ a _ (Nat.lt_succ_self _) ⟨_, Is.cons ha (Is.cons ha (Is.nil ha) rfl) rfl, HS69.sel [0] rfl, H⟩)
        · have H := of_neg H c70
          refine L_exitB (fun a w h => hOp66 (.exit 0) a w rfl (hXb42 a w h)) ?_
          refine L_nil (fun a ha => hNj2 a _ ⟨(Option.some.inj H).symm, Is.nil ha, HS69.sel [0] rfl⟩)
    · obtain ⟨rfl, ha, HS82⟩ := hR
      refine wpLF_app ?_ ha
      have H := (onR_inr _ _ _).symm.trans H
      refine L_seq ?_
      refine L_region ?_
      refine F_val rfl rfl rfl (O_assign rfl rfl) ?_
      refine F_nil ?_
      refine L_ret (fun a ha => (post_ret1 ha rfl rfl ?_))
      obtain rfl := Option.some.inj H
      exact ⟨rfl, HS82.sel [] rfl⟩

/-! function 74: valise/valiseref5.rows -/
theorem valiseref5_rows.calls {S0 : Nat → Prop} {w0 : World} {l_0 : Int} {r : Int} (HS0 : Hp S0 w0 w0 []) (h : valiseref5_rows.f l_0 = some r) :
    Calls Try.prog 74 ([.int .i64 l_0] : List Value).toArray w0 (fun e w => e = .returned (.int .i64 r) ∧ Hp S0 w0 w []) := by
  have H : (((valiseref5_rows.l1 FU 1 l_0 ).bind fun n_28 => some n_28) : Option (Int)) = some r := h
  refine calls_start Try.func74 rfl rfl ?_
  refine L_seq ?_
  refine L_region ?_
  refine F_val rfl rfl rfl (O_assign rfl rfl) ?_
  refine F_nil ?_
  refine L_seq ?_
  refine L_region ?_
  refine F_val rfl rfl rfl (O_assign rfl rfl) ?_
  refine F_nil ?_
  refine L_seq ?_
  refine L_seq ?_
  refine L_region ?_
  refine F_val rfl rfl rfl (O_move rfl rfl) ?_
  refine F_val rfl rfl rfl (O_assign rfl rfl) ?_
  refine F_nil ?_
  obtain ⟨yj1, Hyj1, H⟩ := of_bind H
  refine L_join (fun a w => ∃ (n_28 : Int), yj1 = n_28 ∧ Is Try.f74.ntmps a [(3, .int .i64 n_28)] ∧ Hp S0 w0 w []) (fun Qj1 hNj1 hOj1 => ?_) (fun a w hR => ?_)
  · skip
    have H := Hyj1
    refine L_blk (fun Qb29 hNb29 hXb29 hOb29 => ?_)
    refine L_lp (fun k a w => ∃ (n_45 : Int), ∃ (i_46 : Int), Is Try.f74.ntmps a [(3, .int .i64 n_45), (4, .int .i64 i_46)] ∧ Hp S0 w0 w [] ∧ valiseref5_rows.l1 k n_45 i_46  = some yj1) FU (fun a ha => ⟨_, _, Is.cons ha (Is.cons ha (Is.nil ha) rfl) rfl, HS0.sel [] rfl, H⟩) (fun kp44 a w47 hI Qp44 hNp44 hOp44 => ?_)
    obtain ⟨n_45, i_46, ha, HS48, HAp44⟩ := hI
    cases kp44 with
    | zero => cases (show (none : Option _) = some _ from HAp44)
    | succ kp44 =>
      have H := (valiseref5_rows.l1.eq_2 ..).symm.trans HAp44
      refine wpLF_app ?_ ha
      refine L_seq ?_
      refine L_seq ?_
      refine L_region ?_
      refine F_val rfl rfl rfl (O_move rfl rfl) ?_
      refine F_val rfl rfl rfl (O_lt rfl rfl rfl) ?_
      refine F_nil ?_
      refine L_condP rfl (fun c49 => ?_) (fun c49 => ?_)
      · have H := of_pos H c49
        refine L_skip ?_
        refine L_seq ?_
        refine L_blk (fun Q50 hN50 hX50 hO50 => ?_)
        refine L_region ?_
        refine F_val rfl rfl rfl (O_move rfl rfl) ?_
        refine F_val rfl rfl rfl (O_mul rfl rfl rfl) ?_
        obtain ⟨x51, h52, H⟩ := of_bnd H
        refine F_val rfl rfl rfl (O_assign' rfl rfl (congrArg (Value.int .i64) h52)) ?_
        refine F_nil ?_
        refine L_endB hN50 ?_
        refine L_region ?_
        refine F_val rfl rfl rfl (O_move rfl rfl) ?_
        refine F_val rfl rfl rfl (O_add rfl rfl rfl) ?_
        obtain ⟨x53, h54, H⟩ := of_bnd H
        refine F_val rfl rfl rfl (O_assign' rfl rfl (congrArg (Value.int .i64) h54)) ?_
        refine F_nil ?_
        refine L_nil (fun a ha => hNp44 _ a _ (Nat.lt_succ_self _) ⟨_, _, Is.cons ha (Is.cons ha (Is.nil ha) rfl) rfl, HS48.sel [] rfl, H⟩)
      · have H := of_neg H c49
        refine L_exitB (fun a w h => hOp44 (.exit 0) a w rfl (hXb29 a w h)) ?_
        refine L_nil (fun a ha => hNj1 a _ ⟨_, (Option.some.inj H).symm, Is.cons ha (Is.nil ha) rfl, HS48.sel [] rfl⟩)
  · obtain ⟨n_28, ej, ha, HS56⟩ := hR
    obtain rfl := ej.symm
    refine wpLF_app ?_ ha
    refine L_seq ?_
    refine L_region ?_
    refine F_val rfl rfl rfl (O_move rfl rfl) ?_
    refine F_val rfl rfl rfl (O_assign rfl rfl) ?_
    refine F_nil ?_
    refine L_ret (fun a ha => (post_ret1 ha rfl rfl ?_))
    obtain rfl := Option.some.inj H
    exact ⟨rfl, HS56.sel [] rfl⟩

/-! function 60: valise/valiseref5.used -/
theorem valiseref5_used.calls {S0 : Nat → Prop} {w0 : World} {A_lens_0 : Option Addr} {c_lens_0 : Nat} {l_lens_0 : List Int} {r : Int × Int} (HS0 : Hp S0 w0 w0 [.rd A_lens_0 (rowC (Eint .i64) l_lens_0)]) (hc_lens_0 : l_lens_0.length ≤ c_lens_0) (h : valiseref5_used.f l_lens_0 = some r) :
    Calls Try.prog 60 ([.slice A_lens_0 l_lens_0.length c_lens_0] : List Value).toArray w0 (fun e w => e = .returned (.tuple #[.int .i64 r.1, .int .i64 r.2]) ∧ Hp S0 w0 w []) := by
  have H : (((valiseref5_used.l1 FU 0 0 0 l_lens_0).bind fun (sum_111, n_112) => some (sum_111, n_112)) : Option (Int × Int)) = some r := h
  refine calls_start Try.func60 rfl rfl ?_
  refine L_seq ?_
  refine L_region ?_
  refine F_val rfl rfl rfl (O_assign rfl rfl) ?_
  refine F_val rfl rfl rfl (O_assign rfl rfl) ?_
  refine F_nil ?_
  refine L_seq ?_
  refine L_region ?_
  refine F_val rfl rfl rfl (O_assign rfl rfl) ?_
  refine F_nil ?_
  refine L_seq ?_
  refine L_region ?_
  refine F_val rfl rfl rfl (O_assign rfl rfl) ?_
  refine F_nil ?_
  refine L_seq ?_
  refine L_seq ?_
  refine L_region ?_
  refine F_val rfl rfl rfl (O_assign rfl rfl) ?_
  refine F_nil ?_
  obtain ⟨yj1, Hyj1, H⟩ := of_bind H
  refine L_join (fun a w => ∃ (sum_111 : Int), ∃ (n_112 : Int), yj1 = (sum_111, n_112) ∧ Is Try.f60.ntmps a [(4, .int .i64 sum_111), (5, .int .i64 n_112)] ∧ Hp S0 w0 w [.rd A_lens_0 (rowC (Eint .i64) l_lens_0)]) (fun Qj1 hNj1 hOj1 => ?_) (fun a w hR => ?_)
  · skip
    have H := Hyj1
    refine L_blk (fun Qb113 hNb113 hXb113 hOb113 => ?_)
    refine L_lp (fun k a w => ∃ (sum_184 : Int), ∃ (n_185 : Int), ∃ (i_186 : Int), Is Try.f60.ntmps a [(0, .slice A_lens_0 l_lens_0.length c_lens_0), (4, .int .i64 sum_184), (5, .int .i64 n_185), (6, .int .i64 i_186)] ∧ Hp S0 w0 w [.rd A_lens_0 (rowC (Eint .i64) l_lens_0)] ∧ valiseref5_used.l1 k sum_184 n_185 i_186 l_lens_0 = some yj1) FU (fun a ha => ⟨_, _, _, Is.cons ha (Is.cons ha (Is.cons ha (Is.cons ha (Is.nil ha) rfl) rfl) rfl) rfl, HS0.sel [0] rfl, H⟩) (fun kp183 a w187 hI Qp183 hNp183 hOp183 => ?_)
    obtain ⟨sum_184, n_185, i_186, ha, HS188, HAp183⟩ := hI
    cases kp183 with
    | zero => cases (show (none : Option _) = some _ from HAp183)
    | succ kp183 =>
      have H := (valiseref5_used.l1.eq_2 ..).symm.trans HAp183
      refine wpLF_app ?_ ha
      refine L_seq ?_
      refine L_seq ?_
      refine L_region ?_
      refine F_val rfl rfl rfl (O_move rfl rfl) ?_
      refine F_val rfl rfl rfl (O_move rfl rfl) ?_
      refine F_val rfl rfl rfl (O_len rfl rfl Try.underlying22) ?_
      refine F_val rfl rfl rfl (O_lt rfl rfl rfl) ?_
      refine F_nil ?_
      refine L_condP rfl (fun c189 => ?_) (fun c189 => ?_)
      · have H := of_pos H c189
        refine L_skip ?_
        refine L_seq ?_
        refine L_blk (fun Q190 hN190 hX190 hO190 => ?_)
        refine L_seq ?_
        refine L_region ?_
        refine F_val rfl rfl rfl (O_move rfl rfl) ?_
        refine F_val rfl rfl rfl (O_move rfl rfl) ?_
        obtain ⟨⟨g191, g192⟩, H⟩ := of_gd H
        refine F_val rfl rfl rfl (O_idx rfl rfl rfl Try.underlying22 size3 g191 g192 (Cells.isA (HS188.cells_rd (i := 0) rfl) (rowC_ne (E := (Eint .i64)) g191 g192 (by decide)))) ?_
        refine F_val rfl rfl rfl (O_loadC rfl rfl flat3 (HS188.cells_rd (i := 0) rfl) (int_cell g191 g192)) ?_
        refine F_val rfl rfl rfl (O_gt rfl rfl rfl) ?_
        refine F_nil ?_
        obtain ⟨yj193, Hyj193, H⟩ := of_bind H
        refine L_join (fun a w => ∃ (sum_205 : Int), ∃ (n_206 : Int), yj193 = (sum_205, n_206) ∧ Is Try.f60.ntmps a [(0, .slice A_lens_0 l_lens_0.length c_lens_0), (4, .int .i64 sum_205), (5, .int .i64 n_206), (6, .int .i64 i_186)] ∧ Hp S0 w0 w [.rd A_lens_0 (rowC (Eint .i64) l_lens_0)]) (fun Qj193 hNj193 hOj193 => ?_) (fun a w hR => ?_)
        · skip
          have H := Hyj193
          refine L_condP rfl (fun c207 => ?_) (fun c207 => ?_)
          · have H := of_pos H c207
            refine L_seq ?_
            refine L_region ?_
            refine F_val rfl rfl rfl (O_move rfl rfl) ?_
            refine F_val rfl rfl rfl (O_move rfl rfl) ?_
            refine F_val rfl rfl rfl (O_move rfl rfl) ?_
            refine F_val rfl rfl rfl (O_idx rfl rfl rfl Try.underlying22 size3 g191 g192 (Cells.isA (HS188.cells_rd (i := 0) rfl) (rowC_ne (E := (Eint .i64)) g191 g192 (by decide)))) ?_
            refine F_val rfl rfl rfl (O_loadC rfl rfl flat3 (HS188.cells_rd (i := 0) rfl) (int_cell g191 g192)) ?_
            obtain ⟨z210, h209, H⟩ := of_bind H
            refine F_qcall (v := .int .i64 z210) (xs := [.tmp 22]) rfl rfl rfl rfl Try.func74 nm74 rfl rfl ((valiseref5_rows.calls (HS188.give [] rfl (Lent.nil)) h209).mono (fun e w hc => ?_)) (fun w211 hw212 => ?_)
            · obtain ⟨rfl, h⟩ := hc
              exact ⟨rfl, h.chg0⟩
            have HS213 := HS188.keep hw212
            refine F_val rfl rfl rfl (O_add rfl rfl rfl) ?_
            obtain ⟨x214, h215, H⟩ := of_bnd H
            refine F_val rfl rfl rfl (O_assign' rfl rfl (congrArg (Value.int .i64) h215)) ?_
            refine F_nil ?_
            refine L_region ?_
            refine F_val rfl rfl rfl (O_move rfl rfl) ?_
            refine F_val rfl rfl rfl (O_add rfl rfl rfl) ?_
            obtain ⟨x216, h217, H⟩ := of_bnd H
            refine F_val rfl rfl rfl (O_assign' rfl rfl (congrArg (Value.int .i64) h217)) ?_
            refine F_nil ?_
            refine L_nil (fun a ha => hNj193 a _ ⟨_, _, (Option.some.inj H).symm, Is.cons ha (Is.cons ha (Is.cons ha (Is.cons ha (Is.nil ha) rfl) rfl) rfl) rfl, HS213.sel [0] rfl⟩)
          · have H := of_neg H c207
            refine L_skip ?_
            refine L_nil (fun a ha => hNj193 a _ ⟨_, _, (Option.some.inj H).symm, Is.cons ha (Is.cons ha (Is.cons ha (Is.cons ha (Is.nil ha) rfl) rfl) rfl) rfl, HS188.sel [0] rfl⟩)
        · obtain ⟨sum_205, n_206, rfl, ha, HS219⟩ := hR
          refine wpLF_app ?_ ha
          refine L_endB hN190 ?_
          refine L_region ?_
          refine F_val rfl rfl rfl (O_move rfl rfl) ?_
          refine F_val rfl rfl rfl (O_add rfl rfl rfl) ?_
          obtain ⟨x220, h221, H⟩ := of_bnd H
          refine F_val rfl rfl rfl (O_assign' rfl rfl (congrArg (Value.int .i64) h221)) ?_
          refine F_nil ?_
          refine L_nil (fun a ha => hNp183 _ a _ (Nat.lt_succ_self _) ⟨_, _, _, Is.cons ha (Is.cons ha (Is.cons ha (Is.cons ha (Is.nil ha) rfl) rfl) rfl) rfl, HS219.sel [0] rfl, H⟩)
      · have H := of_neg H c189
        refine L_exitB (fun a w h => hOp183 (.exit 0) a w rfl (hXb113 a w h)) ?_
        refine L_nil (fun a ha => hNj1 a _ ⟨_, _, (Option.some.inj H).symm, Is.cons ha (Is.cons ha (Is.nil ha) rfl) rfl, HS188.sel [0] rfl⟩)
  · obtain ⟨sum_111, n_112, rfl, ha, HS223⟩ := hR
    refine wpLF_app ?_ ha
    refine L_seq ?_
    refine L_region ?_
    refine F_val rfl rfl rfl (O_move rfl rfl) ?_
    refine F_val rfl rfl rfl (O_move rfl rfl) ?_
    refine F_val rfl rfl rfl (O_assign rfl rfl) ?_
    refine F_val rfl rfl rfl (O_assign rfl rfl) ?_
    refine F_nil ?_
    refine L_ret (fun a ha => (post_ret2 ha rfl rfl rfl ?_))
    obtain rfl := Option.some.inj H
    exact ⟨rfl, HS223.sel [] rfl⟩

/-! function 22: valise/valiseref5.Check -/
theorem valiseref5_Check.calls {S0 : Nat → Prop} {w0 : World} {A_lens_0 : Option Addr} {c_lens_0 : Nat} {l_lens_0 : List Int} {r : Int × Int} (HS0 : Hp S0 w0 w0 [.rd A_lens_0 (rowC (Eint .i64) l_lens_0)]) (hc_lens_0 : l_lens_0.length ≤ c_lens_0) (h : valiseref5_Check.f l_lens_0 = some r) :
    Calls Try.prog 22 ([.slice A_lens_0 l_lens_0.length c_lens_0] : List Value).toArray w0 (fun e w => e = .returned (.tuple #[.int .i64 r.1, .int .i64 r.2]) ∧ Hp S0 w0 w []) := by
  have H : (((valiseref5_valid.f l_lens_0).bind fun z3 => if z3 ≠ 0 then (some (0, z3)) else ((valiseref5_used.f l_lens_0).bind fun (z10, z11) => if z11 = 0 then (some (0, 0)) else (if (z11 = 1) ∧ (z10 = 16384) then (some (1, 0)) else (if 32768 < z10 then (some (3, 0)) else (if z10 = 32768 then (some (4, 0)) else (some (2, 0))))))) : Option (Int × Int)) = some r := h
  refine calls_start Try.func22 rfl rfl ?_
  refine L_seq ?_
  refine L_region ?_
  refine F_val rfl rfl rfl (O_assign rfl rfl) ?_
  refine F_val rfl rfl rfl (O_assign rfl rfl) ?_
  refine F_nil ?_
  refine L_seq ?_
  refine L_region ?_
  refine F_val rfl rfl rfl (O_move rfl rfl) ?_
  obtain ⟨z3, h2, H⟩ := of_bind H
  refine F_qcall (v := .int .i64 z3) (xs := [.tmp 7]) rfl rfl rfl rfl Try.func59 nm59 rfl rfl ((valiseref5_valid.calls (HS0.give [] rfl (Lent.rd HS0 (Lent.nil) (i := 0) rfl ((HS0.cells_rd (i := 0) rfl).self))) hc_lens_0 h2).mono (fun e w hc => ?_)) (fun w4 hw5 => ?_)
  · obtain ⟨rfl, h⟩ := hc
    exact ⟨rfl, h.chg0⟩
  have HS6 := HS0.keep hw5
  refine F_val rfl rfl rfl (O_assign rfl rfl) ?_
  refine F_nil ?_
  refine L_seq ?_
  refine L_seq ?_
  refine L_region ?_
  refine F_val rfl rfl rfl (O_move rfl rfl) ?_
  refine F_val rfl rfl rfl (O_ne rfl rfl rfl) ?_
  refine F_nil ?_
  refine L_condP rfl (fun c7 => ?_) (fun c7 => ?_)
  · have H := of_pos H c7
    refine L_seq ?_
    refine L_region ?_
    refine F_val rfl rfl rfl (O_move rfl rfl) ?_
    refine F_val rfl rfl rfl (O_assign rfl rfl) ?_
    refine F_val rfl rfl rfl (O_assign rfl rfl) ?_
    refine F_nil ?_
    refine L_ret (fun a ha => (post_ret2 ha rfl rfl rfl ?_))
    obtain rfl := Option.some.inj H
    exact ⟨rfl, HS6.sel [] rfl⟩
  · have H := of_neg H c7
    refine L_skip ?_
    refine L_seq ?_
    refine L_region ?_
    refine F_val rfl rfl rfl (O_move rfl rfl) ?_
    obtain ⟨⟨z10, z11⟩, h9, H⟩ := of_bind H
    refine F_qcall (v := .tuple #[.int .i64 z10, .int .i64 z11]) (xs := [.tmp 13]) rfl rfl rfl rfl Try.func60 nm60 rfl rfl ((valiseref5_used.calls (HS6.give [] rfl (Lent.rd HS6 (Lent.nil) (i := 0) rfl ((HS6.cells_rd (i := 0) rfl).self))) hc_lens_0 h9).mono (fun e w hc => ?_)) (fun w12 hw13 => ?_)
    · obtain ⟨rfl, h⟩ := hc
      exact ⟨rfl, h.chg0⟩
    have HS14 := HS6.keep hw13
    refine F_val rfl rfl rfl (O_move rfl rfl) ?_
    refine F_val rfl rfl rfl (O_extract (v := .int .i64 z10) rfl rfl rfl) ?_
    refine F_val rfl rfl rfl (O_extract (v := .int .i64 z11) rfl rfl rfl) ?_
    refine F_val rfl rfl rfl (O_assign rfl rfl) ?_
    refine F_val rfl rfl rfl (O_assign rfl rfl) ?_
    refine F_nil ?_
    refine L_seq ?_
    refine L_blk (fun Q15 hN15 hX15 hO15 => ?_)
    refine L_seq ?_
    refine L_region ?_
    refine F_val rfl rfl rfl (O_move rfl rfl) ?_
    refine F_val rfl rfl rfl (O_eq rfl rfl rfl) ?_
    refine F_val rfl rfl rfl (O_assign rfl rfl) ?_
    refine F_nil ?_
    refine L_condP rfl (fun c16 => ?_) (fun c16 => ?_)
    · have H := of_pos H c16
      refine L_seq ?_
      refine L_region ?_
      refine F_val rfl rfl rfl (O_assign rfl rfl) ?_
      refine F_val rfl rfl rfl (O_assign rfl rfl) ?_
      refine F_nil ?_
      refine L_ret (fun a ha => (hO15 .ret a _ rfl (post_ret2 ha rfl rfl rfl ?_)))
      obtain rfl := Option.some.inj H
      exact ⟨rfl, HS14.sel [] rfl⟩
    · have H := of_neg H c16
      refine L_seq ?_
      refine L_region ?_
      refine F_val rfl rfl rfl (O_move rfl rfl) ?_
      refine F_val rfl rfl rfl (O_eq rfl rfl rfl) ?_
      refine F_val rfl rfl rfl (O_move rfl rfl) ?_
      refine F_grp 3 [(26, .bool (decide ((z11 = 1) ∧ (z10 = 16384)))), (5, .int .i64 z10)] ?_ ?_
      · rcases Decidable.em (z11 = 1) with c20 | c20
        · refine F_know (i := 23) rfl (dec_t c20) ?_
          refine F_gval rfl rfl rfl rfl rfl rfl (O_move rfl rfl) ?_
          refine F_gval rfl rfl rfl rfl rfl rfl (O_eq rfl rfl rfl) ?_
          refine F_val rfl rfl rfl (O_pickT rfl rfl rfl) ?_
          refine F_know (i := 26) rfl (dec_and_t (q := z10 = 16384) c20) ?_
          exact F_grpE (fun a ha => Is.cons ha (Is.cons ha (Is.nil ha) rfl) rfl)
        · refine F_know (i := 23) rfl (dec_f c20) ?_
          refine F_gskip rfl rfl rfl rfl rfl rfl rfl ?_
          refine F_gskip rfl rfl rfl rfl rfl rfl rfl ?_
          refine F_val rfl rfl rfl (O_pickF rfl rfl rfl) ?_
          refine F_know (i := 26) rfl (dec_and_f (q := z10 = 16384) c20) ?_
          exact F_grpE (fun a ha => Is.cons ha (Is.cons ha (Is.nil ha) rfl) rfl)
      · skip
        refine F_val rfl rfl rfl (O_assign rfl rfl) ?_
        refine F_nil ?_
        refine L_condP rfl (fun c21 => ?_) (fun c21 => ?_)
        · have H := of_pos H c21
          refine L_seq ?_
          refine L_region ?_
          refine F_val rfl rfl rfl (O_assign rfl rfl) ?_
          refine F_val rfl rfl rfl (O_assign rfl rfl) ?_
          refine F_nil ?_
          refine L_ret (fun a ha => (hO15 .ret a _ rfl (post_ret2 ha rfl rfl rfl ?_)))
          obtain rfl := Option.some.inj H
          exact ⟨rfl, HS14.sel [] rfl⟩
        · have H := of_neg H c21
          refine L_seq ?_
          refine L_region ?_
          refine F_val rfl rfl rfl (O_move rfl rfl) ?_
          refine F_val rfl rfl rfl (O_gt rfl rfl rfl) ?_
          refine F_val rfl rfl rfl (O_assign rfl rfl) ?_
          refine F_nil ?_
          refine L_condP rfl (fun c22 => ?_) (fun c22 => ?_)
          · have H := of_pos H c22
            refine L_seq ?_
            refine L_region ?_
            refine F_val rfl rfl rfl (O_assign rfl rfl) ?_
            refine F_val rfl rfl rfl (O_assign rfl rfl) ?_
            refine F_nil ?_
            refine L_ret (fun a ha => (hO15 .ret a _ rfl (post_ret2 ha rfl rfl rfl ?_)))
            obtain rfl := Option.some.inj H
            exact ⟨rfl, HS14.sel [] rfl⟩
          · have H := of_neg H c22
            refine L_seq ?_
            refine L_region ?_
            refine F_val rfl rfl rfl (O_move rfl rfl) ?_
            refine F_val rfl rfl rfl (O_eq rfl rfl rfl) ?_
            refine F_val rfl rfl rfl (O_assign rfl rfl) ?_
            refine F_nil ?_
            refine L_condP rfl (fun c23 => ?_) (fun c23 => ?_)
            · have H := of_pos H c23
              refine L_seq ?_
              refine L_region ?_
              refine F_val rfl rfl rfl (O_assign rfl rfl) ?_
              refine F_val rfl rfl rfl (O_assign rfl rfl) ?_
              refine F_nil ?_
              refine L_ret (fun a ha => (hO15 .ret a _ rfl (post_ret2 ha rfl rfl rfl ?_)))
              obtain rfl := Option.some.inj H
              exact ⟨rfl, HS14.sel [] rfl⟩
            · have H := of_neg H c23
              refine L_skip ?_
              refine L_endB hN15 ?_
              refine L_seq ?_
              refine L_region ?_
              refine F_val rfl rfl rfl (O_assign rfl rfl) ?_
              refine F_val rfl rfl rfl (O_assign rfl rfl) ?_
              refine F_nil ?_
              refine L_ret (fun a ha => (post_ret2 ha rfl rfl rfl ?_))
              obtain rfl := Option.some.inj H
              exact ⟨rfl, HS14.sel [] rfl⟩

/-! function 26: valise/valiseref5.Codes -/
theorem valiseref5_Codes.calls {S0 : Nat → Prop} {w0 : World} {A_lens_0 : Option Addr} {c_lens_0 : Nat} {l_lens_0 : List Int} {r : List Int × Int} (HS0 : Hp S0 w0 w0 [.rd A_lens_0 (rowC (Eint .i64) l_lens_0)]) (hc_lens_0 : l_lens_0.length ≤ c_lens_0) (h : valiseref5_Codes.f l_lens_0 = some r) :
    Calls Try.prog 26 ([.slice A_lens_0 l_lens_0.length c_lens_0] : List Value).toArray w0 (fun e w => ∃ (A1 : Option Addr), ∃ (c1 : Nat), e = .returned (.tuple #[.slice A1 r.1.length c1, .int .i64 r.2]) ∧ Hp S0 w0 w [.own A1 c1 (rowC (Eint .i64) r.1) 3 (Eint .i64).sz]) := by
  have H : (((valiseref5_Check.f l_lens_0).bind fun (z3, z4) => if z4 ≠ 0 then (some (([] : List Int), z4)) else (if z3 = 3 then (some (([] : List Int), 51)) else (gd ((0 : Int) ≤ (l_lens_0.length : Int) ∧ (l_lens_0.length : Int) * 8 ≤ 281474976710656) (bnd (List.replicate ((l_lens_0.length : Int) : Int).toNat (0 : Int)) fun l18 => (valiseref5_Codes.l11 FU l18 0 1 l_lens_0).bind fun l684 => some (l684, 0))))) : Option (List Int × Int)) = some r := h
  refine calls_start Try.func26 rfl rfl ?_
  refine L_seq ?_
  refine L_region ?_
  refine F_val rfl rfl rfl (O_assign rfl rfl) ?_
  refine F_val rfl rfl rfl (O_assign rfl rfl) ?_
  refine F_nil ?_
  refine L_seq ?_
  refine L_region ?_
  refine F_val rfl rfl rfl (O_move rfl rfl) ?_
  obtain ⟨⟨z3, z4⟩, h2, H⟩ := of_bind H
  refine F_qcall (v := .tuple #[.int .i64 z3, .int .i64 z4]) (xs := [.tmp 11]) rfl rfl rfl rfl Try.func22 nm22 rfl rfl ((valiseref5_Check.calls (HS0.give [] rfl (Lent.rd HS0 (Lent.nil) (i := 0) rfl ((HS0.cells_rd (i := 0) rfl).self))) hc_lens_0 h2).mono (fun e w hc => ?_)) (fun w5 hw6 => ?_)
  · obtain ⟨rfl, h⟩ := hc
    exact ⟨rfl, h.chg0⟩
  have HS7 := HS0.keep hw6
  refine F_val rfl rfl rfl (O_move rfl rfl) ?_
  refine F_val rfl rfl rfl (O_extract (v := .int .i64 z3) rfl rfl rfl) ?_
  refine F_val rfl rfl rfl (O_extract (v := .int .i64 z4) rfl rfl rfl) ?_
  refine F_val rfl rfl rfl (O_assign rfl rfl) ?_
  refine F_val rfl rfl rfl (O_assign rfl rfl) ?_
  refine F_nil ?_
  refine L_seq ?_
  refine L_seq ?_
  refine L_region ?_
  refine F_val rfl rfl rfl (O_move rfl rfl) ?_
  refine F_val rfl rfl rfl (O_ne rfl rfl rfl) ?_
  refine F_nil ?_
  refine L_condP rfl (fun c8 => ?_) (fun c8 => ?_)
  · have H := of_pos H c8
    refine L_seq ?_
    refine L_region ?_
    refine F_val rfl rfl rfl (O_move rfl rfl) ?_
    refine F_val rfl rfl rfl (O_assign rfl rfl) ?_
    refine F_val rfl rfl rfl (O_assign rfl rfl) ?_
    refine F_nil ?_
    have HS9 := HS7.addNil 3 (Eint .i64).sz
    refine L_ret (fun a ha => (post_ret2 ha rfl rfl rfl ?_))
    obtain rfl := Option.some.inj H
    exact ⟨_, _, rfl, HS9.sel [1] rfl⟩
  · have H := of_neg H c8
    refine L_skip ?_
    refine L_seq ?_
    refine L_seq ?_
    refine L_region ?_
    refine F_val rfl rfl rfl (O_move rfl rfl) ?_
    refine F_val rfl rfl rfl (O_eq rfl rfl rfl) ?_
    refine F_nil ?_
    refine L_condP rfl (fun c11 => ?_) (fun c11 => ?_)
    · have H := of_pos H c11
      refine L_seq ?_
      refine L_region ?_
      refine F_val rfl rfl rfl (O_assign rfl rfl) ?_
      refine F_val rfl rfl rfl (O_assign rfl rfl) ?_
      refine F_nil ?_
      have HS12 := HS7.addNil 3 (Eint .i64).sz
      refine L_ret (fun a ha => (post_ret2 ha rfl rfl rfl ?_))
      obtain rfl := Option.some.inj H
      exact ⟨_, _, rfl, HS12.sel [1] rfl⟩
    · have H := of_neg H c11
      refine L_skip ?_
      refine L_seq ?_
      refine L_region ?_
      refine F_val rfl rfl rfl (O_move rfl rfl) ?_
      refine F_val rfl rfl rfl (O_len rfl rfl Try.underlying22) ?_
      obtain ⟨⟨g16, g17⟩, H⟩ := of_gd H
      obtain ⟨l18, h19, H⟩ := of_bnd H
      refine F_makeE (E := (Eint .i64)) rfl rfl rfl rfl rfl rfl Try.underlying22 info3 rfl (by decide) (by decide) g16 g17 HS7 h19 (fun w14 A20 c21 HS15 => ?_)
      have HS15 : Hp S0 w0 w14 [.rd A_lens_0 (rowC (Eint .i64) l_lens_0), .own A20 c21 (rowC (Eint .i64) l18) 3 (Eint .i64).sz] := HS15
      refine F_val rfl rfl rfl (O_assign rfl rfl) ?_
      refine F_nil ?_
      refine L_seq ?_
      refine L_region ?_
      refine F_val rfl rfl rfl (O_assign rfl rfl) ?_
      refine F_nil ?_
      refine L_seq ?_
      refine L_seq ?_
      refine L_region ?_
      refine F_val rfl rfl rfl (O_assign rfl rfl) ?_
      refine F_nil ?_
      obtain ⟨yj23, Hyj23, H⟩ := of_bind H
      refine L_join (fun a w => ∃ (l684 : List Int), yj23 = l684 ∧ Is Try.f26.ntmps a [(6, .slice A20 l684.length c21)] ∧ Hp S0 w0 w [.rd A_lens_0 (rowC (Eint .i64) l_lens_0), .own A20 c21 (rowC (Eint .i64) l684) 3 (Eint .i64).sz]) (fun Qj23 hNj23 hOj23 => ?_) (fun a w hR => ?_)
      · skip
        have H := Hyj23
        refine L_blk (fun Qb685 hNb685 hXb685 hOb685 => ?_)
        refine L_lp (fun k a w => ∃ (l1123 : List Int), ∃ (next_1124 : Int), ∃ (l_1125 : Int), Is Try.f26.ntmps a [(0, .slice A_lens_0 l_lens_0.length c_lens_0), (6, .slice A20 l1123.length c21), (7, .int .i64 next_1124), (8, .int .i64 l_1125)] ∧ Hp S0 w0 w [.rd A_lens_0 (rowC (Eint .i64) l_lens_0), .own A20 c21 (rowC (Eint .i64) l1123) 3 (Eint .i64).sz] ∧ valiseref5_Codes.l11 k l1123 next_1124 l_1125 l_lens_0 = some yj23) FU (fun a ha => ⟨_, _, _, Is.cons ha (Is.cons ha (Is.cons ha (Is.cons ha (Is.nil ha) rfl) rfl) rfl) rfl, HS15.sel [0, 1] rfl, H⟩) (fun kp1122 a w1126 hI Qp1122 hNp1122 hOp1122 => ?_)
        obtain ⟨l1123, next_1124, l_1125, ha, HS1127, HAp1122⟩ := hI
        cases kp1122 with
        | zero => cases (show (none : Option _) = some _ from HAp1122)
        | succ kp1122 =>
          have H := (valiseref5_Codes.l11.eq_2 ..).symm.trans HAp1122
          refine wpLF_app ?_ ha
          refine L_seq ?_
          refine L_seq ?_
          refine L_region ?_
          refine F_val rfl rfl rfl (O_move rfl rfl) ?_
          refine F_val rfl rfl rfl (O_le rfl rfl rfl) ?_
          refine F_nil ?_
          refine L_condP rfl (fun c1128 => ?_) (fun c1128 => ?_)
          · have H := of_pos H c1128
            refine L_skip ?_
            refine L_seq ?_
            refine L_blk (fun Q1129 hN1129 hX1129 hO1129 => ?_)
            refine L_seq ?_
            refine L_region ?_
            refine F_val rfl rfl rfl (O_move rfl rfl) ?_
            refine F_val rfl rfl rfl (O_mul rfl rfl rfl) ?_
            obtain ⟨x1130, h1131, H⟩ := of_bnd H
            refine F_val rfl rfl rfl (O_assign' rfl rfl (congrArg (Value.int .i64) h1131)) ?_
            refine F_nil ?_
            refine L_seq ?_
            refine L_region ?_
            refine F_val rfl rfl rfl (O_assign rfl rfl) ?_
            refine F_nil ?_
            obtain ⟨yj1132, Hyj1132, H⟩ := of_bind H
            refine L_join (fun a w => ∃ (l1236 : List Int), ∃ (next_1237 : Int), yj1132 = (l1236, next_1237) ∧ Is Try.f26.ntmps a [(0, .slice A_lens_0 l_lens_0.length c_lens_0), (6, .slice A20 l1236.length c21), (7, .int .i64 next_1237), (8, .int .i64 l_1125)] ∧ Hp S0 w0 w [.rd A_lens_0 (rowC (Eint .i64) l_lens_0), .own A20 c21 (rowC (Eint .i64) l1236) 3 (Eint .i64).sz]) (fun Qj1132 hNj1132 hOj1132 => ?_) (fun a w hR => ?_)
            · skip
              have H := Hyj1132
              refine L_blk (fun Qb1238 hNb1238 hXb1238 hOb1238 => ?_)
              refine L_lp (fun k a w => ∃ (l1305 : List Int), ∃ (next_1306 : Int), ∃ (s_1307 : Int), Is Try.f26.ntmps a [(0, .slice A_lens_0 l_lens_0.length c_lens_0), (6, .slice A20 l1305.length c21), (7, .int .i64 next_1306), (8, .int .i64 l_1125), (9, .int .i64 s_1307)] ∧ Hp S0 w0 w [.rd A_lens_0 (rowC (Eint .i64) l_lens_0), .own A20 c21 (rowC (Eint .i64) l1305) 3 (Eint .i64).sz] ∧ valiseref5_Codes.l13 k l1305 next_1306 s_1307 l_lens_0 l_1125 = some yj1132) FU (fun a ha => ⟨_, _, _, Is.cons ha (Is.cons ha (Is.cons ha (Is.cons ha (Is.cons ha (Is.nil ha) rfl) rfl) rfl) rfl) rfl, HS1127.sel [0, 1] rfl, H⟩) (fun kp1304 a w1308 hI Qp1304 hNp1304 hOp1304 => ?_)
              obtain ⟨l1305, next_1306, s_1307, ha, HS1309, HAp1304⟩ := hI
              cases kp1304 with
              | zero => cases (show (none : Option _) = some _ from HAp1304)
              | succ kp1304 =>
                have H := (valiseref5_Codes.l13.eq_2 ..).symm.trans HAp1304
                refine wpLF_app ?_ ha
                refine L_seq ?_
                refine L_seq ?_
                refine L_region ?_
                refine F_val rfl rfl rfl (O_move rfl rfl) ?_
                refine F_val rfl rfl rfl (O_move rfl rfl) ?_
                refine F_val rfl rfl rfl (O_len rfl rfl Try.underlying22) ?_
                refine F_val rfl rfl rfl (O_lt rfl rfl rfl) ?_
                refine F_nil ?_
                refine L_condP rfl (fun c1310 => ?_) (fun c1310 => ?_)
                · have H := of_pos H c1310
                  refine L_skip ?_
                  refine L_seq ?_
                  refine L_blk (fun Q1311 hN1311 hX1311 hO1311 => ?_)
                  refine L_seq ?_
                  refine L_region ?_
                  refine F_val rfl rfl rfl (O_move rfl rfl) ?_
                  refine F_val rfl rfl rfl (O_move rfl rfl) ?_
                  obtain ⟨⟨g1312, g1313⟩, H⟩ := of_gd H
                  refine F_val rfl rfl rfl (O_idx rfl rfl rfl Try.underlying22 size3 g1312 g1313 (Cells.isA (HS1309.cells_rd (i := 0) rfl) (rowC_ne (E := (Eint .i64)) g1312 g1313 (by decide)))) ?_
                  refine F_val rfl rfl rfl (O_loadC rfl rfl flat3 (HS1309.cells_rd (i := 0) rfl) (int_cell g1312 g1313)) ?_
                  refine F_val rfl rfl rfl (O_move rfl rfl) ?_
                  refine F_val rfl rfl rfl (O_eq rfl rfl rfl) ?_
                  refine F_nil ?_
                  obtain ⟨yj1314, Hyj1314, H⟩ := of_bind H
                  refine L_join (fun a w => ∃ (l1325 : List Int), ∃ (next_1326 : Int), yj1314 = (l1325, next_1326) ∧ Is Try.f26.ntmps a [(0, .slice A_lens_0 l_lens_0.length c_lens_0), (6, .slice A20 l1325.length c21), (7, .int .i64 next_1326), (8, .int .i64 l_1125), (9, .int .i64 s_1307)] ∧ Hp S0 w0 w [.rd A_lens_0 (rowC (Eint .i64) l_lens_0), .own A20 c21 (rowC (Eint .i64) l1325) 3 (Eint .i64).sz]) (fun Qj1314 hNj1314 hOj1314 => ?_) (fun a w hR => ?_)
                  · skip
                    have H := Hyj1314
                    refine L_condP rfl (fun c1327 => ?_) (fun c1327 => ?_)
                    · have H := of_pos H c1327
                      refine L_seq ?_
                      refine L_region ?_
                      refine F_val rfl rfl rfl (O_move rfl rfl) ?_
                      refine F_val rfl rfl rfl (O_move rfl rfl) ?_
                      refine F_val rfl rfl rfl (O_move rfl rfl) ?_
                      obtain ⟨⟨g1328, g1329⟩, H⟩ := of_gd H
                      refine F_val rfl rfl rfl (O_idx rfl rfl rfl Try.underlying22 size3 g1328 g1329 (Cells.isA (HS1309.cells_own (i := 1) rfl) (rowC_ne (E := (Eint .i64)) g1328 g1329 (by decide)))) ?_
                      obtain ⟨l1332, h1333, H⟩ := of_bnd H
                      refine F_setE (E := (Eint .i64)) (i := 1) (a := next_1306) (q := s_1307) rfl rfl rfl rfl rfl rfl size3 HS1309 rfl (by decide) g1328 g1329 h1333 (fun w1330 HS1331 => ?_)
                      have e1334 : l1305.length = l1332.length := by rw [← h1333, List.length_set]
                      refine F_know (i := 6) rfl (congrArg (fun n => Value.slice A20 n c21) e1334) ?_
                      have HS1331 : Hp S0 w0 w1330 [.rd A_lens_0 (rowC (Eint .i64) l_lens_0), .own A20 c21 (rowC (Eint .i64) l1332) 3 (Eint .i64).sz] := HS1331
                      refine F_nil ?_
                      refine L_region ?_
                      refine F_val rfl rfl rfl (O_move rfl rfl) ?_
                      refine F_val rfl rfl rfl (O_add rfl rfl rfl) ?_
                      obtain ⟨x1335, h1336, H⟩ := of_bnd H
                      refine F_val rfl rfl rfl (O_assign' rfl rfl (congrArg (Value.int .i64) h1336)) ?_
                      refine F_nil ?_
                      refine L_nil (fun a ha => hNj1314 a _ ⟨_, _, (Option.some.inj H).symm, Is.cons ha (Is.cons ha (Is.cons ha (Is.cons ha (Is.cons ha (Is.nil ha) rfl) rfl) rfl) rfl) rfl, HS1331.sel [0, 1] rfl⟩)
                    · have H := of_neg H c1327
                      refine L_skip ?_
                      refine L_nil (fun a ha => hNj1314 a _ ⟨_, _, (Option.some.inj H).symm, Is.cons ha (Is.cons ha (Is.cons ha (Is.cons ha (Is.cons ha (Is.nil ha) rfl) rfl) rfl) rfl) rfl, HS1309.sel [0, 1] rfl⟩)
                  · obtain ⟨l1325, next_1326, rfl, ha, HS1338⟩ := hR
                    refine wpLF_app ?_ ha
                    refine L_endB hN1311 ?_
                    refine L_region ?_
                    refine F_val rfl rfl rfl (O_move rfl rfl) ?_
                    refine F_val rfl rfl rfl (O_add rfl rfl rfl) ?_
                    obtain ⟨x1339, h1340, H⟩ := of_bnd H
                    refine F_val rfl rfl rfl (O_assign' rfl rfl (congrArg (Value.int .i64) h1340)) ?_
                    refine F_nil ?_
                    refine L_nil (fun a ha => hNp1304 _ a _ (Nat.lt_succ_self _) ⟨_, _, _, Is.cons ha (Is.cons ha (Is.cons ha (Is.cons ha (Is.cons ha (Is.nil ha) rfl) rfl) rfl) rfl) rfl, HS1338.sel [0, 1] rfl, H⟩)
                · have H := of_neg H c1310
                  refine L_exitB (fun a w h => hOp1304 (.exit 2) a w rfl (hXb1238 a w h)) ?_
                  refine L_nil (fun a ha => hNj1132 a _ ⟨_, _, (Option.some.inj H).symm, Is.cons ha (Is.cons ha (Is.cons ha (Is.cons ha (Is.nil ha) rfl) rfl) rfl) rfl, HS1309.sel [0, 1] rfl⟩)
            · obtain ⟨l1236, next_1237, rfl, ha, HS1342⟩ := hR
              refine wpLF_app ?_ ha
              refine L_endB hN1129 ?_
              refine L_region ?_
              refine F_val rfl rfl rfl (O_move rfl rfl) ?_
              refine F_val rfl rfl rfl (O_add rfl rfl rfl) ?_
              obtain ⟨x1343, h1344, H⟩ := of_bnd H
              refine F_val rfl rfl rfl (O_assign' rfl rfl (congrArg (Value.int .i64) h1344)) ?_
              refine F_nil ?_
              refine L_nil (fun a ha => hNp1122 _ a _ (Nat.lt_succ_self _) ⟨_, _, _, Is.cons ha (Is.cons ha (Is.cons ha (Is.cons ha (Is.nil ha) rfl) rfl) rfl) rfl, HS1342.sel [0, 1] rfl, H⟩)
          · have H := of_neg H c1128
            refine L_exitB (fun a w h => hOp1122 (.exit 0) a w rfl (hXb685 a w h)) ?_
            refine L_nil (fun a ha => hNj23 a _ ⟨_, (Option.some.inj H).symm, Is.cons ha (Is.nil ha) rfl, HS1127.sel [0, 1] rfl⟩)
      · obtain ⟨l684, ej, ha, HS1346⟩ := hR
        obtain rfl := ej.symm
        refine wpLF_app ?_ ha
        refine L_seq ?_
        refine L_region ?_
        refine F_val rfl rfl rfl (O_move rfl rfl) ?_
        refine F_val rfl rfl rfl (O_assign rfl rfl) ?_
        refine F_val rfl rfl rfl (O_assign rfl rfl) ?_
        refine F_nil ?_
        refine L_ret (fun a ha => (post_ret2 ha rfl rfl rfl ?_))
        obtain rfl := Option.some.inj H
        exact ⟨_, _, rfl, HS1346.sel [1] rfl⟩

/-! function 31: valise/valiseref5.NewEncoder -/
theorem valiseref5_NewEncoder.calls {S0 : Nat → Prop} {w0 : World} {A_lens_0 : Option Addr} {c_lens_0 : Nat} {l_lens_0 : List Int} {r : Option (List Int × List Int) × Int} (HS0 : Hp S0 w0 w0 [.rd A_lens_0 (rowC (Eint .i64) l_lens_0)]) (hc_lens_0 : l_lens_0.length ≤ c_lens_0) (h : valiseref5_NewEncoder.f l_lens_0 = some r) :
    Calls Try.prog 31 ([.slice A_lens_0 l_lens_0.length c_lens_0] : List Value).toArray w0 (fun e w => ∃ (g1 : Nat), ∃ (A1_0 : Option Addr), ∃ (c1_0 : Nat), ∃ (A1_1 : Option Addr), ∃ (c1_1 : Nat), e = .returned (.tuple #[oV r.1 g1, .int .i64 r.2]) ∧ Hp S0 w0 w [oR r.1 (fun x => .box g1 [.slice A1_0 x.1.length c1_0, .slice A1_1 x.2.length c1_1] 96), oR r.1 (fun x => .own A1_0 c1_0 (rowC (Eint .i64) x.1) 3 (Eint .i64).sz), oR r.1 (fun x => .own A1_1 c1_1 (rowC (Eint .i64) x.2) 3 (Eint .i64).sz)]) := by
  have H : (((valiseref5_Check.f l_lens_0).bind fun (z3, z4) => if z4 ≠ 0 then (some (none, z4)) else (if z3 = 2 then (some (none, 52)) else (if z3 = 3 then (some (none, 51)) else ((valiseref5_Codes.f l_lens_0).bind fun (z16, z17) => bnd (([] : List Int) ++ l_lens_0) fun l31 => gd ((l31.length : Int) * 8 ≤ 140737488355328) (some (some (l31, z16), 0)))))) : Option (Option (List Int × List Int) × Int)) = some r := h
  refine calls_start Try.func31 rfl rfl ?_
  refine L_seq ?_
  refine L_region ?_
  refine F_val rfl rfl rfl (O_assign rfl rfl) ?_
  refine F_val rfl rfl rfl (O_assign rfl rfl) ?_
  refine F_nil ?_
  refine L_seq ?_
  refine L_region ?_
  refine F_val rfl rfl rfl (O_move rfl rfl) ?_
  obtain ⟨⟨z3, z4⟩, h2, H⟩ := of_bind H
  refine F_qcall (v := .tuple #[.int .i64 z3, .int .i64 z4]) (xs := [.tmp 10]) rfl rfl rfl rfl Try.func22 nm22 rfl rfl ((valiseref5_Check.calls (HS0.give [] rfl (Lent.rd HS0 (Lent.nil) (i := 0) rfl ((HS0.cells_rd (i := 0) rfl).self))) hc_lens_0 h2).mono (fun e w hc => ?_)) (fun w5 hw6 => ?_)
  · obtain ⟨rfl, h⟩ := hc
    exact ⟨rfl, h.chg0⟩
  have HS7 := HS0.keep hw6
  refine F_val rfl rfl rfl (O_move rfl rfl) ?_
  refine F_val rfl rfl rfl (O_extract (v := .int .i64 z3) rfl rfl rfl) ?_
  refine F_val rfl rfl rfl (O_extract (v := .int .i64 z4) rfl rfl rfl) ?_
  refine F_val rfl rfl rfl (O_assign rfl rfl) ?_
  refine F_val rfl rfl rfl (O_assign rfl rfl) ?_
  refine F_nil ?_
  refine L_seq ?_
  refine L_seq ?_
  refine L_region ?_
  refine F_val rfl rfl rfl (O_move rfl rfl) ?_
  refine F_val rfl rfl rfl (O_ne rfl rfl rfl) ?_
  refine F_nil ?_
  refine L_condP rfl (fun c8 => ?_) (fun c8 => ?_)
  · have H := of_pos H c8
    refine L_seq ?_
    refine L_region ?_
    refine F_val rfl rfl rfl (O_move rfl rfl) ?_
    refine F_val rfl rfl rfl (O_assign rfl rfl) ?_
    refine F_val rfl rfl rfl (O_assign rfl rfl) ?_
    refine F_nil ?_
    refine L_ret (fun a ha => (post_ret2 ha rfl rfl rfl ?_))
    obtain rfl := Option.some.inj H
    exact ⟨0, none, 0, none, 0, rfl, HS7.sel [1000, 1001, 1002] rfl⟩
  · have H := of_neg H c8
    refine L_skip ?_
    refine L_seq ?_
    refine L_seq ?_
    refine L_region ?_
    refine F_val rfl rfl rfl (O_move rfl rfl) ?_
    refine F_nil ?_
    refine L_blk (fun Q9 hN9 hX9 hO9 => ?_)
    refine L_seq ?_
    refine L_region ?_
    refine F_val rfl rfl rfl (O_eq rfl rfl rfl) ?_
    refine F_val rfl rfl rfl (O_assign rfl rfl) ?_
    refine F_nil ?_
    refine L_condP rfl (fun c10 => ?_) (fun c10 => ?_)
    · have H := of_pos H c10
      refine L_seq ?_
      refine L_region ?_
      refine F_val rfl rfl rfl (O_assign rfl rfl) ?_
      refine F_val rfl rfl rfl (O_assign rfl rfl) ?_
      refine F_nil ?_
      refine L_ret (fun a ha => (hO9 .ret a _ rfl (post_ret2 ha rfl rfl rfl ?_)))
      obtain rfl := Option.some.inj H
      exact ⟨0, none, 0, none, 0, rfl, HS7.sel [1000, 1001, 1002] rfl⟩
    · have H := of_neg H c10
      refine L_seq ?_
      refine L_region ?_
      refine F_val rfl rfl rfl (O_eq rfl rfl rfl) ?_
      refine F_val rfl rfl rfl (O_assign rfl rfl) ?_
      refine F_nil ?_
      refine L_condP rfl (fun c11 => ?_) (fun c11 => ?_)
      · have H := of_pos H c11
        refine L_seq ?_
        refine L_region ?_
        refine F_val rfl rfl rfl (O_assign rfl rfl) ?_
        refine F_val rfl rfl rfl (O_assign rfl rfl) ?_
        refine F_nil ?_
        refine L_ret (fun a ha => (hO9 .ret a _ rfl (post_ret2 ha rfl rfl rfl ?_)))
        obtain rfl := Option.some.inj H
        exact ⟨0, none, 0, none, 0, rfl, HS7.sel [1000, 1001, 1002] rfl⟩
      · have H := of_neg H c11
        refine L_skip ?_
        refine L_endB hN9 ?_
        refine L_seq ?_
        refine L_region ?_
        refine F_val rfl rfl rfl (O_move rfl rfl) ?_
        obtain ⟨⟨z16, z17⟩, h15, H⟩ := of_bind H
        refine F_call (xs := [.tmp 23]) rfl rfl rfl rfl Try.func26 nm26 rfl rfl ((valiseref5_Codes.calls (HS7.give [] rfl (Lent.rd HS7 (Lent.nil) (i := 0) rfl ((HS7.cells_rd (i := 0) rfl).self))) hc_lens_0 h15).mono (fun e w hc => ?_))
        obtain ⟨A20, c21, rfl, HSo⟩ := hc
        refine ⟨.tuple #[.slice A20 z16.length c21, .int .i64 z17], rfl, ?_⟩
        have HS19 : Hp S0 w0 w [.rd A_lens_0 (rowC (Eint .i64) l_lens_0), .own A20 c21 (rowC (Eint .i64) z16) 3 (Eint .i64).sz] := (HS7.back [] HSo rfl).sel [0, 1] rfl
        refine F_val rfl rfl rfl (O_move rfl rfl) ?_
        refine F_val rfl rfl rfl (O_extract (v := .slice A20 z16.length c21) rfl rfl rfl) ?_
        refine F_val rfl rfl rfl (O_extract (v := .int .i64 z17) rfl rfl rfl) ?_
        refine F_val rfl rfl rfl (O_assign rfl rfl) ?_
        refine F_val rfl rfl rfl (O_assign rfl rfl) ?_
        refine F_nil ?_
        refine L_seq ?_
        refine L_region ?_
        refine F_val rfl rfl rfl (O_move rfl rfl) ?_
        refine F_val rfl rfl rfl (O_build (vs := [(1, .slice A20 z16.length c21)]) (v := .agg #[.slice none 0 0, .slice A20 z16.length c21]) rfl rfl rfl (fun w => by kernel_rfl)) ?_
        have HS27 := HS19.addNil 3 (Eint .i64).sz
        have HS27 : Hp S0 w0 w [.rd A_lens_0 (rowC (Eint .i64) l_lens_0), .own A20 c21 (rowC (Eint .i64) z16) 3 (Eint .i64).sz, .own none 0 (rowC (Eint .i64) ([] : List Int)) 3 (Eint .i64).sz] := HS27
        refine F_box (C := [.slice none ([] : List Int).length 0, .slice A20 z16.length c21]) rfl rfl rfl rfl rfl rfl HS27 (fun w23 g25 HS24 => ?_)
        have HS24 : Hp S0 w0 w23 [.rd A_lens_0 (rowC (Eint .i64) l_lens_0), .own A20 c21 (rowC (Eint .i64) z16) 3 (Eint .i64).sz, .own none 0 (rowC (Eint .i64) ([] : List Int)) 3 (Eint .i64).sz, .box g25 ([.slice none ([] : List Int).length 0, .slice A20 z16.length c21]) 96] := HS24
        refine F_val rfl rfl rfl (O_assign rfl rfl) ?_
        refine F_nil ?_
        refine L_seq ?_
        refine L_region ?_
        refine F_val rfl rfl rfl (O_move rfl rfl) ?_
        refine F_val rfl rfl rfl (O_move rfl rfl) ?_
        refine F_val rfl rfl rfl (O_nilCheck rfl rfl) ?_
        refine F_val rfl rfl rfl (O_fieldB rfl rfl field96_0) ?_
        refine F_val rfl rfl rfl (O_loadB rfl rfl flat22 (HS24.cells_box (i := 3) rfl) rfl) ?_
        refine F_val rfl rfl rfl (O_move rfl rfl) ?_
        obtain ⟨l31, h32, H⟩ := of_bnd H
        obtain ⟨g33, H⟩ := of_gd H
        refine F_appE (E := (Eint .i64)) (xs := ([] : List Int)) (ys := l_lens_0) (i := 2) rfl rfl rfl rfl Try.underlying22 info3 rfl (by decide) (by decide) rfl rfl HS24 rfl (HS24.cells_rd (i := 0) rfl) h32 g33 (fun w29 A34 c35 HS30 => ?_)
        have HS30 : Hp S0 w0 w29 [.rd A_lens_0 (rowC (Eint .i64) l_lens_0), .own A20 c21 (rowC (Eint .i64) z16) 3 (Eint .i64).sz, .own A34 c35 (rowC (Eint .i64) l31) 3 (Eint .i64).sz, .box g25 ([.slice none ([] : List Int).length 0, .slice A20 z16.length c21]) 96] := HS30
        refine F_val rfl rfl rfl (O_nilCheck rfl rfl) ?_
        refine F_val rfl rfl rfl (O_fieldB rfl rfl field96_0) ?_
        refine F_stB 3 ([.slice A34 l31.length c35, .slice A20 z16.length c21]) rfl rfl rfl rfl rfl size22 HS30 rfl rfl rfl rfl rfl (fun w36 HS37 => ?_)
        have HS37 : Hp S0 w0 w36 [.rd A_lens_0 (rowC (Eint .i64) l_lens_0), .own A20 c21 (rowC (Eint .i64) z16) 3 (Eint .i64).sz, .own A34 c35 (rowC (Eint .i64) l31) 3 (Eint .i64).sz, .box g25 [.slice A34 l31.length c35, .slice A20 z16.length c21] 96] := HS37
        refine F_nil ?_
        refine L_seq ?_
        refine L_region ?_
        refine F_val rfl rfl rfl (O_move rfl rfl) ?_
        refine F_val rfl rfl rfl (O_assign rfl rfl) ?_
        refine F_val rfl rfl rfl (O_assign rfl rfl) ?_
        refine F_nil ?_
        refine L_ret (fun a ha => (post_ret2 ha rfl rfl rfl ?_))
        obtain rfl := Option.some.inj H
        exact ⟨_, _, _, _, _, rfl, HS37.sel [3, 2, 1] rfl⟩

/-! function 23: valise/valiselaw5.num -/
theorem valiselaw5_num.calls {S0 : Nat → Prop} {w0 : World} {e_0 : Int} {r : Int} (HS0 : Hp S0 w0 w0 []) (h : valiselaw5_num.f e_0 = some r) :
    Calls Try.prog 23 ([.int .i64 e_0] : List Value).toArray w0 (fun e w => e = .returned (.int .i64 r) ∧ Hp S0 w0 w []) := by
  have H : ((some e_0) : Option (Int)) = some r := h
  refine calls_start Try.func23 rfl rfl ?_
  refine L_seq ?_
  refine L_region ?_
  refine F_val rfl rfl rfl (O_assign rfl rfl) ?_
  refine F_nil ?_
  refine L_seq ?_
  refine L_region ?_
  refine F_val rfl rfl rfl (O_move rfl rfl) ?_
  refine F_val rfl rfl rfl (O_assign rfl rfl) ?_
  refine F_nil ?_
  refine L_ret (fun a ha => (post_ret1 ha rfl rfl ?_))
  obtain rfl := Option.some.inj H
  exact ⟨rfl, HS0.sel [] rfl⟩

/-! function 15: valise/valiselaw5.same -/
theorem valiselaw5_same.calls {S0 : Nat → Prop} {w0 : World} {A_a_0 : Option Addr} {c_a_0 : Nat} {A_b_1 : Option Addr} {c_b_1 : Nat} {l_a_0 : List Int} {l_b_1 : List Int} {r : Bool} (HS0 : Hp S0 w0 w0 [.rd A_a_0 (rowC (Eint .i64) l_a_0), .rd A_b_1 (rowC (Eint .i64) l_b_1)]) (hc_a_0 : l_a_0.length ≤ c_a_0) (hc_b_1 : l_b_1.length ≤ c_b_1) (h : valiselaw5_same.f l_a_0 l_b_1 = some r) :
    Calls Try.prog 15 ([.slice A_a_0 l_a_0.length c_a_0, .slice A_b_1 l_b_1.length c_b_1] : List Value).toArray w0 (fun e w => e = .returned (.bool r) ∧ Hp S0 w0 w []) := by
  have H : ((if (l_a_0.length : Int) ≠ (l_b_1.length : Int) then (some false) else ((valiselaw5_same.l1 FU 0 l_a_0 l_b_1).bind fun (yj2 : Sum (Bool) (Unit)) => onR yj2 (fun r => some r) fun () => some true)) : Option (Bool)) = some r := h
  refine calls_start Try.func15 rfl rfl ?_
  refine L_seq ?_
  refine L_region ?_
  refine F_val rfl rfl rfl (O_assign rfl rfl) ?_
  refine F_nil ?_
  refine L_seq ?_
  refine L_seq ?_
  refine L_region ?_
  refine F_val rfl rfl rfl (O_move rfl rfl) ?_
  refine F_val rfl rfl rfl (O_len rfl rfl Try.underlying22) ?_
  refine F_val rfl rfl rfl (O_move rfl rfl) ?_
  refine F_val rfl rfl rfl (O_len rfl rfl Try.underlying22) ?_
  refine F_val rfl rfl rfl (O_ne rfl rfl rfl) ?_
  refine F_nil ?_
  refine L_condP rfl (fun c1 => ?_) (fun c1 => ?_)
  · have H := of_pos H c1
    refine L_seq ?_
    refine L_region ?_
    refine F_val rfl rfl rfl (O_assign rfl rfl) ?_
    refine F_nil ?_
    refine L_ret (fun a ha => (post_ret1 ha rfl rfl ?_))
    obtain rfl := Option.some.inj H
    exact ⟨rfl, HS0.sel [] rfl⟩
  · have H := of_neg H c1
    refine L_skip ?_
    refine L_seq ?_
    refine L_seq ?_
    refine L_region ?_
    refine F_val rfl rfl rfl (O_assign rfl rfl) ?_
    refine F_nil ?_
    obtain ⟨yj2, Hyj2, H⟩ := of_bind H
    refine L_join (fun a w => yj2 = Sum.inr () ∧ Is Try.f15.ntmps a [] ∧ Hp S0 w0 w [.rd A_a_0 (rowC (Eint .i64) l_a_0), .rd A_b_1 (rowC (Eint .i64) l_b_1)]) (fun Qj2 hNj2 hOj2 => ?_) (fun a w hR => ?_)
    · have HOj2 := H
      have H := Hyj2
      refine L_blk (fun Qb45 hNb45 hXb45 hOb45 => ?_)
      refine L_lp (fun k a w => ∃ (i_72 : Int), Is Try.f15.ntmps a [(0, .slice A_a_0 l_a_0.length c_a_0), (1, .slice A_b_1 l_b_1.length c_b_1), (5, .int .i64 i_72)] ∧ Hp S0 w0 w [.rd A_a_0 (rowC (Eint .i64) l_a_0), .rd A_b_1 (rowC (Eint .i64) l_b_1)] ∧ valiselaw5_same.l1 k i_72 l_a_0 l_b_1 = some yj2) FU (fun a ha => ⟨_, Is.cons ha (Is.cons ha (Is.cons ha (Is.nil ha) rfl) rfl) rfl, HS0.sel [0, 1] rfl, H⟩) (fun kp71 a w73 hI Qp71 hNp71 hOp71 => ?_)
      obtain ⟨i_72, ha, HS74, HAp71⟩ := hI
      cases kp71 with
      | zero => cases (show (none : Option _) = some _ from HAp71)
      | succ kp71 =>
        have H := (valiselaw5_same.l1.eq_2 ..).symm.trans HAp71
        refine wpLF_app ?_ ha
        refine L_seq ?_
        refine L_seq ?_
        refine L_region ?_
        refine F_val rfl rfl rfl (O_move rfl rfl) ?_
        refine F_val rfl rfl rfl (O_move rfl rfl) ?_
        refine F_val rfl rfl rfl (O_len rfl rfl Try.underlying22) ?_
        refine F_val rfl rfl rfl (O_lt rfl rfl rfl) ?_
        refine F_nil ?_
        refine L_condP rfl (fun c75 => ?_) (fun c75 => ?_)
        · have H := of_pos H c75
          refine L_skip ?_
          refine L_seq ?_
          refine L_blk (fun Q76 hN76 hX76 hO76 => ?_)
          refine L_seq ?_
          refine L_quiet mix (by kernel_rfl) ?_
          refine Q_val rfl rfl rfl (fun wq hq => O_move rfl rfl) ?_
          refine Q_val rfl rfl rfl (fun wq hq => O_move rfl rfl) ?_
          obtain ⟨⟨g77, g78⟩, H⟩ := of_gd H
          refine Q_val rfl rfl rfl (fun wq hq => O_idx rfl rfl rfl Try.underlying22 size3 g77 g78 (Cells.isA ((HS74.keep hq).cells_rd (i := 0) rfl) (rowC_ne (E := (Eint .i64)) g77 g78 (by decide)))) ?_
          refine Q_val rfl rfl rfl (fun wq hq => O_loadC rfl rfl flat3 ((HS74.keep hq).cells_rd (i := 0) rfl) (int_cell g77 g78)) ?_
          refine Q_val rfl rfl rfl (fun wq hq => O_move rfl rfl) ?_
          refine Q_val rfl rfl rfl (fun wq hq => O_move rfl rfl) ?_
          obtain ⟨⟨g79, g80⟩, H⟩ := of_gd H
          refine Q_val rfl rfl rfl (fun wq hq => O_idx rfl rfl rfl Try.underlying22 size3 g79 g80 (Cells.isA ((HS74.keep hq).cells_rd (i := 1) rfl) (rowC_ne (E := (Eint .i64)) g79 g80 (by decide)))) ?_
          refine Q_val rfl rfl rfl (fun wq hq => O_loadC rfl rfl flat3 ((HS74.keep hq).cells_rd (i := 1) rfl) (int_cell g79 g80)) ?_
          refine Q_val rfl rfl rfl (fun wq hq => O_ne rfl rfl rfl) ?_
          refine Q_nil (fun w81 hw82 => ?_)
          have HS83 := HS74.keep hw82
          refine L_condP rfl (fun c84 => ?_) (fun c84 => ?_)
          · have H := of_pos H c84
            refine L_seq ?_
            refine L_region ?_
            refine F_val rfl rfl rfl (O_assign rfl rfl) ?_
            refine F_nil ?_
            refine L_ret (fun a ha => (hO76 .ret a _ rfl (hOp71 .ret a _ rfl (hOb45 .ret a _ rfl (hOj2 .ret a _ rfl (post_ret1 ha rfl rfl ?_))))))
            obtain rfl := Option.some.inj H
            obtain rfl := Option.some.inj (show (some false : Option (Bool)) = some _ from HOj2)
            exact ⟨rfl, HS83.sel [] rfl⟩
          · have H := of_neg H c84
            refine L_skip ?_
            refine L_endB hN76 ?_
            refine L_region ?_
            refine F_val rfl rfl rfl (O_move rfl rfl) ?_
            refine F_val rfl rfl rfl (O_add rfl rfl rfl) ?_
            obtain ⟨x85, h86, H⟩ := of_bnd H
            refine F_val rfl rfl rfl (O_assign' rfl rfl (congrArg (Value.int .i64) h86)) ?_
            refine F_nil ?_
            refine L_nil (fun a ha => hNp71 _ a _ (Nat.lt_succ_self _) ⟨_, Is.cons ha (Is.cons ha (Is.cons ha (Is.nil ha) rfl) rfl) rfl, HS83.sel [0, 1] rfl, H⟩)
        · have H := of_neg H c75
          refine L_exitB (fun a w h => hOp71 (.exit 0) a w rfl (hXb45 a w h)) ?_
          refine L_nil (fun a ha => hNj2 a _ ⟨(Option.some.inj H).symm, Is.nil ha, HS74.sel [0, 1] rfl⟩)
    · obtain ⟨rfl, ha, HS88⟩ := hR
      refine wpLF_app ?_ ha
      have H := (onR_inr _ _ _).symm.trans H
      refine L_seq ?_
      refine L_region ?_
      refine F_val rfl rfl rfl (O_assign rfl rfl) ?_
      refine F_nil ?_
      refine L_ret (fun a ha => (post_ret1 ha rfl rfl ?_))
      obtain rfl := Option.some.inj H
      exact ⟨rfl, HS88.sel [] rfl⟩

/-! function 24: valise/valiselaw5.whole -/
theorem valiselaw5_whole.calls {S0 : Nat → Prop} {w0 : World} {A_m_0 : Option Addr} {c_m_0 : Nat} {A_l_1 : Option Addr} {c_l_1 : Nat} {l_m_0 : List Int} {l_l_1 : List Int} {r : Bool} (HS0 : Hp S0 w0 w0 [.rd A_m_0 (rowC (Eint .i64) l_m_0), .rd A_l_1 (rowC (Eint .i64) l_l_1)]) (hc_m_0 : l_m_0.length ≤ c_m_0) (hc_l_1 : l_l_1.length ≤ c_l_1) (h : valiselaw5_whole.f l_m_0 l_l_1 = some r) :
    Calls Try.prog 24 ([.slice A_m_0 l_m_0.length c_m_0, .slice A_l_1 l_l_1.length c_l_1] : List Value).toArray w0 (fun e w => e = .returned (.bool r) ∧ Hp S0 w0 w []) := by
  have H : ((bnd ((l_l_1.length : Int)) fun x1 => (if (l_m_0.length : Int) ≠ IntKind.i64.wrap (x1 + 3) then (some true) else (gd ((0 : Int) ≤ x1 ∧ x1 < (l_m_0.length : Int)) (some (decide (rd l_m_0 x1 ≠ (-71)))))).bind fun b5 => (if b5 = true then (some true) else (gd ((0 : Int) ≤ (IntKind.i64.wrap (x1 + 1)) ∧ (IntKind.i64.wrap (x1 + 1)) < (l_m_0.length : Int)) (some (decide (rd l_m_0 (IntKind.i64.wrap (x1 + 1)) ≠ (-72)))))).bind fun b14 => (if b14 = true then (some true) else (gd ((0 : Int) ≤ (IntKind.i64.wrap (x1 + 2)) ∧ (IntKind.i64.wrap (x1 + 2)) < (l_m_0.length : Int)) (some (decide (rd l_m_0 (IntKind.i64.wrap (x1 + 2)) ≠ (-73)))))).bind fun b23 => if b23 = true then (some false) else (gd ((0 : Int) ≤ x1 ∧ x1 ≤ (l_m_0.length : Int)) ((valiselaw5_same.f (l_m_0.take (x1 : Int).toNat) l_l_1).bind fun z35 => some z35))) : Option (Bool)) = some r := h
  refine calls_start Try.func24 rfl rfl ?_
  refine L_seq ?_
  refine L_region ?_
  refine F_val rfl rfl rfl (O_assign rfl rfl) ?_
  refine F_nil ?_
  refine L_seq ?_
  refine L_region ?_
  refine F_val rfl rfl rfl (O_move rfl rfl) ?_
  refine F_val rfl rfl rfl (O_len rfl rfl Try.underlying22) ?_
  obtain ⟨x1, h2, H⟩ := of_bnd H
  refine F_val rfl rfl rfl (O_assign' rfl rfl (congrArg (Value.int .i64) h2)) ?_
  refine F_nil ?_
  refine L_seq ?_
  refine L_seq ?_
  refine L_region ?_
  refine F_val rfl rfl rfl (O_move rfl rfl) ?_
  refine F_val rfl rfl rfl (O_len rfl rfl Try.underlying22) ?_
  refine F_val rfl rfl rfl (O_move rfl rfl) ?_
  refine F_val rfl rfl rfl (O_add rfl rfl rfl) ?_
  refine F_val rfl rfl rfl (O_ne rfl rfl rfl) ?_
  refine F_val rfl rfl rfl (O_move rfl rfl) ?_
  obtain ⟨b5, Hb5, H⟩ := of_bind H
  refine F_grp 6 [(19, .bool b5), (0, .slice A_m_0 l_m_0.length c_m_0), (1, .slice A_l_1 l_l_1.length c_l_1), (5, .int .i64 x1)] ?_ ?_
  · rcases Decidable.em ((l_m_0.length : Int) ≠ IntKind.i64.wrap (x1 + 3)) with c9 | c9
    · refine F_know (i := 13) rfl (dec_t c9) ?_
      have H := of_pos Hb5 c9
      refine F_gskip rfl rfl rfl rfl rfl rfl rfl ?_
      refine F_gskip rfl rfl rfl rfl rfl rfl rfl ?_
      refine F_gskip rfl rfl rfl rfl rfl rfl rfl ?_
      refine F_gskip rfl rfl rfl rfl rfl rfl rfl ?_
      refine F_gskip rfl rfl rfl rfl rfl rfl rfl ?_
      refine F_val rfl rfl rfl (O_pickT rfl rfl rfl) ?_
      refine F_know (i := 19) rfl (congrArg Value.bool (Option.some.inj H)) ?_
      exact F_grpE (fun a ha => Is.cons ha (Is.cons ha (Is.cons ha (Is.cons ha (Is.nil ha) rfl) rfl) rfl) rfl)
    · refine F_know (i := 13) rfl (dec_f c9) ?_
      have H := of_neg Hb5 c9
      refine F_gval rfl rfl rfl rfl rfl rfl (O_move rfl rfl) ?_
      refine F_gval rfl rfl rfl rfl rfl rfl (O_move rfl rfl) ?_
      obtain ⟨⟨g10, g11⟩, H⟩ := of_gd H
      refine F_gval rfl rfl rfl rfl rfl rfl (O_idx rfl rfl rfl Try.underlying22 size3 g10 g11 (Cells.isA (HS0.cells_rd (i := 0) rfl) (rowC_ne (E := (Eint .i64)) g10 g11 (by decide)))) ?_
      refine F_gval rfl rfl rfl rfl rfl rfl (O_loadC rfl rfl flat3 (HS0.cells_rd (i := 0) rfl) (int_cell g10 g11)) ?_
      refine F_gval rfl rfl rfl rfl rfl rfl (O_ne rfl rfl rfl) ?_
      refine F_val rfl rfl rfl (O_pickF rfl rfl rfl) ?_
      refine F_know (i := 19) rfl (congrArg Value.bool (Option.some.inj H)) ?_
      exact F_grpE (fun a ha => Is.cons ha (Is.cons ha (Is.cons ha (Is.cons ha (Is.nil ha) rfl) rfl) rfl) rfl)
  · skip
    refine F_val rfl rfl rfl (O_move rfl rfl) ?_
    obtain ⟨b14, Hb14, H⟩ := of_bind H
    refine F_grp 7 [(27, .bool b14), (0, .slice A_m_0 l_m_0.length c_m_0), (1, .slice A_l_1 l_l_1.length c_l_1), (5, .int .i64 x1)] ?_ ?_
    · rcases Decidable.em (b5 = true) with c18 | c18
      · refine F_know (i := 20) rfl (congrArg Value.bool c18) ?_
        have H := of_pos Hb14 c18
        refine F_gskip rfl rfl rfl rfl rfl rfl rfl ?_
        refine F_gskip rfl rfl rfl rfl rfl rfl rfl ?_
        refine F_gskip rfl rfl rfl rfl rfl rfl rfl ?_
        refine F_gskip rfl rfl rfl rfl rfl rfl rfl ?_
        refine F_gskip rfl rfl rfl rfl rfl rfl rfl ?_
        refine F_gskip rfl rfl rfl rfl rfl rfl rfl ?_
        refine F_val rfl rfl rfl (O_pickT rfl rfl rfl) ?_
        refine F_know (i := 27) rfl (congrArg Value.bool (Option.some.inj H)) ?_
        exact F_grpE (fun a ha => Is.cons ha (Is.cons ha (Is.cons ha (Is.cons ha (Is.nil ha) rfl) rfl) rfl) rfl)
      · refine F_know (i := 20) rfl (congrArg Value.bool (Bool.eq_false_iff.mpr c18)) ?_
        have H := of_neg Hb14 c18
        refine F_gval rfl rfl rfl rfl rfl rfl (O_move rfl rfl) ?_
        refine F_gval rfl rfl rfl rfl rfl rfl (O_move rfl rfl) ?_
        refine F_gval rfl rfl rfl rfl rfl rfl (O_add rfl rfl rfl) ?_
        obtain ⟨⟨g19, g20⟩, H⟩ := of_gd H
        refine F_gval rfl rfl rfl rfl rfl rfl (O_idx rfl rfl rfl Try.underlying22 size3 g19 g20 (Cells.isA (HS0.cells_rd (i := 0) rfl) (rowC_ne (E := (Eint .i64)) g19 g20 (by decide)))) ?_
        refine F_gval rfl rfl rfl rfl rfl rfl (O_loadC rfl rfl flat3 (HS0.cells_rd (i := 0) rfl) (int_cell g19 g20)) ?_
        refine F_gval rfl rfl rfl rfl rfl rfl (O_ne rfl rfl rfl) ?_
        refine F_val rfl rfl rfl (O_pickF rfl rfl rfl) ?_
        refine F_know (i := 27) rfl (congrArg Value.bool (Option.some.inj H)) ?_
        exact F_grpE (fun a ha => Is.cons ha (Is.cons ha (Is.cons ha (Is.cons ha (Is.nil ha) rfl) rfl) rfl) rfl)
    · skip
      refine F_val rfl rfl rfl (O_move rfl rfl) ?_
      obtain ⟨b23, Hb23, H⟩ := of_bind H
      refine F_grp 7 [(35, .bool b23), (0, .slice A_m_0 l_m_0.length c_m_0), (1, .slice A_l_1 l_l_1.length c_l_1), (5, .int .i64 x1)] ?_ ?_
      · rcases Decidable.em (b14 = true) with c27 | c27
        · refine F_know (i := 28) rfl (congrArg Value.bool c27) ?_
          have H := of_pos Hb23 c27
          refine F_gskip rfl rfl rfl rfl rfl rfl rfl ?_
          refine F_gskip rfl rfl rfl rfl rfl rfl rfl ?_
          refine F_gskip rfl rfl rfl rfl rfl rfl rfl ?_
          refine F_gskip rfl rfl rfl rfl rfl rfl rfl ?_
          refine F_gskip rfl rfl rfl rfl rfl rfl rfl ?_
          refine F_gskip rfl rfl rfl rfl rfl rfl rfl ?_
          refine F_val rfl rfl rfl (O_pickT rfl rfl rfl) ?_
          refine F_know (i := 35) rfl (congrArg Value.bool (Option.some.inj H)) ?_
          exact F_grpE (fun a ha => Is.cons ha (Is.cons ha (Is.cons ha (Is.cons ha (Is.nil ha) rfl) rfl) rfl) rfl)
        · refine F_know (i := 28) rfl (congrArg Value.bool (Bool.eq_false_iff.mpr c27)) ?_
          have H := of_neg Hb23 c27
          refine F_gval rfl rfl rfl rfl rfl rfl (O_move rfl rfl) ?_
          refine F_gval rfl rfl rfl rfl rfl rfl (O_move rfl rfl) ?_
          refine F_gval rfl rfl rfl rfl rfl rfl (O_add rfl rfl rfl) ?_
          obtain ⟨⟨g28, g29⟩, H⟩ := of_gd H
          refine F_gval rfl rfl rfl rfl rfl rfl (O_idx rfl rfl rfl Try.underlying22 size3 g28 g29 (Cells.isA (HS0.cells_rd (i := 0) rfl) (rowC_ne (E := (Eint .i64)) g28 g29 (by decide)))) ?_
          refine F_gval rfl rfl rfl rfl rfl rfl (O_loadC rfl rfl flat3 (HS0.cells_rd (i := 0) rfl) (int_cell g28 g29)) ?_
          refine F_gval rfl rfl rfl rfl rfl rfl (O_ne rfl rfl rfl) ?_
          refine F_val rfl rfl rfl (O_pickF rfl rfl rfl) ?_
          refine F_know (i := 35) rfl (congrArg Value.bool (Option.some.inj H)) ?_
          exact F_grpE (fun a ha => Is.cons ha (Is.cons ha (Is.cons ha (Is.cons ha (Is.nil ha) rfl) rfl) rfl) rfl)
      · skip
        refine F_nil ?_
        refine L_cond rfl (fun c30 => ?_) (fun c30 => ?_)
        · have H := of_pos H c30
          refine L_seq ?_
          refine L_region ?_
          refine F_val rfl rfl rfl (O_assign rfl rfl) ?_
          refine F_nil ?_
          refine L_ret (fun a ha => (post_ret1 ha rfl rfl ?_))
          obtain rfl := Option.some.inj H
          exact ⟨rfl, HS0.sel [] rfl⟩
        · have H := of_neg H (by rw [c30]; exact Bool.false_ne_true)
          refine L_skip ?_
          refine L_seq ?_
          refine L_region ?_
          refine F_val rfl rfl rfl (O_move rfl rfl) ?_
          refine F_val rfl rfl rfl (O_move rfl rfl) ?_
          obtain ⟨⟨g31, g32⟩, H⟩ := of_gd H
          refine F_val rfl rfl rfl (O_toE l_m_0 rfl rfl rfl Try.underlying22 size3 g31 g32 hc_m_0) ?_
          refine F_val rfl rfl rfl (O_move rfl rfl) ?_
          obtain ⟨z35, h34, H⟩ := of_bind H
          refine F_qcall (v := .bool z35) (xs := [.tmp 38, .tmp 39]) rfl rfl rfl rfl Try.func15 nm15 rfl rfl ((valiselaw5_same.calls (HS0.give [] rfl (Lent.rd HS0 (Lent.rd HS0 (Lent.nil) (i := 1) rfl ((HS0.cells_rd (i := 1) rfl).self)) (i := 0) rfl (Cells.take (HS0.cells_rd (i := 0) rfl) (x1 : Int).toNat))) (Nat.le_trans (List.length_take_le' _ _) hc_m_0) hc_l_1 h34).mono (fun e w hc => ?_)) (fun w36 hw37 => ?_)
          · obtain ⟨rfl, h⟩ := hc
            exact ⟨rfl, h.chg0⟩
          have HS38 := HS0.keep hw37
          refine F_val rfl rfl rfl (O_assign rfl rfl) ?_
          refine F_nil ?_
          refine L_ret (fun a ha => (post_ret1 ha rfl rfl ?_))
          obtain rfl := Option.some.inj H
          exact ⟨rfl, HS38.sel [] rfl⟩

/-! function 18: valise/valiselaw5.spoil -/
theorem valiselaw5_spoil_v0.calls {S0 : Nat → Prop} {w0 : World} {A_l_0 : Option Addr} {c_l_0 : Nat} {l_l_0 : List Int} {m_l_0 : Nat} {r : List Int} (HS0 : Hp S0 w0 w0 [.own A_l_0 c_l_0 (rowC (Eint .i64) l_l_0) 3 (Eint .i64).sz]) (h : valiselaw5_spoil_v0.f l_l_0 m_l_0 = some r) :
    Calls Try.prog 18 ([.slice A_l_0 (l_l_0.take m_l_0).length c_l_0] : List Value).toArray w0 (fun e w => e = .returned (.tuple #[]) ∧ Hp S0 w0 w [.own A_l_0 c_l_0 (rowC (Eint .i64) r) 3 (Eint .i64).sz] ∧ r.length = l_l_0.length) := by
  have H : (((valiselaw5_spoil_v0.l1 FU l_l_0 0 m_l_0).bind fun l43 => gd (l43.length = l_l_0.length) (some l43)) : Option (List Int)) = some r := h
  refine calls_start Try.func18 rfl rfl ?_
  refine L_seq ?_
  refine L_region ?_
  refine F_val rfl rfl rfl (O_assign rfl rfl) ?_
  refine F_nil ?_
  obtain ⟨yj1, Hyj1, H⟩ := of_bind H
  refine L_join (fun a w => ∃ (l43 : List Int), yj1 = l43 ∧ Is Try.f18.ntmps a [] ∧ Hp S0 w0 w [.own A_l_0 c_l_0 (rowC (Eint .i64) l43) 3 (Eint .i64).sz]) (fun Qj1 hNj1 hOj1 => ?_) (fun a w hR => ?_)
  · skip
    have H := Hyj1
    refine L_blk (fun Qb44 hNb44 hXb44 hOb44 => ?_)
    refine L_lp (fun k a w => ∃ (l70 : List Int), ∃ (i_71 : Int), Is Try.f18.ntmps a [(0, .slice A_l_0 (l70.take m_l_0).length c_l_0), (2, .int .i64 i_71)] ∧ Hp S0 w0 w [.own A_l_0 c_l_0 (rowC (Eint .i64) l70) 3 (Eint .i64).sz] ∧ valiselaw5_spoil_v0.l1 k l70 i_71 m_l_0 = some yj1) FU (fun a ha => ⟨_, _, Is.cons ha (Is.cons ha (Is.nil ha) rfl) rfl, HS0.sel [0] rfl, H⟩) (fun kp69 a w72 hI Qp69 hNp69 hOp69 => ?_)
    obtain ⟨l70, i_71, ha, HS73, HAp69⟩ := hI
    cases kp69 with
    | zero => cases (show (none : Option _) = some _ from HAp69)
    | succ kp69 =>
      have H := (valiselaw5_spoil_v0.l1.eq_2 ..).symm.trans HAp69
      refine wpLF_app ?_ ha
      refine L_seq ?_
      refine L_seq ?_
      refine L_region ?_
      refine F_val rfl rfl rfl (O_move rfl rfl) ?_
      refine F_val rfl rfl rfl (O_move rfl rfl) ?_
      refine F_val rfl rfl rfl (O_len rfl rfl Try.underlying22) ?_
      refine F_val rfl rfl rfl (O_lt rfl rfl rfl) ?_
      refine F_nil ?_
      refine L_condP rfl (fun c74 => ?_) (fun c74 => ?_)
      · have H := of_pos H c74
        refine L_skip ?_
        refine L_seq ?_
        refine L_blk (fun Q75 hN75 hX75 hO75 => ?_)
        refine L_region ?_
        refine F_val rfl rfl rfl (O_move rfl rfl) ?_
        refine F_val rfl rfl rfl (O_move rfl rfl) ?_
        obtain ⟨⟨g76, g77⟩, H⟩ := of_gd H
        refine F_val rfl rfl rfl (O_idx rfl rfl rfl Try.underlying22 size3 g76 g77 (Cells.isA (Cells.sub (HS73.cells_own (i := 0) rfl) (Cells.take (HS73.cells_own (i := 0) rfl) m_l_0)) (rowC_ne (E := (Eint .i64)) g76 g77 (by decide)))) ?_
        obtain ⟨l80, h81, H⟩ := of_bnd H
        refine F_setE (E := (Eint .i64)) (i := 0) (a := 9) (q := i_71) rfl rfl rfl rfl rfl rfl size3 HS73 rfl (by decide) g76 (lt_take g77) h81 (fun w78 HS79 => ?_)
        have e82 : l70.length = l80.length := by rw [← h81, List.length_set]
        refine F_know (i := 0) rfl (congrArg (fun n => Value.slice A_l_0 n c_l_0) (take_len e82 m_l_0)) ?_
        have HS79 : Hp S0 w0 w78 [.own A_l_0 c_l_0 (rowC (Eint .i64) l80) 3 (Eint .i64).sz] := HS79
        refine F_nil ?_
        refine L_endB hN75 ?_
        refine L_region ?_
        refine F_val rfl rfl rfl (O_move rfl rfl) ?_
        refine F_val rfl rfl rfl (O_add rfl rfl rfl) ?_
        obtain ⟨x83, h84, H⟩ := of_bnd H
        refine F_val rfl rfl rfl (O_assign' rfl rfl (congrArg (Value.int .i64) h84)) ?_
        refine F_nil ?_
        refine L_nil (fun a ha => hNp69 _ a _ (Nat.lt_succ_self _) ⟨_, _, Is.cons ha (Is.cons ha (Is.nil ha) rfl) rfl, HS79.sel [0] rfl, H⟩)
      · have H := of_neg H c74
        refine L_exitB (fun a w h => hOp69 (.exit 0) a w rfl (hXb44 a w h)) ?_
        refine L_nil (fun a ha => hNj1 a _ ⟨_, (Option.some.inj H).symm, Is.nil ha, HS73.sel [0] rfl⟩)
  · obtain ⟨l43, ej, ha, HS86⟩ := hR
    obtain rfl := ej.symm
    refine wpLF_app ?_ ha
    obtain ⟨g87, H⟩ := of_gd H
    refine L_nil (fun a ha => (post_end0 ha rfl ?_))
    obtain rfl := Option.some.inj H
    exact ⟨rfl, HS86.sel [0] rfl, g87⟩

/-! function 32: valise/bits.NewWriter -/
theorem bits_NewWriter.calls {S0 : Nat → Prop} {w0 : World} {r : (List Int × Int)} (HS0 : Hp S0 w0 w0 []) (h : bits_NewWriter.f = some r) :
    Calls Try.prog 32 ([] : List Value).toArray w0 (fun e w => ∃ (g1 : Nat), ∃ (A1_0 : Option Addr), ∃ (c1_0 : Nat), e = .returned (.pointer (some ⟨g1, 0, none⟩)) ∧ Hp S0 w0 w [.box g1 [.slice A1_0 r.1.length c1_0, .int .i64 r.2] 98, .own A1_0 c1_0 (rowC (Eint .u8) r.1) 5 (Eint .u8).sz]) := by
  have H : ((some (([] : List Int), 0)) : Option ((List Int × Int))) = some r := h
  refine calls_start Try.func32 rfl rfl ?_
  refine L_seq ?_
  refine L_region ?_
  refine F_val rfl rfl rfl (O_assign rfl rfl) ?_
  refine F_nil ?_
  refine L_seq ?_
  refine L_region ?_
  refine F_val rfl rfl rfl (O_build (vs := []) (v := .agg #[.slice none 0 0, .int .i64 0]) rfl rfl rfl (fun w => by kernel_rfl)) ?_
  have HS5 := HS0.addNil 5 (Eint .u8).sz
  have HS5 : Hp S0 w0 w0 [.own none 0 (rowC (Eint .u8) ([] : List Int)) 5 (Eint .u8).sz] := HS5
  refine F_box (C := [.slice none ([] : List Int).length 0, .int .i64 0]) rfl rfl rfl rfl rfl rfl HS5 (fun w1 g3 HS2 => ?_)
  have HS2 : Hp S0 w0 w1 [.own none 0 (rowC (Eint .u8) ([] : List Int)) 5 (Eint .u8).sz, .box g3 ([.slice none ([] : List Int).length 0, .int .i64 0]) 98] := HS2
  refine F_val rfl rfl rfl (O_assign rfl rfl) ?_
  refine F_nil ?_
  refine L_ret (fun a ha => (post_ret1 ha rfl rfl ?_))
  obtain rfl := Option.some.inj H
  exact ⟨_, _, _, rfl, HS2.sel [1, 0] rfl⟩

/-! function 33: valise/valiseref3.NewWriter -/
theorem valiseref3_NewWriter.calls {S0 : Nat → Prop} {w0 : World} {r : List Int} (HS0 : Hp S0 w0 w0 []) (h : valiseref3_NewWriter.f = some r) :
    Calls Try.prog 33 ([] : List Value).toArray w0 (fun e w => ∃ (g1 : Nat), ∃ (A1_0 : Option Addr), ∃ (c1_0 : Nat), e = .returned (.pointer (some ⟨g1, 0, none⟩)) ∧ Hp S0 w0 w [.box g1 [.slice A1_0 r.length c1_0] 100, .own A1_0 c1_0 (rowC (Eint .u8) r) 5 (Eint .u8).sz]) := by
  have H : ((some ([] : List Int)) : Option (List Int)) = some r := h
  refine calls_start Try.func33 rfl rfl ?_
  refine L_seq ?_
  refine L_region ?_
  refine F_val rfl rfl rfl (O_assign rfl rfl) ?_
  refine F_nil ?_
  refine L_seq ?_
  refine L_region ?_
  refine F_val rfl rfl rfl (O_build (vs := []) (v := .agg #[.slice none 0 0]) rfl rfl rfl (fun w => by kernel_rfl)) ?_
  have HS5 := HS0.addNil 5 (Eint .u8).sz
  have HS5 : Hp S0 w0 w0 [.own none 0 (rowC (Eint .u8) ([] : List Int)) 5 (Eint .u8).sz] := HS5
  refine F_box (C := [.slice none ([] : List Int).length 0]) rfl rfl rfl rfl rfl rfl HS5 (fun w1 g3 HS2 => ?_)
  have HS2 : Hp S0 w0 w1 [.own none 0 (rowC (Eint .u8) ([] : List Int)) 5 (Eint .u8).sz, .box g3 ([.slice none ([] : List Int).length 0]) 100] := HS2
  refine F_val rfl rfl rfl (O_assign rfl rfl) ?_
  refine F_nil ?_
  refine L_ret (fun a ha => (post_ret1 ha rfl rfl ?_))
  obtain rfl := Option.some.inj H
  exact ⟨_, _, _, rfl, HS2.sel [1, 0] rfl⟩

/-! function 66: (*valise/bits.Writer).lay -/
theorem bits_Writer_lay.calls {S0 : Nat → Prop} {w0 : World} {g_w_0 : Nat} {A_w_0_bytes : Option Addr} {c_w_0_bytes : Nat} {w_0_bytes : List Int} {w_0_count : Int} {v_1 : Int} {n_2 : Int} {r : List Int × Int} (HS0 : Hp S0 w0 w0 [.box g_w_0 [.slice A_w_0_bytes w_0_bytes.length c_w_0_bytes, .int .i64 w_0_count] 98, .own A_w_0_bytes c_w_0_bytes (rowC (Eint .u8) w_0_bytes) 5 (Eint .u8).sz]) (h : bits_Writer_lay.f w_0_bytes w_0_count v_1 n_2 = some r) :
    Calls Try.prog 66 ([.pointer (some ⟨g_w_0, 0, none⟩), .int .u64 v_1, .int .i64 n_2] : List Value).toArray w0 (fun e w => ∃ (A_w_0_bytes' : Option Addr), ∃ (c_w_0_bytes' : Nat), e = .returned (.tuple #[]) ∧ Hp S0 w0 w [.box g_w_0 [.slice A_w_0_bytes' r.1.length c_w_0_bytes', .int .i64 r.2] 98, .own A_w_0_bytes' c_w_0_bytes' (rowC (Eint .u8) r.1) 5 (Eint .u8).sz]) := by
  have H : (((bits_Writer_lay.l1 FU w_0_bytes w_0_count v_1 n_2 ).bind fun (l206, y207) => some (l206, y207)) : Option (List Int × Int)) = some r := h
  refine calls_start Try.func66 rfl rfl ?_
  obtain ⟨yj1, Hyj1, H⟩ := of_bind H
  refine L_join (fun a w => ∃ (l206 : List Int), ∃ (y207 : Int), ∃ (A204 : Option Addr), ∃ (c205 : Nat), yj1 = (l206, y207) ∧ Is Try.f66.ntmps a [] ∧ Hp S0 w0 w [.box g_w_0 [.slice A204 l206.length c205, .int .i64 y207] 98, .own A204 c205 (rowC (Eint .u8) l206) 5 (Eint .u8).sz]) (fun Qj1 hNj1 hOj1 => ?_) (fun a w hR => ?_)
  · skip
    have H := Hyj1
    refine L_blk (fun Qb208 hNb208 hXb208 hOb208 => ?_)
    refine L_lp (fun k a w => ∃ (l342 : List Int), ∃ (y343 : Int), ∃ (v_344 : Int), ∃ (n_345 : Int), ∃ (A340 : Option Addr), ∃ (c341 : Nat), Is Try.f66.ntmps a [(0, .pointer (some ⟨g_w_0, 0, none⟩)), (1, .int .u64 v_344), (2, .int .i64 n_345)] ∧ Hp S0 w0 w [.box g_w_0 [.slice A340 l342.length c341, .int .i64 y343] 98, .own A340 c341 (rowC (Eint .u8) l342) 5 (Eint .u8).sz] ∧ bits_Writer_lay.l1 k l342 y343 v_344 n_345  = some yj1) FU (fun a ha => ⟨_, _, _, _, _, _, Is.cons ha (Is.cons ha (Is.cons ha (Is.nil ha) rfl) rfl) rfl, HS0.sel [0, 1] rfl, H⟩) (fun kp339 a w346 hI Qp339 hNp339 hOp339 => ?_)
    obtain ⟨l342, y343, v_344, n_345, A340, c341, ha, HS347, HAp339⟩ := hI
    cases kp339 with
    | zero => cases (show (none : Option _) = some _ from HAp339)
    | succ kp339 =>
      have H := (bits_Writer_lay.l1.eq_2 ..).symm.trans HAp339
      refine wpLF_app ?_ ha
      refine L_seq ?_
      refine L_seq ?_
      refine L_region ?_
      refine F_val rfl rfl rfl (O_move rfl rfl) ?_
      refine F_val rfl rfl rfl (O_gt rfl rfl rfl) ?_
      refine F_nil ?_
      refine L_condP rfl (fun c348 => ?_) (fun c348 => ?_)
      · have H := of_pos H c348
        refine L_skip ?_
        refine L_blk (fun Q349 hN349 hX349 hO349 => ?_)
        refine L_seq ?_
        refine L_region ?_
        refine F_val rfl rfl rfl (O_move rfl rfl) ?_
        refine F_val rfl rfl rfl (O_nilCheck rfl rfl) ?_
        refine F_val rfl rfl rfl (O_fieldB rfl rfl field98_1) ?_
        refine F_val rfl rfl rfl (O_loadB rfl rfl flat3 (HS347.cells_box (i := 0) rfl) rfl) ?_
        refine F_val rfl rfl rfl (O_rem rfl rfl rfl (by decide)) ?_
        obtain ⟨x350, h351, H⟩ := of_bnd H
        refine F_val rfl rfl rfl (O_assign' rfl rfl (congrArg (Value.int .i64) h351)) ?_
        refine F_nil ?_
        refine L_seq ?_
        refine L_seq ?_
        refine L_region ?_
        refine F_val rfl rfl rfl (O_move rfl rfl) ?_
        refine F_val rfl rfl rfl (O_eq rfl rfl rfl) ?_
        refine F_nil ?_
        obtain ⟨yj352, Hyj352, H⟩ := of_bind H
        refine L_join (fun a w => ∃ (l370 : List Int), ∃ (A368 : Option Addr), ∃ (c369 : Nat), yj352 = l370 ∧ Is Try.f66.ntmps a [(0, .pointer (some ⟨g_w_0, 0, none⟩)), (1, .int .u64 v_344), (2, .int .i64 n_345), (6, .int .i64 x350)] ∧ Hp S0 w0 w [.box g_w_0 [.slice A368 l370.length c369, .int .i64 y343] 98, .own A368 c369 (rowC (Eint .u8) l370) 5 (Eint .u8).sz]) (fun Qj352 hNj352 hOj352 => ?_) (fun a w hR => ?_)
        · skip
          have H := Hyj352
          refine L_condP rfl (fun c371 => ?_) (fun c371 => ?_)
          · have H := of_pos H c371
            refine L_region ?_
            refine F_val rfl rfl rfl (O_move rfl rfl) ?_
            refine F_val rfl rfl rfl (O_move rfl rfl) ?_
            refine F_val rfl rfl rfl (O_nilCheck rfl rfl) ?_
            refine F_val rfl rfl rfl (O_fieldB rfl rfl field98_0) ?_
            refine F_val rfl rfl rfl (O_loadB rfl rfl flat59 (HS347.cells_box (i := 0) rfl) rfl) ?_
            refine F_litE (E := (Eint .u8)) (e := 5) [(0, .int .u8 0)] [0] rfl rfl rfl rfl rfl rfl rfl (by decide) (fun w => by kernel_rfl) HS347 (fun w372 A374 c375 HS373 => ?_)
            have HS373 : Hp S0 w0 w372 [.box g_w_0 [.slice A340 l342.length c341, .int .i64 y343] 98, .own A340 c341 (rowC (Eint .u8) l342) 5 (Eint .u8).sz, .own A374 c375 (rowC (Eint .u8) [0]) 5 (Eint .u8).sz] := HS373
            obtain ⟨l379, h380, H⟩ := of_bnd H
            obtain ⟨g381, H⟩ := of_gd H
            refine F_appE (E := (Eint .u8)) (xs := l342) (ys := [0]) (i := 1) rfl rfl rfl rfl Try.underlying59 info5 rfl (by decide) (by decide) rfl rfl HS373 rfl (HS373.cells_own (i := 2) rfl) h380 g381 (fun w377 A382 c383 HS378 => ?_)
            have HS378 : Hp S0 w0 w377 [.box g_w_0 [.slice A340 l342.length c341, .int .i64 y343] 98, .own A382 c383 (rowC (Eint .u8) l379) 5 (Eint .u8).sz, .own A374 c375 (rowC (Eint .u8) [0]) 5 (Eint .u8).sz] := HS378
            refine F_val rfl rfl rfl (O_nilCheck rfl rfl) ?_
            refine F_val rfl rfl rfl (O_fieldB rfl rfl field98_0) ?_
            refine F_stB 0 ([.slice A382 l379.length c383, .int .i64 y343]) rfl rfl rfl rfl rfl size59 HS378 rfl rfl rfl rfl rfl (fun w384 HS385 => ?_)
            have HS385 : Hp S0 w0 w384 [.box g_w_0 [.slice A382 l379.length c383, .int .i64 y343] 98, .own A382 c383 (rowC (Eint .u8) l379) 5 (Eint .u8).sz, .own A374 c375 (rowC (Eint .u8) [0]) 5 (Eint .u8).sz] := HS385
            refine F_nil ?_
            refine L_nil (fun a ha => hNj352 a _ ⟨_, _, _, (Option.some.inj H).symm, Is.cons ha (Is.cons ha (Is.cons ha (Is.cons ha (Is.nil ha) rfl) rfl) rfl) rfl, HS385.sel [0, 1] rfl⟩)
          · have H := of_neg H c371
            refine L_skip ?_
            refine L_nil (fun a ha => hNj352 a _ ⟨_, _, _, (Option.some.inj H).symm, Is.cons ha (Is.cons ha (Is.cons ha (Is.cons ha (Is.nil ha) rfl) rfl) rfl) rfl, HS347.sel [0, 1] rfl⟩)
        · obtain ⟨l370, A368, c369, ej, ha, HS387⟩ := hR
          obtain rfl := ej.symm
          refine wpLF_app ?_ ha
          refine L_seq ?_
          refine L_region ?_
          refine F_val rfl rfl rfl (O_move rfl rfl) ?_
          refine F_val rfl rfl rfl (O_sub rfl rfl rfl) ?_
          refine F_val rfl rfl rfl (O_move rfl rfl) ?_
          refine F_val rfl rfl rfl (O_min rfl rfl rfl) ?_
          obtain ⟨x388, h389, H⟩ := of_bnd H
          refine F_val rfl rfl rfl (O_assign' rfl rfl (congrArg (Value.int .i64) h389)) ?_
          refine F_nil ?_
          refine L_seq ?_
          refine L_region ?_
          refine F_val rfl rfl rfl (O_move rfl rfl) ?_
          refine F_val rfl rfl rfl (O_move rfl rfl) ?_
          refine F_val rfl rfl rfl (O_conv rfl rfl ⟨_, Try.underlying3⟩ Try.underlying39) ?_
          obtain ⟨g390, H⟩ := of_gd H
          refine F_val rfl rfl rfl (O_shl rfl rfl rfl g390) ?_
          refine F_val rfl rfl rfl (O_sub rfl rfl rfl) ?_
          refine F_val rfl rfl rfl (O_and rfl rfl rfl) ?_
          obtain ⟨x391, h392, H⟩ := of_bnd H
          refine F_val rfl rfl rfl (O_assign' rfl rfl (congrArg (Value.int .u64) h392)) ?_
          refine F_nil ?_
          refine L_seq ?_
          refine L_tail 19 mix (by kernel_rfl) (fun w393 hw394 => ?_)
          have HS395 := HS387.keep hw394
          refine S_val rfl rfl rfl (O_move rfl rfl) ?_
          refine S_val rfl rfl rfl (O_nilCheck rfl rfl) ?_
          refine S_val rfl rfl rfl (O_fieldB rfl rfl field98_0) ?_
          refine S_val rfl rfl rfl (O_loadB rfl rfl flat59 (HS395.cells_box (i := 0) rfl) rfl) ?_
          refine S_val rfl rfl rfl (O_move rfl rfl) ?_
          refine S_val rfl rfl rfl (O_nilCheck rfl rfl) ?_
          refine S_val rfl rfl rfl (O_fieldB rfl rfl field98_0) ?_
          refine S_val rfl rfl rfl (O_loadB rfl rfl flat59 (HS395.cells_box (i := 0) rfl) rfl) ?_
          refine S_val rfl rfl rfl (O_len rfl rfl Try.underlying59) ?_
          refine S_val rfl rfl rfl (O_sub rfl rfl rfl) ?_
          obtain ⟨⟨g396, g397⟩, H⟩ := of_gd H
          refine S_val rfl rfl rfl (O_idx rfl rfl rfl Try.underlying59 size5 g396 g397 (Cells.isA (HS395.cells_own (i := 1) rfl) (rowC_ne (E := (Eint .u8)) g396 g397 (by decide)))) ?_
          refine S_val rfl rfl rfl (O_loadC rfl rfl flat5 (HS395.cells_own (i := 1) rfl) (int_cell g396 g397)) ?_
          refine S_val rfl rfl rfl (O_move rfl rfl) ?_
          refine S_val rfl rfl rfl (O_move rfl rfl) ?_
          refine S_val rfl rfl rfl (O_conv rfl rfl ⟨_, Try.underlying3⟩ Try.underlying39) ?_
          obtain ⟨g398, H⟩ := of_gd H
          refine S_val rfl rfl rfl (O_shl rfl rfl rfl g398) ?_
          refine S_val rfl rfl rfl (O_conv rfl rfl ⟨_, Try.underlying101⟩ Try.underlying5) ?_
          refine S_val rfl rfl rfl (O_or rfl rfl rfl) ?_
          refine S_val rfl rfl rfl (O_idx rfl rfl rfl Try.underlying59 size5 g396 g397 (Cells.isA (HS395.cells_own (i := 1) rfl) (rowC_ne (E := (Eint .u8)) g396 g397 (by decide)))) ?_
          refine S_nil ?_
          obtain ⟨l401, h402, H⟩ := of_bnd H
          refine F_setE (E := (Eint .u8)) (i := 1) (a := bor .u8 (rd l370 (IntKind.i64.wrap ((l370.length : Int) - 1))) (IntKind.u8.wrap (shl .u64 x391 (IntKind.u64.wrap x350)))) (q := IntKind.i64.wrap ((l370.length : Int) - 1)) rfl rfl rfl rfl rfl rfl size5 HS395 rfl (by decide) g396 g397 h402 (fun w399 HS400 => ?_)
          have e403 : l370.length = l401.length := by rw [← h402, List.length_set]
          have HS400 : Hp S0 w0 w399 [.box g_w_0 [.slice A368 l401.length c369, .int .i64 y343] 98, .own A368 c369 (rowC (Eint .u8) l401) 5 (Eint .u8).sz] := (by rw [← e403]; exact HS400)
          refine F_nil ?_
          refine L_seq ?_
          refine L_region ?_
          refine F_val rfl rfl rfl (O_move rfl rfl) ?_
          refine F_val rfl rfl rfl (O_move rfl rfl) ?_
          refine F_val rfl rfl rfl (O_conv rfl rfl ⟨_, Try.underlying3⟩ Try.underlying39) ?_
          refine F_val rfl rfl rfl (O_shr rfl rfl rfl g390) ?_
          obtain ⟨x404, h405, H⟩ := of_bnd H
          refine F_val rfl rfl rfl (O_assign' rfl rfl (congrArg (Value.int .u64) h405)) ?_
          refine F_nil ?_
          refine L_seq ?_
          refine L_region ?_
          refine F_val rfl rfl rfl (O_move rfl rfl) ?_
          refine F_val rfl rfl rfl (O_move rfl rfl) ?_
          refine F_val rfl rfl rfl (O_sub rfl rfl rfl) ?_
          obtain ⟨x406, h407, H⟩ := of_bnd H
          refine F_val rfl rfl rfl (O_assign' rfl rfl (congrArg (Value.int .i64) h407)) ?_
          refine F_nil ?_
          refine L_region ?_
          refine F_val rfl rfl rfl (O_move rfl rfl) ?_
          refine F_val rfl rfl rfl (O_nilCheck rfl rfl) ?_
          refine F_val rfl rfl rfl (O_fieldB rfl rfl field98_1) ?_
          refine F_val rfl rfl rfl (O_loadB rfl rfl flat3 (HS400.cells_box (i := 0) rfl) rfl) ?_
          refine F_val rfl rfl rfl (O_move rfl rfl) ?_
          refine F_val rfl rfl rfl (O_add rfl rfl rfl) ?_
          refine F_val rfl rfl rfl (O_nilCheck rfl rfl) ?_
          refine F_val rfl rfl rfl (O_fieldB rfl rfl field98_1) ?_
          refine F_stB 0 ([.slice A368 l401.length c369, .int .i64 (IntKind.i64.wrap (y343 + x388))]) rfl rfl rfl rfl rfl size3 HS400 rfl rfl rfl rfl rfl (fun w408 HS409 => ?_)
          have HS409 : Hp S0 w0 w408 [.box g_w_0 [.slice A368 l401.length c369, .int .i64 (IntKind.i64.wrap (y343 + x388))] 98, .own A368 c369 (rowC (Eint .u8) l401) 5 (Eint .u8).sz] := HS409
          refine F_nil ?_
          refine L_endB hN349 ?_
          refine L_nil (fun a ha => hNp339 _ a _ (Nat.lt_succ_self _) ⟨_, _, _, _, _, _, Is.cons ha (Is.cons ha (Is.cons ha (Is.nil ha) rfl) rfl) rfl, HS409.sel [0, 1] rfl, H⟩)
      · have H := of_neg H c348
        refine L_exitB (fun a w h => hOp339 (.exit 0) a w rfl (hXb208 a w h)) ?_
        refine L_nil (fun a ha => hNj1 a _ ⟨_, _, _, _, (Option.some.inj H).symm, Is.nil ha, HS347.sel [0, 1] rfl⟩)
  · obtain ⟨l206, y207, A204, c205, rfl, ha, HS411⟩ := hR
    refine wpLF_app ?_ ha
    refine L_nil (fun a ha => (post_end0 ha rfl ?_))
    obtain rfl := Option.some.inj H
    exact ⟨_, _, rfl, HS411.sel [0, 1] rfl⟩

/-! function 34: (*valise/bits.Writer).Put -/
theorem bits_Writer_Put.calls {S0 : Nat → Prop} {w0 : World} {g_w_0 : Nat} {A_w_0_bytes : Option Addr} {c_w_0_bytes : Nat} {w_0_bytes : List Int} {w_0_count : Int} {v_1 : Int} {n_2 : Int} {r : Int × List Int × Int} (HS0 : Hp S0 w0 w0 [.box g_w_0 [.slice A_w_0_bytes w_0_bytes.length c_w_0_bytes, .int .i64 w_0_count] 98, .own A_w_0_bytes c_w_0_bytes (rowC (Eint .u8) w_0_bytes) 5 (Eint .u8).sz]) (h : bits_Writer_Put.f w_0_bytes w_0_count v_1 n_2 = some r) :
    Calls Try.prog 34 ([.pointer (some ⟨g_w_0, 0, none⟩), .int .u32 v_1, .int .i64 n_2] : List Value).toArray w0 (fun e w => ∃ (A_w_0_bytes' : Option Addr), ∃ (c_w_0_bytes' : Nat), e = .returned (.int .i64 r.1) ∧ Hp S0 w0 w [.box g_w_0 [.slice A_w_0_bytes' r.2.1.length c_w_0_bytes', .int .i64 r.2.2] 98, .own A_w_0_bytes' c_w_0_bytes' (rowC (Eint .u8) r.2.1) 5 (Eint .u8).sz]) := by
  have H : (((if (n_2 < 0) ∨ (32 < n_2) then (some true) else (gd (¬ (IntKind.u64.wrap n_2) < 0) (some (decide (shr .u64 (IntKind.u64.wrap v_1) (IntKind.u64.wrap n_2) ≠ 0))))).bind fun b6 => if (b6 = true) ∨ (268435456 < IntKind.i64.wrap (w_0_count + n_2)) then (some (1, w_0_bytes, w_0_count)) else ((bits_Writer_lay.f w_0_bytes w_0_count (IntKind.u64.wrap v_1) n_2).bind fun (z21, z22) => some (0, z21, z22))) : Option (Int × List Int × Int)) = some r := h
  refine calls_start Try.func34 rfl rfl ?_
  refine L_seq ?_
  refine L_region ?_
  refine F_val rfl rfl rfl (O_assign rfl rfl) ?_
  refine F_nil ?_
  refine L_seq ?_
  refine L_seq ?_
  refine L_region ?_
  refine F_val rfl rfl rfl (O_move rfl rfl) ?_
  refine F_val rfl rfl rfl (O_peq rfl rfl rfl Try.underlying47) ?_
  refine F_val rfl rfl rfl (O_move rfl rfl) ?_
  refine F_gval rfl rfl rfl rfl rfl rfl (O_move rfl rfl) ?_
  refine F_gval rfl rfl rfl rfl rfl rfl (O_lt rfl rfl rfl) ?_
  refine F_val rfl rfl rfl (O_pickF rfl rfl rfl) ?_
  refine F_val rfl rfl rfl (O_move rfl rfl) ?_
  refine F_grp 3 [(16, .bool (decide ((n_2 < 0) ∨ (32 < n_2)))), (0, .pointer (some ⟨g_w_0, 0, none⟩)), (1, .int .u32 v_1), (2, .int .i64 n_2)] ?_ ?_
  · rcases Decidable.em (n_2 < 0) with c4 | c4
    · refine F_know (i := 13) rfl (dec_t c4) ?_
      refine F_gskip rfl rfl rfl rfl rfl rfl rfl ?_
      refine F_gskip rfl rfl rfl rfl rfl rfl rfl ?_
      refine F_val rfl rfl rfl (O_pickT rfl rfl rfl) ?_
      refine F_know (i := 16) rfl (dec_or_t (q := 32 < n_2) c4) ?_
      exact F_grpE (fun a ha => Is.cons ha (Is.cons ha (Is.cons ha (Is.cons ha (Is.nil ha) rfl) rfl) rfl) rfl)
    · refine F_know (i := 13) rfl (dec_f c4) ?_
      refine F_gval rfl rfl rfl rfl rfl rfl (O_move rfl rfl) ?_
      refine F_gval rfl rfl rfl rfl rfl rfl (O_gt rfl rfl rfl) ?_
      refine F_val rfl rfl rfl (O_pickF rfl rfl rfl) ?_
      refine F_know (i := 16) rfl (dec_or_f (q := 32 < n_2) c4) ?_
      exact F_grpE (fun a ha => Is.cons ha (Is.cons ha (Is.cons ha (Is.cons ha (Is.nil ha) rfl) rfl) rfl) rfl)
  · skip
    refine F_val rfl rfl rfl (O_move rfl rfl) ?_
    obtain ⟨b6, Hb6, H⟩ := of_bind H
    refine F_grp 7 [(24, .bool b6), (0, .pointer (some ⟨g_w_0, 0, none⟩)), (1, .int .u32 v_1), (2, .int .i64 n_2)] ?_ ?_
    · rcases Decidable.em ((n_2 < 0) ∨ (32 < n_2)) with c10 | c10
      · refine F_know (i := 17) rfl (dec_t c10) ?_
        have H := of_pos Hb6 c10
        refine F_gskip rfl rfl rfl rfl rfl rfl rfl ?_
        refine F_gskip rfl rfl rfl rfl rfl rfl rfl ?_
        refine F_gskip rfl rfl rfl rfl rfl rfl rfl ?_
        refine F_gskip rfl rfl rfl rfl rfl rfl rfl ?_
        refine F_gskip rfl rfl rfl rfl rfl rfl rfl ?_
        refine F_gskip rfl rfl rfl rfl rfl rfl rfl ?_
        refine F_val rfl rfl rfl (O_pickT rfl rfl rfl) ?_
        refine F_know (i := 24) rfl (congrArg Value.bool (Option.some.inj H)) ?_
        exact F_grpE (fun a ha => Is.cons ha (Is.cons ha (Is.cons ha (Is.cons ha (Is.nil ha) rfl) rfl) rfl) rfl)
      · refine F_know (i := 17) rfl (dec_f c10) ?_
        have H := of_neg Hb6 c10
        refine F_gval rfl rfl rfl rfl rfl rfl (O_move rfl rfl) ?_
        refine F_gval rfl rfl rfl rfl rfl rfl (O_conv rfl rfl ⟨_, Try.underlying52⟩ Try.underlying101) ?_
        refine F_gval rfl rfl rfl rfl rfl rfl (O_move rfl rfl) ?_
        refine F_gval rfl rfl rfl rfl rfl rfl (O_conv rfl rfl ⟨_, Try.underlying3⟩ Try.underlying39) ?_
        obtain ⟨g11, H⟩ := of_gd H
        refine F_gval rfl rfl rfl rfl rfl rfl (O_shr rfl rfl rfl g11) ?_
        refine F_gval rfl rfl rfl rfl rfl rfl (O_ne rfl rfl rfl) ?_
        refine F_val rfl rfl rfl (O_pickF rfl rfl rfl) ?_
        refine F_know (i := 24) rfl (congrArg Value.bool (Option.some.inj H)) ?_
        exact F_grpE (fun a ha => Is.cons ha (Is.cons ha (Is.cons ha (Is.cons ha (Is.nil ha) rfl) rfl) rfl) rfl)
    · skip
      refine F_val rfl rfl rfl (O_move rfl rfl) ?_
      refine F_grp 8 [(33, .bool (decide ((b6 = true) ∨ (268435456 < IntKind.i64.wrap (w_0_count + n_2))))), (0, .pointer (some ⟨g_w_0, 0, none⟩)), (1, .int .u32 v_1), (2, .int .i64 n_2)] ?_ ?_
      · rcases Decidable.em (b6 = true) with c15 | c15
        · refine F_know (i := 25) rfl (congrArg Value.bool c15) ?_
          refine F_gskip rfl rfl rfl rfl rfl rfl rfl ?_
          refine F_gskip rfl rfl rfl rfl rfl rfl rfl ?_
          refine F_gskip rfl rfl rfl rfl rfl rfl rfl ?_
          refine F_gskip rfl rfl rfl rfl rfl rfl rfl ?_
          refine F_gskip rfl rfl rfl rfl rfl rfl rfl ?_
          refine F_gskip rfl rfl rfl rfl rfl rfl rfl ?_
          refine F_gskip rfl rfl rfl rfl rfl rfl rfl ?_
          refine F_val rfl rfl rfl (O_pickT rfl rfl rfl) ?_
          refine F_know (i := 33) rfl (dec_or_t (q := 268435456 < IntKind.i64.wrap (w_0_count + n_2)) c15) ?_
          exact F_grpE (fun a ha => Is.cons ha (Is.cons ha (Is.cons ha (Is.cons ha (Is.nil ha) rfl) rfl) rfl) rfl)
        · refine F_know (i := 25) rfl (congrArg Value.bool (Bool.eq_false_iff.mpr c15)) ?_
          refine F_gval rfl rfl rfl rfl rfl rfl (O_move rfl rfl) ?_
          refine F_gval rfl rfl rfl rfl rfl rfl (O_nilCheck rfl rfl) ?_
          refine F_gval rfl rfl rfl rfl rfl rfl (O_fieldB rfl rfl field98_1) ?_
          refine F_gval rfl rfl rfl rfl rfl rfl (O_loadB rfl rfl flat3 (HS0.cells_box (i := 0) rfl) rfl) ?_
          refine F_gval rfl rfl rfl rfl rfl rfl (O_move rfl rfl) ?_
          refine F_gval rfl rfl rfl rfl rfl rfl (O_add rfl rfl rfl) ?_
          refine F_gval rfl rfl rfl rfl rfl rfl (O_gt rfl rfl rfl) ?_
          refine F_val rfl rfl rfl (O_pickF rfl rfl rfl) ?_
          refine F_know (i := 33) rfl (dec_or_f (q := 268435456 < IntKind.i64.wrap (w_0_count + n_2)) c15) ?_
          exact F_grpE (fun a ha => Is.cons ha (Is.cons ha (Is.cons ha (Is.cons ha (Is.nil ha) rfl) rfl) rfl) rfl)
      · skip
        refine F_nil ?_
        refine L_condP rfl (fun c16 => ?_) (fun c16 => ?_)
        · have H := of_pos H c16
          refine L_seq ?_
          refine L_region ?_
          refine F_val rfl rfl rfl (O_assign rfl rfl) ?_
          refine F_nil ?_
          refine L_ret (fun a ha => (post_ret1 ha rfl rfl ?_))
          obtain rfl := Option.some.inj H
          exact ⟨_, _, rfl, HS0.sel [0, 1] rfl⟩
        · have H := of_neg H c16
          refine L_skip ?_
          refine L_seq ?_
          refine L_region ?_
          refine F_val rfl rfl rfl (O_move rfl rfl) ?_
          refine F_val rfl rfl rfl (O_move rfl rfl) ?_
          refine F_val rfl rfl rfl (O_conv rfl rfl ⟨_, Try.underlying52⟩ Try.underlying101) ?_
          refine F_val rfl rfl rfl (O_move rfl rfl) ?_
          obtain ⟨⟨z21, z22⟩, h20, H⟩ := of_bind H
          refine F_call (xs := [.tmp 34, .tmp 36, .tmp 37]) rfl rfl rfl rfl Try.func66 nm66 rfl rfl ((bits_Writer_lay.calls (HS0.give [0, 1] rfl (Lent.nil)) h20).mono (fun e w hc => ?_))
          obtain ⟨A25, c26, rfl, HSo⟩ := hc
          refine ⟨.tuple #[], rfl, ?_⟩
          have HS24 : Hp S0 w0 w [.box g_w_0 [.slice A25 z21.length c26, .int .i64 z22] 98, .own A25 c26 (rowC (Eint .u8) z21) 5 (Eint .u8).sz] := (HS0.back [0, 1] HSo rfl).sel [2, 3] rfl
          refine F_nil ?_
          refine L_seq ?_
          refine L_region ?_
          refine F_val rfl rfl rfl (O_assign rfl rfl) ?_
          refine F_nil ?_
          refine L_ret (fun a ha => (post_ret1 ha rfl rfl ?_))
          obtain rfl := Option.some.inj H
          exact ⟨_, _, rfl, HS24.sel [0, 1] rfl⟩

/-! function 67: valise/valiseref3.below -/
theorem valiseref3_below.calls {S0 : Nat → Prop} {w0 : World} {v_0 : Int} {n_1 : Int} {r : Bool} (HS0 : Hp S0 w0 w0 []) (h : valiseref3_below.f v_0 n_1 = some r) :
    Calls Try.prog 67 ([.int .u32 v_0, .int .i64 n_1] : List Value).toArray w0 (fun e w => e = .returned (.bool r) ∧ Hp S0 w0 w []) := by
  have H : ((gd (¬ (IntKind.u64.wrap n_1) < 0) (some (decide (IntKind.u64.wrap v_0 < shl .u64 1 (IntKind.u64.wrap n_1))))) : Option (Bool)) = some r := h
  refine calls_start Try.func67 rfl rfl ?_
  refine L_seq ?_
  refine L_region ?_
  refine F_val rfl rfl rfl (O_assign rfl rfl) ?_
  refine F_nil ?_
  refine L_seq ?_
  refine L_region ?_
  refine F_val rfl rfl rfl (O_move rfl rfl) ?_
  refine F_val rfl rfl rfl (O_conv rfl rfl ⟨_, Try.underlying52⟩ Try.underlying101) ?_
  refine F_val rfl rfl rfl (O_move rfl rfl) ?_
  refine F_val rfl rfl rfl (O_conv rfl rfl ⟨_, Try.underlying3⟩ Try.underlying39) ?_
  obtain ⟨g1, H⟩ := of_gd H
  refine F_val rfl rfl rfl (O_shl rfl rfl rfl g1) ?_
  refine F_val rfl rfl rfl (O_lt rfl rfl rfl) ?_
  refine F_val rfl rfl rfl (O_assign rfl rfl) ?_
  refine F_nil ?_
  refine L_ret (fun a ha => (post_ret1 ha rfl rfl ?_))
  obtain rfl := Option.some.inj H
  exact ⟨rfl, HS0.sel [] rfl⟩

/-! function 68: valise/valiseref3.bit -/
theorem valiseref3_bit.calls {S0 : Nat → Prop} {w0 : World} {v_0 : Int} {i_1 : Int} {r : Int} (HS0 : Hp S0 w0 w0 []) (h : valiseref3_bit.f v_0 i_1 = some r) :
    Calls Try.prog 68 ([.int .u32 v_0, .int .i64 i_1] : List Value).toArray w0 (fun e w => e = .returned (.int .u8 r) ∧ Hp S0 w0 w []) := by
  have H : ((gd (¬ (IntKind.u64.wrap i_1) < 0) (some (IntKind.u8.wrap (band .u32 (shr .u32 v_0 (IntKind.u64.wrap i_1)) 1)))) : Option (Int)) = some r := h
  refine calls_start Try.func68 rfl rfl ?_
  refine L_seq ?_
  refine L_region ?_
  refine F_val rfl rfl rfl (O_assign rfl rfl) ?_
  refine F_nil ?_
  refine L_seq ?_
  refine L_region ?_
  refine F_val rfl rfl rfl (O_move rfl rfl) ?_
  refine F_val rfl rfl rfl (O_move rfl rfl) ?_
  refine F_val rfl rfl rfl (O_conv rfl rfl ⟨_, Try.underlying3⟩ Try.underlying39) ?_
  obtain ⟨g1, H⟩ := of_gd H
  refine F_val rfl rfl rfl (O_shr rfl rfl rfl g1) ?_
  refine F_val rfl rfl rfl (O_and rfl rfl rfl) ?_
  refine F_val rfl rfl rfl (O_conv rfl rfl ⟨_, Try.underlying52⟩ Try.underlying5) ?_
  refine F_val rfl rfl rfl (O_assign rfl rfl) ?_
  refine F_nil ?_
  refine L_ret (fun a ha => (post_ret1 ha rfl rfl ?_))
  obtain rfl := Option.some.inj H
  exact ⟨rfl, HS0.sel [] rfl⟩

/-! function 35: (*valise/valiseref3.Writer).Put -/
theorem valiseref3_Writer_Put.calls {S0 : Nat → Prop} {w0 : World} {g_w_0 : Nat} {A_w_0_Row : Option Addr} {c_w_0_Row : Nat} {w_0_Row : List Int} {v_1 : Int} {n_2 : Int} {r : Int × List Int} (HS0 : Hp S0 w0 w0 [.box g_w_0 [.slice A_w_0_Row w_0_Row.length c_w_0_Row] 100, .own A_w_0_Row c_w_0_Row (rowC (Eint .u8) w_0_Row) 5 (Eint .u8).sz]) (h : valiseref3_Writer_Put.f w_0_Row v_1 n_2 = some r) :
    Calls Try.prog 35 ([.pointer (some ⟨g_w_0, 0, none⟩), .int .u32 v_1, .int .i64 n_2] : List Value).toArray w0 (fun e w => ∃ (A_w_0_Row' : Option Addr), ∃ (c_w_0_Row' : Nat), e = .returned (.int .i64 r.1) ∧ Hp S0 w0 w [.box g_w_0 [.slice A_w_0_Row' r.2.length c_w_0_Row'] 100, .own A_w_0_Row' c_w_0_Row' (rowC (Eint .u8) r.2) 5 (Eint .u8).sz]) := by
  have H : ((if (n_2 < 0) ∨ (32 < n_2) then (some (1, w_0_Row)) else ((valiseref3_below.f v_1 n_2).bind fun z8 => if ((!z8) = true) ∨ (268435456 < IntKind.i64.wrap ((w_0_Row.length : Int) + n_2)) then (some (1, w_0_Row)) else ((valiseref3_Writer_Put.l1 FU w_0_Row 0 v_1 n_2).bind fun l104 => some (0, l104)))) : Option (Int × List Int)) = some r := h
  refine calls_start Try.func35 rfl rfl ?_
  refine L_seq ?_
  refine L_region ?_
  refine F_val rfl rfl rfl (O_assign rfl rfl) ?_
  refine F_nil ?_
  refine L_seq ?_
  refine L_seq ?_
  refine L_region ?_
  refine F_val rfl rfl rfl (O_move rfl rfl) ?_
  refine F_val rfl rfl rfl (O_peq rfl rfl rfl Try.underlying49) ?_
  refine F_val rfl rfl rfl (O_move rfl rfl) ?_
  refine F_gval rfl rfl rfl rfl rfl rfl (O_move rfl rfl) ?_
  refine F_gval rfl rfl rfl rfl rfl rfl (O_lt rfl rfl rfl) ?_
  refine F_val rfl rfl rfl (O_pickF rfl rfl rfl) ?_
  refine F_val rfl rfl rfl (O_move rfl rfl) ?_
  refine F_grp 3 [(19, .bool (decide ((n_2 < 0) ∨ (32 < n_2)))), (0, .pointer (some ⟨g_w_0, 0, none⟩)), (1, .int .u32 v_1), (2, .int .i64 n_2)] ?_ ?_
  · rcases Decidable.em (n_2 < 0) with c4 | c4
    · refine F_know (i := 16) rfl (dec_t c4) ?_
      refine F_gskip rfl rfl rfl rfl rfl rfl rfl ?_
      refine F_gskip rfl rfl rfl rfl rfl rfl rfl ?_
      refine F_val rfl rfl rfl (O_pickT rfl rfl rfl) ?_
      refine F_know (i := 19) rfl (dec_or_t (q := 32 < n_2) c4) ?_
      exact F_grpE (fun a ha => Is.cons ha (Is.cons ha (Is.cons ha (Is.cons ha (Is.nil ha) rfl) rfl) rfl) rfl)
    · refine F_know (i := 16) rfl (dec_f c4) ?_
      refine F_gval rfl rfl rfl rfl rfl rfl (O_move rfl rfl) ?_
      refine F_gval rfl rfl rfl rfl rfl rfl (O_gt rfl rfl rfl) ?_
      refine F_val rfl rfl rfl (O_pickF rfl rfl rfl) ?_
      refine F_know (i := 19) rfl (dec_or_f (q := 32 < n_2) c4) ?_
      exact F_grpE (fun a ha => Is.cons ha (Is.cons ha (Is.cons ha (Is.cons ha (Is.nil ha) rfl) rfl) rfl) rfl)
  · skip
    refine F_nil ?_
    refine L_condP rfl (fun c5 => ?_) (fun c5 => ?_)
    · have H := of_pos H c5
      refine L_seq ?_
      refine L_region ?_
      refine F_val rfl rfl rfl (O_assign rfl rfl) ?_
      refine F_nil ?_
      refine L_ret (fun a ha => (post_ret1 ha rfl rfl ?_))
      obtain rfl := Option.some.inj H
      exact ⟨_, _, rfl, HS0.sel [0, 1] rfl⟩
    · have H := of_neg H c5
      refine L_skip ?_
      refine L_seq ?_
      refine L_region ?_
      refine F_val rfl rfl rfl (O_move rfl rfl) ?_
      refine F_val rfl rfl rfl (O_move rfl rfl) ?_
      obtain ⟨z8, h7, H⟩ := of_bind H
      refine F_qcall (v := .bool z8) (xs := [.tmp 20, .tmp 21]) rfl rfl rfl rfl Try.func67 nm67 rfl rfl ((valiseref3_below.calls (HS0.give [] rfl (Lent.nil)) h7).mono (fun e w hc => ?_)) (fun w9 hw10 => ?_)
      · obtain ⟨rfl, h⟩ := hc
        exact ⟨rfl, h.chg0⟩
      have HS11 := HS0.keep hw10
      refine F_val rfl rfl rfl (O_assign rfl rfl) ?_
      refine F_nil ?_
      refine L_seq ?_
      refine L_seq ?_
      refine L_region ?_
      refine F_val rfl rfl rfl (O_move rfl rfl) ?_
      refine F_val rfl rfl rfl (O_notb rfl rfl) ?_
      refine F_val rfl rfl rfl (O_move rfl rfl) ?_
      refine F_grp 9 [(34, .bool (decide (((!z8) = true) ∨ (268435456 < IntKind.i64.wrap ((w_0_Row.length : Int) + n_2))))), (0, .pointer (some ⟨g_w_0, 0, none⟩)), (1, .int .u32 v_1), (2, .int .i64 n_2)] ?_ ?_
      · rcases Decidable.em ((!z8) = true) with c15 | c15
        · refine F_know (i := 25) rfl (congrArg Value.bool c15) ?_
          refine F_gskip rfl rfl rfl rfl rfl rfl rfl ?_
          refine F_gskip rfl rfl rfl rfl rfl rfl rfl ?_
          refine F_gskip rfl rfl rfl rfl rfl rfl rfl ?_
          refine F_gskip rfl rfl rfl rfl rfl rfl rfl ?_
          refine F_gskip rfl rfl rfl rfl rfl rfl rfl ?_
          refine F_gskip rfl rfl rfl rfl rfl rfl rfl ?_
          refine F_gskip rfl rfl rfl rfl rfl rfl rfl ?_
          refine F_gskip rfl rfl rfl rfl rfl rfl rfl ?_
          refine F_val rfl rfl rfl (O_pickT rfl rfl rfl) ?_
          refine F_know (i := 34) rfl (dec_or_t (q := 268435456 < IntKind.i64.wrap ((w_0_Row.length : Int) + n_2)) c15) ?_
          exact F_grpE (fun a ha => Is.cons ha (Is.cons ha (Is.cons ha (Is.cons ha (Is.nil ha) rfl) rfl) rfl) rfl)
        · refine F_know (i := 25) rfl (congrArg Value.bool (Bool.eq_false_iff.mpr c15)) ?_
          refine F_gval rfl rfl rfl rfl rfl rfl (O_move rfl rfl) ?_
          refine F_gval rfl rfl rfl rfl rfl rfl (O_nilCheck rfl rfl) ?_
          refine F_gval rfl rfl rfl rfl rfl rfl (O_fieldB rfl rfl field100_0) ?_
          refine F_gval rfl rfl rfl rfl rfl rfl (O_loadB rfl rfl flat59 (HS11.cells_box (i := 0) rfl) rfl) ?_
          refine F_gval rfl rfl rfl rfl rfl rfl (O_len rfl rfl Try.underlying59) ?_
          refine F_gval rfl rfl rfl rfl rfl rfl (O_move rfl rfl) ?_
          refine F_gval rfl rfl rfl rfl rfl rfl (O_add rfl rfl rfl) ?_
          refine F_gval rfl rfl rfl rfl rfl rfl (O_gt rfl rfl rfl) ?_
          refine F_val rfl rfl rfl (O_pickF rfl rfl rfl) ?_
          refine F_know (i := 34) rfl (dec_or_f (q := 268435456 < IntKind.i64.wrap ((w_0_Row.length : Int) + n_2)) c15) ?_
          exact F_grpE (fun a ha => Is.cons ha (Is.cons ha (Is.cons ha (Is.cons ha (Is.nil ha) rfl) rfl) rfl) rfl)
      · skip
        refine F_nil ?_
        refine L_condP rfl (fun c16 => ?_) (fun c16 => ?_)
        · have H := of_pos H c16
          refine L_seq ?_
          refine L_region ?_
          refine F_val rfl rfl rfl (O_assign rfl rfl) ?_
          refine F_nil ?_
          refine L_ret (fun a ha => (post_ret1 ha rfl rfl ?_))
          obtain rfl := Option.some.inj H
          exact ⟨_, _, rfl, HS11.sel [0, 1] rfl⟩
        · have H := of_neg H c16
          refine L_skip ?_
          refine L_seq ?_
          refine L_seq ?_
          refine L_region ?_
          refine F_val rfl rfl rfl (O_assign rfl rfl) ?_
          refine F_nil ?_
          obtain ⟨yj17, Hyj17, H⟩ := of_bind H
          refine L_join (fun a w => ∃ (l104 : List Int), ∃ (A102 : Option Addr), ∃ (c103 : Nat), yj17 = l104 ∧ Is Try.f35.ntmps a [] ∧ Hp S0 w0 w [.box g_w_0 [.slice A102 l104.length c103] 100, .own A102 c103 (rowC (Eint .u8) l104) 5 (Eint .u8).sz]) (fun Qj17 hNj17 hOj17 => ?_) (fun a w hR => ?_)
          · skip
            have H := Hyj17
            refine L_blk (fun Qb105 hNb105 hXb105 hOb105 => ?_)
            refine L_lp (fun k a w => ∃ (l161 : List Int), ∃ (i_162 : Int), ∃ (A159 : Option Addr), ∃ (c160 : Nat), Is Try.f35.ntmps a [(0, .pointer (some ⟨g_w_0, 0, none⟩)), (1, .int .u32 v_1), (2, .int .i64 n_2), (8, .int .i64 i_162)] ∧ Hp S0 w0 w [.box g_w_0 [.slice A159 l161.length c160] 100, .own A159 c160 (rowC (Eint .u8) l161) 5 (Eint .u8).sz] ∧ valiseref3_Writer_Put.l1 k l161 i_162 v_1 n_2 = some yj17) FU (fun a ha => ⟨_, _, _, _, Is.cons ha (Is.cons ha (Is.cons ha (Is.cons ha (Is.nil ha) rfl) rfl) rfl) rfl, HS11.sel [0, 1] rfl, H⟩) (fun kp158 a w163 hI Qp158 hNp158 hOp158 => ?_)
            obtain ⟨l161, i_162, A159, c160, ha, HS164, HAp158⟩ := hI
            cases kp158 with
            | zero => cases (show (none : Option _) = some _ from HAp158)
            | succ kp158 =>
              have H := (valiseref3_Writer_Put.l1.eq_2 ..).symm.trans HAp158
              refine wpLF_app ?_ ha
              refine L_seq ?_
              refine L_seq ?_
              refine L_region ?_
              refine F_val rfl rfl rfl (O_move rfl rfl) ?_
              refine F_val rfl rfl rfl (O_move rfl rfl) ?_
              refine F_val rfl rfl rfl (O_lt rfl rfl rfl) ?_
              refine F_nil ?_
              refine L_condP rfl (fun c165 => ?_) (fun c165 => ?_)
              · have H := of_pos H c165
                refine L_skip ?_
                refine L_seq ?_
                refine L_blk (fun Q166 hN166 hX166 hO166 => ?_)
                refine L_seq ?_
                refine L_region ?_
                refine F_val rfl rfl rfl (O_move rfl rfl) ?_
                refine F_val rfl rfl rfl (O_move rfl rfl) ?_
                obtain ⟨z169, h168, H⟩ := of_bind H
                refine F_qcall (v := .int .u8 z169) (xs := [.tmp 40, .tmp 41]) rfl rfl rfl rfl Try.func68 nm68 rfl rfl ((valiseref3_bit.calls (HS164.give [] rfl (Lent.nil)) h168).mono (fun e w hc => ?_)) (fun w170 hw171 => ?_)
                · obtain ⟨rfl, h⟩ := hc
                  exact ⟨rfl, h.chg0⟩
                have HS172 := HS164.keep hw171
                refine F_val rfl rfl rfl (O_assign rfl rfl) ?_
                refine F_nil ?_
                refine L_region ?_
                refine F_val rfl rfl rfl (O_move rfl rfl) ?_
                refine F_val rfl rfl rfl (O_move rfl rfl) ?_
                refine F_val rfl rfl rfl (O_nilCheck rfl rfl) ?_
                refine F_val rfl rfl rfl (O_fieldB rfl rfl field100_0) ?_
                refine F_val rfl rfl rfl (O_loadB rfl rfl flat59 (HS172.cells_box (i := 0) rfl) rfl) ?_
                refine F_val rfl rfl rfl (O_move rfl rfl) ?_
                refine F_litE (E := (Eint .u8)) (e := 5) [(0, .int .u8 z169)] [z169] rfl rfl rfl rfl rfl rfl rfl (by decide) (fun w => by kernel_rfl) HS172 (fun w173 A175 c176 HS174 => ?_)
                have HS174 : Hp S0 w0 w173 [.box g_w_0 [.slice A159 l161.length c160] 100, .own A159 c160 (rowC (Eint .u8) l161) 5 (Eint .u8).sz, .own A175 c176 (rowC (Eint .u8) [z169]) 5 (Eint .u8).sz] := HS174
                obtain ⟨l180, h181, H⟩ := of_bnd H
                obtain ⟨g182, H⟩ := of_gd H
                refine F_appE (E := (Eint .u8)) (xs := l161) (ys := [z169]) (i := 1) rfl rfl rfl rfl Try.underlying59 info5 rfl (by decide) (by decide) rfl rfl HS174 rfl (HS174.cells_own (i := 2) rfl) h181 g182 (fun w178 A183 c184 HS179 => ?_)
                have HS179 : Hp S0 w0 w178 [.box g_w_0 [.slice A159 l161.length c160] 100, .own A183 c184 (rowC (Eint .u8) l180) 5 (Eint .u8).sz, .own A175 c176 (rowC (Eint .u8) [z169]) 5 (Eint .u8).sz] := HS179
                refine F_val rfl rfl rfl (O_nilCheck rfl rfl) ?_
                refine F_val rfl rfl rfl (O_fieldB rfl rfl field100_0) ?_
                refine F_stB 0 ([.slice A183 l180.length c184]) rfl rfl rfl rfl rfl size59 HS179 rfl rfl rfl rfl rfl (fun w185 HS186 => ?_)
                have HS186 : Hp S0 w0 w185 [.box g_w_0 [.slice A183 l180.length c184] 100, .own A183 c184 (rowC (Eint .u8) l180) 5 (Eint .u8).sz, .own A175 c176 (rowC (Eint .u8) [z169]) 5 (Eint .u8).sz] := HS186
                refine F_nil ?_
                refine L_endB hN166 ?_
                refine L_region ?_
                refine F_val rfl rfl rfl (O_move rfl rfl) ?_
                refine F_val rfl rfl rfl (O_add rfl rfl rfl) ?_
                obtain ⟨x187, h188, H⟩ := of_bnd H
                refine F_val rfl rfl rfl (O_assign' rfl rfl (congrArg (Value.int .i64) h188)) ?_
                refine F_nil ?_
                refine L_nil (fun a ha => hNp158 _ a _ (Nat.lt_succ_self _) ⟨_, _, _, _, Is.cons ha (Is.cons ha (Is.cons ha (Is.cons ha (Is.nil ha) rfl) rfl) rfl) rfl, HS186.sel [0, 1] rfl, H⟩)
              · have H := of_neg H c165
                refine L_exitB (fun a w h => hOp158 (.exit 0) a w rfl (hXb105 a w h)) ?_
                refine L_nil (fun a ha => hNj17 a _ ⟨_, _, _, (Option.some.inj H).symm, Is.nil ha, HS164.sel [0, 1] rfl⟩)
          · obtain ⟨l104, A102, c103, ej, ha, HS190⟩ := hR
            obtain rfl := ej.symm
            refine wpLF_app ?_ ha
            refine L_seq ?_
            refine L_region ?_
            refine F_val rfl rfl rfl (O_assign rfl rfl) ?_
            refine F_nil ?_
            refine L_ret (fun a ha => (post_ret1 ha rfl rfl ?_))
            obtain rfl := Option.some.inj H
            exact ⟨_, _, rfl, HS190.sel [0, 1] rfl⟩

/-! function 38: (*valise/code.Encoder).Len -/
theorem code_Encoder_Len.calls {S0 : Nat → Prop} {w0 : World} {g_e_0 : Nat} {A_e_0_table_lens : Option Addr} {c_e_0_table_lens : Nat} {A_e_0_table_words : Option Addr} {c_e_0_table_words : Nat} {e_0_table_lens : List Int} {e_0_table_words : List Int} {e_0_table_counts : List Int} {e_0_table_first : List Int} {symbol_1 : Int} {r : Int} (HS0 : Hp S0 w0 w0 [.rd (some ⟨g_e_0, 0, none⟩) (([.slice A_e_0_table_lens e_0_table_lens.length c_e_0_table_lens, .slice A_e_0_table_words e_0_table_words.length c_e_0_table_words] : List Value) ++ rowC (Eint .i64) e_0_table_counts ++ rowC (Eint .i64) e_0_table_first), .rd A_e_0_table_lens (rowC (Eint .i64) e_0_table_lens), .rd A_e_0_table_words (rowC (Eint .i64) e_0_table_words)]) (h : code_Encoder_Len.f e_0_table_lens e_0_table_words e_0_table_counts e_0_table_first symbol_1 = some r) :
    Calls Try.prog 38 ([.pointer (some ⟨g_e_0, 0, none⟩), .int .i64 symbol_1] : List Value).toArray w0 (fun e w => e = .returned (.int .i64 r) ∧ Hp S0 w0 w []) := by
  have H : ((if (symbol_1 < 0) ∨ ((e_0_table_lens.length : Int) ≤ symbol_1) then (some 0) else (gd ((0 : Int) ≤ symbol_1 ∧ symbol_1 < (e_0_table_lens.length : Int)) (some (rd e_0_table_lens symbol_1)))) : Option (Int)) = some r := h
  refine calls_start Try.func38 rfl rfl ?_
  refine L_seq ?_
  refine L_region ?_
  refine F_val rfl rfl rfl (O_assign rfl rfl) ?_
  refine F_nil ?_
  refine L_seq ?_
  refine L_seq ?_
  refine L_region ?_
  refine F_val rfl rfl rfl (O_move rfl rfl) ?_
  refine F_val rfl rfl rfl (O_peq rfl rfl rfl Try.underlying41) ?_
  refine F_val rfl rfl rfl (O_move rfl rfl) ?_
  refine F_gval rfl rfl rfl rfl rfl rfl (O_move rfl rfl) ?_
  refine F_gval rfl rfl rfl rfl rfl rfl (O_lt rfl rfl rfl) ?_
  refine F_val rfl rfl rfl (O_pickF rfl rfl rfl) ?_
  refine F_val rfl rfl rfl (O_move rfl rfl) ?_
  refine F_grp 9 [(20, .bool (decide ((symbol_1 < 0) ∨ ((e_0_table_lens.length : Int) ≤ symbol_1)))), (0, .pointer (some ⟨g_e_0, 0, none⟩)), (1, .int .i64 symbol_1)] ?_ ?_
  · rcases Decidable.em (symbol_1 < 0) with c4 | c4
    · refine F_know (i := 11) rfl (dec_t c4) ?_
      refine F_gskip rfl rfl rfl rfl rfl rfl rfl ?_
      refine F_gskip rfl rfl rfl rfl rfl rfl rfl ?_
      refine F_gskip rfl rfl rfl rfl rfl rfl rfl ?_
      refine F_gskip rfl rfl rfl rfl rfl rfl rfl ?_
      refine F_gskip rfl rfl rfl rfl rfl rfl rfl ?_
      refine F_gskip rfl rfl rfl rfl rfl rfl rfl ?_
      refine F_gskip rfl rfl rfl rfl rfl rfl rfl ?_
      refine F_gskip rfl rfl rfl rfl rfl rfl rfl ?_
      refine F_val rfl rfl rfl (O_pickT rfl rfl rfl) ?_
      refine F_know (i := 20) rfl (dec_or_t (q := (e_0_table_lens.length : Int) ≤ symbol_1) c4) ?_
      exact F_grpE (fun a ha => Is.cons ha (Is.cons ha (Is.cons ha (Is.nil ha) rfl) rfl) rfl)
    · refine F_know (i := 11) rfl (dec_f c4) ?_
      refine F_gval rfl rfl rfl rfl rfl rfl (O_move rfl rfl) ?_
      refine F_gval rfl rfl rfl rfl rfl rfl (O_move rfl rfl) ?_
      refine F_gval rfl rfl rfl rfl rfl rfl (O_nilCheck rfl rfl) ?_
      refine F_gval rfl rfl rfl rfl rfl rfl (O_fieldB rfl rfl field94_0) ?_
      refine F_gval rfl rfl rfl rfl rfl rfl (O_fieldB rfl rfl field91_0) ?_
      refine F_gval rfl rfl rfl rfl rfl rfl (O_loadB rfl rfl flat22 (HS0.cells_rd (i := 0) rfl) (cell_seg (j := 0) [] [.slice A_e_0_table_lens e_0_table_lens.length c_e_0_table_lens] (([.slice A_e_0_table_words e_0_table_words.length c_e_0_table_words] : List Value) ++ rowC (Eint .i64) e_0_table_counts ++ rowC (Eint .i64) e_0_table_first) (by simp only [List.append_assoc, List.cons_append, List.nil_append, List.append_nil]) rfl rfl)) ?_
      refine F_gval rfl rfl rfl rfl rfl rfl (O_len rfl rfl Try.underlying22) ?_
      refine F_gval rfl rfl rfl rfl rfl rfl (O_ge rfl rfl rfl) ?_
      refine F_val rfl rfl rfl (O_pickF rfl rfl rfl) ?_
      refine F_know (i := 20) rfl (dec_or_f (q := (e_0_table_lens.length : Int) ≤ symbol_1) c4) ?_
      exact F_grpE (fun a ha => Is.cons ha (Is.cons ha (Is.cons ha (Is.nil ha) rfl) rfl) rfl)
  · skip
    refine F_nil ?_
    refine L_condP rfl (fun c5 => ?_) (fun c5 => ?_)
    · have H := of_pos H c5
      refine L_seq ?_
      refine L_region ?_
      refine F_val rfl rfl rfl (O_assign rfl rfl) ?_
      refine F_nil ?_
      refine L_ret (fun a ha => (post_ret1 ha rfl rfl ?_))
      obtain rfl := Option.some.inj H
      exact ⟨rfl, HS0.sel [] rfl⟩
    · have H := of_neg H c5
      refine L_skip ?_
      refine L_seq ?_
      refine L_region ?_
      refine F_val rfl rfl rfl (O_move rfl rfl) ?_
      refine F_val rfl rfl rfl (O_nilCheck rfl rfl) ?_
      refine F_val rfl rfl rfl (O_fieldB rfl rfl field94_0) ?_
      refine F_val rfl rfl rfl (O_fieldB rfl rfl field91_0) ?_
      refine F_val rfl rfl rfl (O_loadB rfl rfl flat22 (HS0.cells_rd (i := 0) rfl) (cell_seg (j := 0) [] [.slice A_e_0_table_lens e_0_table_lens.length c_e_0_table_lens] (([.slice A_e_0_table_words e_0_table_words.length c_e_0_table_words] : List Value) ++ rowC (Eint .i64) e_0_table_counts ++ rowC (Eint .i64) e_0_table_first) (by simp only [List.append_assoc, List.cons_append, List.nil_append, List.append_nil]) rfl rfl)) ?_
      refine F_val rfl rfl rfl (O_move rfl rfl) ?_
      obtain ⟨⟨g6, g7⟩, H⟩ := of_gd H
      refine F_val rfl rfl rfl (O_idx rfl rfl rfl Try.underlying22 size3 g6 g7 (Cells.isA (HS0.cells_rd (i := 1) rfl) (rowC_ne (E := (Eint .i64)) g6 g7 (by decide)))) ?_
      refine F_val rfl rfl rfl (O_loadC rfl rfl flat3 (HS0.cells_rd (i := 1) rfl) (int_cell g6 g7)) ?_
      refine F_val rfl rfl rfl (O_assign rfl rfl) ?_
      refine F_nil ?_
      refine L_ret (fun a ha => (post_ret1 ha rfl rfl ?_))
      obtain rfl := Option.some.inj H
      exact ⟨rfl, HS0.sel [] rfl⟩

/-! function 69: valise/bits.Reverse -/
theorem bits_Reverse.calls {S0 : Nat → Prop} {w0 : World} {v_0 : Int} {n_1 : Int} {r : Int × Int} (HS0 : Hp S0 w0 w0 []) (h : bits_Reverse.f v_0 n_1 = some r) :
    Calls Try.prog 69 ([.int .u32 v_0, .int .i64 n_1] : List Value).toArray w0 (fun e w => e = .returned (.tuple #[.int .u32 r.1, .int .i64 r.2]) ∧ Hp S0 w0 w []) := by
  have H : (((if (n_1 < 0) ∨ (32 < n_1) then (some true) else (gd (¬ (IntKind.u64.wrap n_1) < 0) (some (decide (shr .u64 (IntKind.u64.wrap v_0) (IntKind.u64.wrap n_1) ≠ 0))))).bind fun b6 => if b6 = true then (some (0, 1)) else ((bits_Reverse.l1 FU v_0 0 0 n_1).bind fun out_42 => some (out_42, 0))) : Option (Int × Int)) = some r := h
  refine calls_start Try.func69 rfl rfl ?_
  refine L_seq ?_
  refine L_region ?_
  refine F_val rfl rfl rfl (O_assign rfl rfl) ?_
  refine F_val rfl rfl rfl (O_assign rfl rfl) ?_
  refine F_nil ?_
  refine L_seq ?_
  refine L_seq ?_
  refine L_region ?_
  refine F_val rfl rfl rfl (O_move rfl rfl) ?_
  refine F_val rfl rfl rfl (O_lt rfl rfl rfl) ?_
  refine F_val rfl rfl rfl (O_move rfl rfl) ?_
  refine F_grp 3 [(12, .bool (decide ((n_1 < 0) ∨ (32 < n_1)))), (0, .int .u32 v_0), (1, .int .i64 n_1)] ?_ ?_
  · rcases Decidable.em (n_1 < 0) with c4 | c4
    · refine F_know (i := 9) rfl (dec_t c4) ?_
      refine F_gskip rfl rfl rfl rfl rfl rfl rfl ?_
      refine F_gskip rfl rfl rfl rfl rfl rfl rfl ?_
      refine F_val rfl rfl rfl (O_pickT rfl rfl rfl) ?_
      refine F_know (i := 12) rfl (dec_or_t (q := 32 < n_1) c4) ?_
      exact F_grpE (fun a ha => Is.cons ha (Is.cons ha (Is.cons ha (Is.nil ha) rfl) rfl) rfl)
    · refine F_know (i := 9) rfl (dec_f c4) ?_
      refine F_gval rfl rfl rfl rfl rfl rfl (O_move rfl rfl) ?_
      refine F_gval rfl rfl rfl rfl rfl rfl (O_gt rfl rfl rfl) ?_
      refine F_val rfl rfl rfl (O_pickF rfl rfl rfl) ?_
      refine F_know (i := 12) rfl (dec_or_f (q := 32 < n_1) c4) ?_
      exact F_grpE (fun a ha => Is.cons ha (Is.cons ha (Is.cons ha (Is.nil ha) rfl) rfl) rfl)
  · skip
    refine F_val rfl rfl rfl (O_move rfl rfl) ?_
    obtain ⟨b6, Hb6, H⟩ := of_bind H
    refine F_grp 7 [(20, .bool b6), (0, .int .u32 v_0), (1, .int .i64 n_1)] ?_ ?_
    · rcases Decidable.em ((n_1 < 0) ∨ (32 < n_1)) with c10 | c10
      · refine F_know (i := 13) rfl (dec_t c10) ?_
        have H := of_pos Hb6 c10
        refine F_gskip rfl rfl rfl rfl rfl rfl rfl ?_
        refine F_gskip rfl rfl rfl rfl rfl rfl rfl ?_
        refine F_gskip rfl rfl rfl rfl rfl rfl rfl ?_
        refine F_gskip rfl rfl rfl rfl rfl rfl rfl ?_
        refine F_gskip rfl rfl rfl rfl rfl rfl rfl ?_
        refine F_gskip rfl rfl rfl rfl rfl rfl rfl ?_
        refine F_val rfl rfl rfl (O_pickT rfl rfl rfl) ?_
        refine F_know (i := 20) rfl (congrArg Value.bool (Option.some.inj H)) ?_
        exact F_grpE (fun a ha => Is.cons ha (Is.cons ha (Is.cons ha (Is.nil ha) rfl) rfl) rfl)
      · refine F_know (i := 13) rfl (dec_f c10) ?_
        have H := of_neg Hb6 c10
        refine F_gval rfl rfl rfl rfl rfl rfl (O_move rfl rfl) ?_
        refine F_gval rfl rfl rfl rfl rfl rfl (O_conv rfl rfl ⟨_, Try.underlying52⟩ Try.underlying101) ?_
        refine F_gval rfl rfl rfl rfl rfl rfl (O_move rfl rfl) ?_
        refine F_gval rfl rfl rfl rfl rfl rfl (O_conv rfl rfl ⟨_, Try.underlying3⟩ Try.underlying39) ?_
        obtain ⟨g11, H⟩ := of_gd H
        refine F_gval rfl rfl rfl rfl rfl rfl (O_shr rfl rfl rfl g11) ?_
        refine F_gval rfl rfl rfl rfl rfl rfl (O_ne rfl rfl rfl) ?_
        refine F_val rfl rfl rfl (O_pickF rfl rfl rfl) ?_
        refine F_know (i := 20) rfl (congrArg Value.bool (Option.some.inj H)) ?_
        exact F_grpE (fun a ha => Is.cons ha (Is.cons ha (Is.cons ha (Is.nil ha) rfl) rfl) rfl)
    · skip
      refine F_nil ?_
      refine L_cond rfl (fun c12 => ?_) (fun c12 => ?_)
      · have H := of_pos H c12
        refine L_seq ?_
        refine L_region ?_
        refine F_val rfl rfl rfl (O_assign rfl rfl) ?_
        refine F_val rfl rfl rfl (O_assign rfl rfl) ?_
        refine F_nil ?_
        refine L_ret (fun a ha => (post_ret2 ha rfl rfl rfl ?_))
        obtain rfl := Option.some.inj H
        exact ⟨rfl, HS0.sel [] rfl⟩
      · have H := of_neg H (by rw [c12]; exact Bool.false_ne_true)
        refine L_skip ?_
        refine L_seq ?_
        refine L_region ?_
        refine F_val rfl rfl rfl (O_assign rfl rfl) ?_
        refine F_nil ?_
        refine L_seq ?_
        refine L_seq ?_
        refine L_region ?_
        refine F_val rfl rfl rfl (O_move rfl rfl) ?_
        refine F_val rfl rfl rfl (O_move rfl rfl) ?_
        refine F_nil ?_
        obtain ⟨yj13, Hyj13, H⟩ := of_bind H
        refine L_join (fun a w => ∃ (out_42 : Int), yj13 = out_42 ∧ Is Try.f69.ntmps a [(6, .int .u32 out_42)] ∧ Hp S0 w0 w []) (fun Qj13 hNj13 hOj13 => ?_) (fun a w hR => ?_)
        · skip
          have H := Hyj13
          refine L_blk (fun Qb43 hNb43 hXb43 hOb43 => ?_)
          refine L_lp (fun k a w => ∃ (v_60 : Int), ∃ (out_61 : Int), ∃ (t62 : Int), Is Try.f69.ntmps a [(0, .int .u32 v_60), (6, .int .u32 out_61), (21, .int .i64 n_1), (22, .int .i64 t62)] ∧ Hp S0 w0 w [] ∧ bits_Reverse.l1 k v_60 out_61 t62 n_1 = some yj13) FU (fun a ha => ⟨_, _, _, Is.cons ha (Is.cons ha (Is.cons ha (Is.cons ha (Is.nil ha) rfl) rfl) rfl) rfl, HS0.sel [] rfl, H⟩) (fun kp59 a w63 hI Qp59 hNp59 hOp59 => ?_)
          obtain ⟨v_60, out_61, t62, ha, HS64, HAp59⟩ := hI
          cases kp59 with
          | zero => cases (show (none : Option _) = some _ from HAp59)
          | succ kp59 =>
            have H := (bits_Reverse.l1.eq_2 ..).symm.trans HAp59
            refine wpLF_app ?_ ha
            refine L_seq ?_
            refine L_region ?_
            refine F_val rfl rfl rfl (O_lt rfl rfl rfl) ?_
            refine F_nil ?_
            refine L_seq ?_
            refine L_condP rfl (fun c65 => ?_) (fun c65 => ?_)
            · have H := of_pos H c65
              refine L_skip ?_
              refine L_seq ?_
              refine L_blk (fun Q66 hN66 hX66 hO66 => ?_)
              refine L_seq ?_
              refine L_region ?_
              refine F_val rfl rfl rfl (O_move rfl rfl) ?_
              refine F_val rfl rfl rfl (O_shl rfl rfl rfl (by decide)) ?_
              refine F_val rfl rfl rfl (O_move rfl rfl) ?_
              refine F_val rfl rfl rfl (O_and rfl rfl rfl) ?_
              refine F_val rfl rfl rfl (O_or rfl rfl rfl) ?_
              obtain ⟨x67, h68, H⟩ := of_bnd H
              refine F_val rfl rfl rfl (O_assign' rfl rfl (congrArg (Value.int .u32) h68)) ?_
              refine F_nil ?_
              refine L_region ?_
              refine F_val rfl rfl rfl (O_move rfl rfl) ?_
              refine F_val rfl rfl rfl (O_shr rfl rfl rfl (by decide)) ?_
              obtain ⟨x69, h70, H⟩ := of_bnd H
              refine F_val rfl rfl rfl (O_assign' rfl rfl (congrArg (Value.int .u32) h70)) ?_
              refine F_nil ?_
              refine L_endB hN66 ?_
              refine L_region ?_
              refine F_val rfl rfl rfl (O_add rfl rfl rfl) ?_
              refine F_val rfl rfl rfl (O_move rfl rfl) ?_
              refine F_nil ?_
              refine L_nil (fun a ha => hNp59 _ a _ (Nat.lt_succ_self _) ⟨_, _, _, Is.cons ha (Is.cons ha (Is.cons ha (Is.cons ha (Is.nil ha) rfl) rfl) rfl) rfl, HS64.sel [] rfl, H⟩)
            · have H := of_neg H c65
              refine L_exitB (fun a w h => hOp59 (.exit 0) a w rfl (hXb43 a w h)) ?_
              refine L_nil (fun a ha => hNj13 a _ ⟨_, (Option.some.inj H).symm, Is.cons ha (Is.nil ha) rfl, HS64.sel [] rfl⟩)
        · obtain ⟨out_42, ej, ha, HS72⟩ := hR
          obtain rfl := ej.symm
          refine wpLF_app ?_ ha
          refine L_seq ?_
          refine L_region ?_
          refine F_val rfl rfl rfl (O_move rfl rfl) ?_
          refine F_val rfl rfl rfl (O_assign rfl rfl) ?_
          refine F_val rfl rfl rfl (O_assign rfl rfl) ?_
          refine F_nil ?_
          refine L_ret (fun a ha => (post_ret2 ha rfl rfl rfl ?_))
          obtain rfl := Option.some.inj H
          exact ⟨rfl, HS72.sel [] rfl⟩

/-! function 36: (*valise/code.Encoder).Put -/
theorem code_Encoder_Put.calls {S0 : Nat → Prop} {w0 : World} {g_e_0 : Nat} {A_e_0_table_lens : Option Addr} {c_e_0_table_lens : Nat} {A_e_0_table_words : Option Addr} {c_e_0_table_words : Nat} {g_w_1 : Nat} {A_w_1_bytes : Option Addr} {c_w_1_bytes : Nat} {e_0_table_lens : List Int} {e_0_table_words : List Int} {e_0_table_counts : List Int} {e_0_table_first : List Int} {w_1_bytes : List Int} {w_1_count : Int} {symbol_2 : Int} {r : Int × List Int × Int} (HS0 : Hp S0 w0 w0 [.box g_w_1 [.slice A_w_1_bytes w_1_bytes.length c_w_1_bytes, .int .i64 w_1_count] 98, .own A_w_1_bytes c_w_1_bytes (rowC (Eint .u8) w_1_bytes) 5 (Eint .u8).sz, .rd (some ⟨g_e_0, 0, none⟩) (([.slice A_e_0_table_lens e_0_table_lens.length c_e_0_table_lens, .slice A_e_0_table_words e_0_table_words.length c_e_0_table_words] : List Value) ++ rowC (Eint .i64) e_0_table_counts ++ rowC (Eint .i64) e_0_table_first), .rd A_e_0_table_lens (rowC (Eint .i64) e_0_table_lens), .rd A_e_0_table_words (rowC (Eint .i64) e_0_table_words)]) (h : code_Encoder_Put.f e_0_table_lens e_0_table_words e_0_table_counts e_0_table_first w_1_bytes w_1_count symbol_2 = some r) :
    Calls Try.prog 36 ([.pointer (some ⟨g_e_0, 0, none⟩), .pointer (some ⟨g_w_1, 0, none⟩), .int .i64 symbol_2] : List Value).toArray w0 (fun e w => ∃ (A_w_1_bytes' : Option Addr), ∃ (c_w_1_bytes' : Nat), e = .returned (.int .i64 r.1) ∧ Hp S0 w0 w [.box g_w_1 [.slice A_w_1_bytes' r.2.1.length c_w_1_bytes', .int .i64 r.2.2] 98, .own A_w_1_bytes' c_w_1_bytes' (rowC (Eint .u8) r.2.1) 5 (Eint .u8).sz]) := by
  have H : (((code_Encoder_Len.f e_0_table_lens e_0_table_words e_0_table_counts e_0_table_first symbol_2).bind fun z3 => if z3 = 0 then (some (56, w_1_bytes, w_1_count)) else (gd ((0 : Int) ≤ symbol_2 ∧ symbol_2 < (e_0_table_words.length : Int)) ((bits_Reverse.f (IntKind.u32.wrap (rd e_0_table_words symbol_2)) z3).bind fun (z12, z13) => if z13 ≠ 0 then (some (z13, w_1_bytes, w_1_count)) else ((bits_Writer_Put.f w_1_bytes w_1_count z12 z3).bind fun (z22, z23, z24) => some (z22, z23, z24))))) : Option (Int × List Int × Int)) = some r := h
  refine calls_start Try.func36 rfl rfl ?_
  refine L_seq ?_
  refine L_region ?_
  refine F_val rfl rfl rfl (O_assign rfl rfl) ?_
  refine F_nil ?_
  refine L_seq ?_
  refine L_seq ?_
  refine L_region ?_
  refine F_val rfl rfl rfl (O_move rfl rfl) ?_
  refine F_val rfl rfl rfl (O_peq rfl rfl rfl Try.underlying41) ?_
  refine F_val rfl rfl rfl (O_move rfl rfl) ?_
  refine F_gval rfl rfl rfl rfl rfl rfl (O_move rfl rfl) ?_
  refine F_gval rfl rfl rfl rfl rfl rfl (O_peq rfl rfl rfl Try.underlying47) ?_
  refine F_val rfl rfl rfl (O_pickF rfl rfl rfl) ?_
  refine F_nil ?_
  refine L_cond rfl (fun hx => by cases hx) (fun _ => ?_)
  refine L_skip ?_
  refine L_seq ?_
  refine L_region ?_
  refine F_val rfl rfl rfl (O_move rfl rfl) ?_
  refine F_val rfl rfl rfl (O_move rfl rfl) ?_
  obtain ⟨z3, h2, H⟩ := of_bind H
  refine F_qcall (v := .int .i64 z3) (xs := [.tmp 16, .tmp 17]) rfl rfl rfl rfl Try.func38 nm38 rfl rfl ((code_Encoder_Len.calls (HS0.give [] rfl (Lent.rd HS0 (Lent.rd HS0 (Lent.rd HS0 (Lent.nil) (i := 4) rfl ((HS0.cells_rd (i := 4) rfl).self)) (i := 3) rfl ((HS0.cells_rd (i := 3) rfl).self)) (i := 2) rfl (HS0.cells_rd (i := 2) rfl).self)) h2).mono (fun e w hc => ?_)) (fun w4 hw5 => ?_)
  · obtain ⟨rfl, h⟩ := hc
    exact ⟨rfl, h.chg0⟩
  have HS6 := HS0.keep hw5
  refine F_val rfl rfl rfl (O_assign rfl rfl) ?_
  refine F_nil ?_
  refine L_seq ?_
  refine L_seq ?_
  refine L_region ?_
  refine F_val rfl rfl rfl (O_move rfl rfl) ?_
  refine F_val rfl rfl rfl (O_eq rfl rfl rfl) ?_
  refine F_nil ?_
  refine L_condP rfl (fun c7 => ?_) (fun c7 => ?_)
  · have H := of_pos H c7
    refine L_seq ?_
    refine L_region ?_
    refine F_val rfl rfl rfl (O_assign rfl rfl) ?_
    refine F_nil ?_
    refine L_ret (fun a ha => (post_ret1 ha rfl rfl ?_))
    obtain rfl := Option.some.inj H
    exact ⟨_, _, rfl, HS6.sel [0, 1] rfl⟩
  · have H := of_neg H c7
    refine L_skip ?_
    refine L_seq ?_
    refine L_region ?_
    refine F_val rfl rfl rfl (O_move rfl rfl) ?_
    refine F_val rfl rfl rfl (O_nilCheck rfl rfl) ?_
    refine F_val rfl rfl rfl (O_fieldB rfl rfl field94_0) ?_
    refine F_val rfl rfl rfl (O_fieldB rfl rfl field91_1) ?_
    refine F_val rfl rfl rfl (O_loadB rfl rfl flat22 (HS6.cells_rd (i := 2) rfl) (cell_seg (j := 0) [.slice A_e_0_table_lens e_0_table_lens.length c_e_0_table_lens] [.slice A_e_0_table_words e_0_table_words.length c_e_0_table_words] (rowC (Eint .i64) e_0_table_counts ++ rowC (Eint .i64) e_0_table_first) (by simp only [List.append_assoc, List.cons_append, List.nil_append, List.append_nil]) rfl rfl)) ?_
    refine F_val rfl rfl rfl (O_move rfl rfl) ?_
    obtain ⟨⟨g8, g9⟩, H⟩ := of_gd H
    refine F_val rfl rfl rfl (O_idx rfl rfl rfl Try.underlying22 size3 g8 g9 (Cells.isA (HS6.cells_rd (i := 4) rfl) (rowC_ne (E := (Eint .i64)) g8 g9 (by decide)))) ?_
    refine F_val rfl rfl rfl (O_loadC rfl rfl flat3 (HS6.cells_rd (i := 4) rfl) (int_cell g8 g9)) ?_
    refine F_val rfl rfl rfl (O_conv rfl rfl ⟨_, Try.underlying3⟩ Try.underlying52) ?_
    refine F_val rfl rfl rfl (O_move rfl rfl) ?_
    obtain ⟨⟨z12, z13⟩, h11, H⟩ := of_bind H
    refine F_qcall (v := .tuple #[.int .u32 z12, .int .i64 z13]) (xs := [.tmp 30, .tmp 31]) rfl rfl rfl rfl Try.func69 nm69 rfl rfl ((bits_Reverse.calls (HS6.give [] rfl (Lent.nil)) h11).mono (fun e w hc => ?_)) (fun w14 hw15 => ?_)
    · obtain ⟨rfl, h⟩ := hc
      exact ⟨rfl, h.chg0⟩
    have HS16 := HS6.keep hw15
    refine F_val rfl rfl rfl (O_move rfl rfl) ?_
    refine F_val rfl rfl rfl (O_extract (v := .int .u32 z12) rfl rfl rfl) ?_
    refine F_val rfl rfl rfl (O_extract (v := .int .i64 z13) rfl rfl rfl) ?_
    refine F_val rfl rfl rfl (O_assign rfl rfl) ?_
    refine F_val rfl rfl rfl (O_assign rfl rfl) ?_
    refine F_nil ?_
    refine L_seq ?_
    refine L_seq ?_
    refine L_region ?_
    refine F_val rfl rfl rfl (O_move rfl rfl) ?_
    refine F_val rfl rfl rfl (O_ne rfl rfl rfl) ?_
    refine F_nil ?_
    refine L_condP rfl (fun c17 => ?_) (fun c17 => ?_)
    · have H := of_pos H c17
      refine L_seq ?_
      refine L_region ?_
      refine F_val rfl rfl rfl (O_move rfl rfl) ?_
      refine F_val rfl rfl rfl (O_assign rfl rfl) ?_
      refine F_nil ?_
      refine L_ret (fun a ha => (post_ret1 ha rfl rfl ?_))
      obtain rfl := Option.some.inj H
      exact ⟨_, _, rfl, HS16.sel [0, 1] rfl⟩
    · have H := of_neg H c17
      refine L_skip ?_
      refine L_seq ?_
      refine L_region ?_
      refine F_val rfl rfl rfl (O_move rfl rfl) ?_
      refine F_val rfl rfl rfl (O_move rfl rfl) ?_
      refine F_val rfl rfl rfl (O_move rfl rfl) ?_
      obtain ⟨⟨z22, z23, z24⟩, h21, H⟩ := of_bind H
      refine F_call (xs := [.tmp 38, .tmp 39, .tmp 40]) rfl rfl rfl rfl Try.func34 nm34 rfl rfl ((bits_Writer_Put.calls (HS16.give [0, 1] rfl (Lent.nil)) h21).mono (fun e w hc => ?_))
      obtain ⟨A27, c28, rfl, HSo⟩ := hc
      refine ⟨.int .i64 z22, rfl, ?_⟩
      have HS26 : Hp S0 w0 w [.box g_w_1 [.slice A27 z23.length c28, .int .i64 z24] 98, .own A27 c28 (rowC (Eint .u8) z23) 5 (Eint .u8).sz, .rd (some ⟨g_e_0, 0, none⟩) (([.slice A_e_0_table_lens e_0_table_lens.length c_e_0_table_lens, .slice A_e_0_table_words e_0_table_words.length c_e_0_table_words] : List Value) ++ rowC (Eint .i64) e_0_table_counts ++ rowC (Eint .i64) e_0_table_first), .rd A_e_0_table_lens (rowC (Eint .i64) e_0_table_lens), .rd A_e_0_table_words (rowC (Eint .i64) e_0_table_words)] := (HS16.back [0, 1] HSo rfl).sel [5, 6, 2, 3, 4] rfl
      refine F_val rfl rfl rfl (O_assign rfl rfl) ?_
      refine F_nil ?_
      refine L_ret (fun a ha => (post_ret1 ha rfl rfl ?_))
      obtain rfl := Option.some.inj H
      exact ⟨_, _, rfl, HS26.sel [0, 1] rfl⟩

/-! function 39: (*valise/valiseref5.Encoder).Len -/
theorem valiseref5_Encoder_Len.calls {S0 : Nat → Prop} {w0 : World} {g_x_0 : Nat} {A_x_0_Lens : Option Addr} {c_x_0_Lens : Nat} {A_x_0_Words : Option Addr} {c_x_0_Words : Nat} {x_0_Lens : List Int} {x_0_Words : List Int} {symbol_1 : Int} {r : Int} (HS0 : Hp S0 w0 w0 [.rd (some ⟨g_x_0, 0, none⟩) [.slice A_x_0_Lens x_0_Lens.length c_x_0_Lens, .slice A_x_0_Words x_0_Words.length c_x_0_Words], .rd A_x_0_Lens (rowC (Eint .i64) x_0_Lens), .rd A_x_0_Words (rowC (Eint .i64) x_0_Words)]) (h : valiseref5_Encoder_Len.f x_0_Lens x_0_Words symbol_1 = some r) :
    Calls Try.prog 39 ([.pointer (some ⟨g_x_0, 0, none⟩), .int .i64 symbol_1] : List Value).toArray w0 (fun e w => e = .returned (.int .i64 r) ∧ Hp S0 w0 w []) := by
  have H : ((if (symbol_1 < 0) ∨ ((x_0_Lens.length : Int) ≤ symbol_1) then (some 0) else (gd ((0 : Int) ≤ symbol_1 ∧ symbol_1 < (x_0_Lens.length : Int)) (some (rd x_0_Lens symbol_1)))) : Option (Int)) = some r := h
  refine calls_start Try.func39 rfl rfl ?_
  refine L_seq ?_
  refine L_region ?_
  refine F_val rfl rfl rfl (O_assign rfl rfl) ?_
  refine F_nil ?_
  refine L_seq ?_
  refine L_seq ?_
  refine L_region ?_
  refine F_val rfl rfl rfl (O_move rfl rfl) ?_
  refine F_val rfl rfl rfl (O_peq rfl rfl rfl Try.underlying44) ?_
  refine F_val rfl rfl rfl (O_move rfl rfl) ?_
  refine F_gval rfl rfl rfl rfl rfl rfl (O_move rfl rfl) ?_
  refine F_gval rfl rfl rfl rfl rfl rfl (O_lt rfl rfl rfl) ?_
  refine F_val rfl rfl rfl (O_pickF rfl rfl rfl) ?_
  refine F_val rfl rfl rfl (O_move rfl rfl) ?_
  refine F_grp 8 [(19, .bool (decide ((symbol_1 < 0) ∨ ((x_0_Lens.length : Int) ≤ symbol_1)))), (0, .pointer (some ⟨g_x_0, 0, none⟩)), (1, .int .i64 symbol_1)] ?_ ?_
  · rcases Decidable.em (symbol_1 < 0) with c4 | c4
    · refine F_know (i := 11) rfl (dec_t c4) ?_
      refine F_gskip rfl rfl rfl rfl rfl rfl rfl ?_
      refine F_gskip rfl rfl rfl rfl rfl rfl rfl ?_
      refine F_gskip rfl rfl rfl rfl rfl rfl rfl ?_
      refine F_gskip rfl rfl rfl rfl rfl rfl rfl ?_
      refine F_gskip rfl rfl rfl rfl rfl rfl rfl ?_
      refine F_gskip rfl rfl rfl rfl rfl rfl rfl ?_
      refine F_gskip rfl rfl rfl rfl rfl rfl rfl ?_
      refine F_val rfl rfl rfl (O_pickT rfl rfl rfl) ?_
      refine F_know (i := 19) rfl (dec_or_t (q := (x_0_Lens.length : Int) ≤ symbol_1) c4) ?_
      exact F_grpE (fun a ha => Is.cons ha (Is.cons ha (Is.cons ha (Is.nil ha) rfl) rfl) rfl)
    · refine F_know (i := 11) rfl (dec_f c4) ?_
      refine F_gval rfl rfl rfl rfl rfl rfl (O_move rfl rfl) ?_
      refine F_gval rfl rfl rfl rfl rfl rfl (O_move rfl rfl) ?_
      refine F_gval rfl rfl rfl rfl rfl rfl (O_nilCheck rfl rfl) ?_
      refine F_gval rfl rfl rfl rfl rfl rfl (O_fieldB rfl rfl field96_0) ?_
      refine F_gval rfl rfl rfl rfl rfl rfl (O_loadB rfl rfl flat22 (HS0.cells_rd (i := 0) rfl) rfl) ?_
      refine F_gval rfl rfl rfl rfl rfl rfl (O_len rfl rfl Try.underlying22) ?_
      refine F_gval rfl rfl rfl rfl rfl rfl (O_ge rfl rfl rfl) ?_
      refine F_val rfl rfl rfl (O_pickF rfl rfl rfl) ?_
      refine F_know (i := 19) rfl (dec_or_f (q := (x_0_Lens.length : Int) ≤ symbol_1) c4) ?_
      exact F_grpE (fun a ha => Is.cons ha (Is.cons ha (Is.cons ha (Is.nil ha) rfl) rfl) rfl)
  · skip
    refine F_nil ?_
    refine L_condP rfl (fun c5 => ?_) (fun c5 => ?_)
    · have H := of_pos H c5
      refine L_seq ?_
      refine L_region ?_
      refine F_val rfl rfl rfl (O_assign rfl rfl) ?_
      refine F_nil ?_
      refine L_ret (fun a ha => (post_ret1 ha rfl rfl ?_))
      obtain rfl := Option.some.inj H
      exact ⟨rfl, HS0.sel [] rfl⟩
    · have H := of_neg H c5
      refine L_skip ?_
      refine L_seq ?_
      refine L_region ?_
      refine F_val rfl rfl rfl (O_move rfl rfl) ?_
      refine F_val rfl rfl rfl (O_nilCheck rfl rfl) ?_
      refine F_val rfl rfl rfl (O_fieldB rfl rfl field96_0) ?_
      refine F_val rfl rfl rfl (O_loadB rfl rfl flat22 (HS0.cells_rd (i := 0) rfl) rfl) ?_
      refine F_val rfl rfl rfl (O_move rfl rfl) ?_
      obtain ⟨⟨g6, g7⟩, H⟩ := of_gd H
      refine F_val rfl rfl rfl (O_idx rfl rfl rfl Try.underlying22 size3 g6 g7 (Cells.isA (HS0.cells_rd (i := 1) rfl) (rowC_ne (E := (Eint .i64)) g6 g7 (by decide)))) ?_
      refine F_val rfl rfl rfl (O_loadC rfl rfl flat3 (HS0.cells_rd (i := 1) rfl) (int_cell g6 g7)) ?_
      refine F_val rfl rfl rfl (O_assign rfl rfl) ?_
      refine F_nil ?_
      refine L_ret (fun a ha => (post_ret1 ha rfl rfl ?_))
      obtain rfl := Option.some.inj H
      exact ⟨rfl, HS0.sel [] rfl⟩

/-! function 37: (*valise/valiseref5.Encoder).Put -/
theorem valiseref5_Encoder_Put.calls {S0 : Nat → Prop} {w0 : World} {g_x_0 : Nat} {A_x_0_Lens : Option Addr} {c_x_0_Lens : Nat} {A_x_0_Words : Option Addr} {c_x_0_Words : Nat} {g_w_1 : Nat} {A_w_1_Row : Option Addr} {c_w_1_Row : Nat} {x_0_Lens : List Int} {x_0_Words : List Int} {w_1_Row : List Int} {symbol_2 : Int} {r : Int × List Int} (HS0 : Hp S0 w0 w0 [.box g_w_1 [.slice A_w_1_Row w_1_Row.length c_w_1_Row] 100, .own A_w_1_Row c_w_1_Row (rowC (Eint .u8) w_1_Row) 5 (Eint .u8).sz, .rd (some ⟨g_x_0, 0, none⟩) [.slice A_x_0_Lens x_0_Lens.length c_x_0_Lens, .slice A_x_0_Words x_0_Words.length c_x_0_Words], .rd A_x_0_Lens (rowC (Eint .i64) x_0_Lens), .rd A_x_0_Words (rowC (Eint .i64) x_0_Words)]) (h : valiseref5_Encoder_Put.f x_0_Lens x_0_Words w_1_Row symbol_2 = some r) :
    Calls Try.prog 37 ([.pointer (some ⟨g_x_0, 0, none⟩), .pointer (some ⟨g_w_1, 0, none⟩), .int .i64 symbol_2] : List Value).toArray w0 (fun e w => ∃ (A_w_1_Row' : Option Addr), ∃ (c_w_1_Row' : Nat), e = .returned (.int .i64 r.1) ∧ Hp S0 w0 w [.box g_w_1 [.slice A_w_1_Row' r.2.length c_w_1_Row'] 100, .own A_w_1_Row' c_w_1_Row' (rowC (Eint .u8) r.2) 5 (Eint .u8).sz]) := by
  have H : (((valiseref5_Encoder_Len.f x_0_Lens x_0_Words symbol_2).bind fun z3 => if z3 = 0 then (some (56, w_1_Row)) else (gd ((0 : Int) ≤ symbol_2 ∧ symbol_2 < (x_0_Words.length : Int)) (bnd (rd x_0_Words symbol_2) fun x10 => (valiseref5_Encoder_Put.l1 FU 0 x10 0 z3).bind fun row_47 => (valiseref3_Writer_Put.f w_1_Row row_47 z3).bind fun (z88, z89) => some (z88, z89)))) : Option (Int × List Int)) = some r := h
  refine calls_start Try.func37 rfl rfl ?_
  refine L_seq ?_
  refine L_region ?_
  refine F_val rfl rfl rfl (O_assign rfl rfl) ?_
  refine F_nil ?_
  refine L_seq ?_
  refine L_seq ?_
  refine L_region ?_
  refine F_val rfl rfl rfl (O_move rfl rfl) ?_
  refine F_val rfl rfl rfl (O_peq rfl rfl rfl Try.underlying44) ?_
  refine F_val rfl rfl rfl (O_move rfl rfl) ?_
  refine F_gval rfl rfl rfl rfl rfl rfl (O_move rfl rfl) ?_
  refine F_gval rfl rfl rfl rfl rfl rfl (O_peq rfl rfl rfl Try.underlying49) ?_
  refine F_val rfl rfl rfl (O_pickF rfl rfl rfl) ?_
  refine F_nil ?_
  refine L_cond rfl (fun hx => by cases hx) (fun _ => ?_)
  refine L_skip ?_
  refine L_seq ?_
  refine L_region ?_
  refine F_val rfl rfl rfl (O_move rfl rfl) ?_
  refine F_val rfl rfl rfl (O_move rfl rfl) ?_
  obtain ⟨z3, h2, H⟩ := of_bind H
  refine F_qcall (v := .int .i64 z3) (xs := [.tmp 18, .tmp 19]) rfl rfl rfl rfl Try.func39 nm39 rfl rfl ((valiseref5_Encoder_Len.calls (HS0.give [] rfl (Lent.rd HS0 (Lent.rd HS0 (Lent.rd HS0 (Lent.nil) (i := 4) rfl ((HS0.cells_rd (i := 4) rfl).self)) (i := 3) rfl ((HS0.cells_rd (i := 3) rfl).self)) (i := 2) rfl (HS0.cells_rd (i := 2) rfl).self)) h2).mono (fun e w hc => ?_)) (fun w4 hw5 => ?_)
  · obtain ⟨rfl, h⟩ := hc
    exact ⟨rfl, h.chg0⟩
  have HS6 := HS0.keep hw5
  refine F_val rfl rfl rfl (O_assign rfl rfl) ?_
  refine F_nil ?_
  refine L_seq ?_
  refine L_seq ?_
  refine L_region ?_
  refine F_val rfl rfl rfl (O_move rfl rfl) ?_
  refine F_val rfl rfl rfl (O_eq rfl rfl rfl) ?_
  refine F_nil ?_
  refine L_condP rfl (fun c7 => ?_) (fun c7 => ?_)
  · have H := of_pos H c7
    refine L_seq ?_
    refine L_region ?_
    refine F_val rfl rfl rfl (O_assign rfl rfl) ?_
    refine F_nil ?_
    refine L_ret (fun a ha => (post_ret1 ha rfl rfl ?_))
    obtain rfl := Option.some.inj H
    exact ⟨_, _, rfl, HS6.sel [0, 1] rfl⟩
  · have H := of_neg H c7
    refine L_skip ?_
    refine L_seq ?_
    refine L_region ?_
    refine F_val rfl rfl rfl (O_assign rfl rfl) ?_
    refine F_nil ?_
    refine L_seq ?_
    refine L_region ?_
    refine F_val rfl rfl rfl (O_move rfl rfl) ?_
    refine F_val rfl rfl rfl (O_nilCheck rfl rfl) ?_
    refine F_val rfl rfl rfl (O_fieldB rfl rfl field96_1) ?_
    refine F_val rfl rfl rfl (O_loadB rfl rfl flat22 (HS6.cells_rd (i := 2) rfl) rfl) ?_
    refine F_val rfl rfl rfl (O_move rfl rfl) ?_
    obtain ⟨⟨g8, g9⟩, H⟩ := of_gd H
    refine F_val rfl rfl rfl (O_idx rfl rfl rfl Try.underlying22 size3 g8 g9 (Cells.isA (HS6.cells_rd (i := 4) rfl) (rowC_ne (E := (Eint .i64)) g8 g9 (by decide)))) ?_
    refine F_val rfl rfl rfl (O_loadC rfl rfl flat3 (HS6.cells_rd (i := 4) rfl) (int_cell g8 g9)) ?_
    obtain ⟨x10, h11, H⟩ := of_bnd H
    refine F_val rfl rfl rfl (O_assign' rfl rfl (congrArg (Value.int .i64) h11)) ?_
    refine F_nil ?_
    refine L_seq ?_
    refine L_seq ?_
    refine L_region ?_
    refine F_val rfl rfl rfl (O_assign rfl rfl) ?_
    refine F_nil ?_
    obtain ⟨yj12, Hyj12, H⟩ := of_bind H
    refine L_join (fun a w => ∃ (row_47 : Int), yj12 = row_47 ∧ Is Try.f37.ntmps a [(1, .pointer (some ⟨g_w_1, 0, none⟩)), (7, .int .i64 z3), (8, .int .u32 row_47)] ∧ Hp S0 w0 w [.rd (some ⟨g_x_0, 0, none⟩) [.slice A_x_0_Lens x_0_Lens.length c_x_0_Lens, .slice A_x_0_Words x_0_Words.length c_x_0_Words], .rd A_x_0_Lens (rowC (Eint .i64) x_0_Lens), .rd A_x_0_Words (rowC (Eint .i64) x_0_Words), .box g_w_1 [.slice A_w_1_Row w_1_Row.length c_w_1_Row] 100, .own A_w_1_Row c_w_1_Row (rowC (Eint .u8) w_1_Row) 5 (Eint .u8).sz]) (fun Qj12 hNj12 hOj12 => ?_) (fun a w hR => ?_)
    · skip
      have H := Hyj12
      refine L_blk (fun Qb48 hNb48 hXb48 hOb48 => ?_)
      refine L_lp (fun k a w => ∃ (row_69 : Int), ∃ (v_70 : Int), ∃ (i_71 : Int), Is Try.f37.ntmps a [(1, .pointer (some ⟨g_w_1, 0, none⟩)), (7, .int .i64 z3), (8, .int .u32 row_69), (9, .int .i64 v_70), (10, .int .i64 i_71)] ∧ Hp S0 w0 w [.rd (some ⟨g_x_0, 0, none⟩) [.slice A_x_0_Lens x_0_Lens.length c_x_0_Lens, .slice A_x_0_Words x_0_Words.length c_x_0_Words], .rd A_x_0_Lens (rowC (Eint .i64) x_0_Lens), .rd A_x_0_Words (rowC (Eint .i64) x_0_Words), .box g_w_1 [.slice A_w_1_Row w_1_Row.length c_w_1_Row] 100, .own A_w_1_Row c_w_1_Row (rowC (Eint .u8) w_1_Row) 5 (Eint .u8).sz] ∧ valiseref5_Encoder_Put.l1 k row_69 v_70 i_71 z3 = some yj12) FU (fun a ha => ⟨_, _, _, Is.cons ha (Is.cons ha (Is.cons ha (Is.cons ha (Is.cons ha (Is.nil ha) rfl) rfl) rfl) rfl) rfl, HS6.sel [2, 3, 4, 0, 1] rfl, H⟩) (fun kp68 a w72 hI Qp68 hNp68 hOp68 => ?_)
      obtain ⟨row_69, v_70, i_71, ha, HS73, HAp68⟩ := hI
      cases kp68 with
      | zero => cases (show (none : Option _) = some _ from HAp68)
      | succ kp68 =>
        have H := (valiseref5_Encoder_Put.l1.eq_2 ..).symm.trans HAp68
        refine wpLF_app ?_ ha
        refine L_seq ?_
        refine L_seq ?_
        refine L_region ?_
        refine F_val rfl rfl rfl (O_move rfl rfl) ?_
        refine F_val rfl rfl rfl (O_move rfl rfl) ?_
        refine F_val rfl rfl rfl (O_lt rfl rfl rfl) ?_
        refine F_nil ?_
        refine L_condP rfl (fun c74 => ?_) (fun c74 => ?_)
        · have H := of_pos H c74
          refine L_skip ?_
          refine L_seq ?_
          refine L_blk (fun Q75 hN75 hX75 hO75 => ?_)
          refine L_seq ?_
          refine L_region ?_
          refine F_val rfl rfl rfl (O_move rfl rfl) ?_
          refine F_val rfl rfl rfl (O_mul rfl rfl rfl) ?_
          refine F_val rfl rfl rfl (O_move rfl rfl) ?_
          refine F_val rfl rfl rfl (O_rem rfl rfl rfl (by decide)) ?_
          refine F_val rfl rfl rfl (O_conv rfl rfl ⟨_, Try.underlying3⟩ Try.underlying52) ?_
          refine F_val rfl rfl rfl (O_add rfl rfl rfl) ?_
          obtain ⟨x76, h77, H⟩ := of_bnd H
          refine F_val rfl rfl rfl (O_assign' rfl rfl (congrArg (Value.int .u32) h77)) ?_
          refine F_nil ?_
          refine L_region ?_
          refine F_val rfl rfl rfl (O_move rfl rfl) ?_
          refine F_val rfl rfl rfl (O_quo rfl rfl rfl (by decide)) ?_
          obtain ⟨x78, h79, H⟩ := of_bnd H
          refine F_val rfl rfl rfl (O_assign' rfl rfl (congrArg (Value.int .i64) h79)) ?_
          refine F_nil ?_
          refine L_endB hN75 ?_
          refine L_region ?_
          refine F_val rfl rfl rfl (O_move rfl rfl) ?_
          refine F_val rfl rfl rfl (O_add rfl rfl rfl) ?_
          obtain ⟨x80, h81, H⟩ := of_bnd H
          refine F_val rfl rfl rfl (O_assign' rfl rfl (congrArg (Value.int .i64) h81)) ?_
          refine F_nil ?_
          refine L_nil (fun a ha => hNp68 _ a _ (Nat.lt_succ_self _) ⟨_, _, _, Is.cons ha (Is.cons ha (Is.cons ha (Is.cons ha (Is.cons ha (Is.nil ha) rfl) rfl) rfl) rfl) rfl, HS73.sel [0, 1, 2, 3, 4] rfl, H⟩)
        · have H := of_neg H c74
          refine L_exitB (fun a w h => hOp68 (.exit 0) a w rfl (hXb48 a w h)) ?_
          refine L_nil (fun a ha => hNj12 a _ ⟨_, (Option.some.inj H).symm, Is.cons ha (Is.cons ha (Is.cons ha (Is.nil ha) rfl) rfl) rfl, HS73.sel [0, 1, 2, 3, 4] rfl⟩)
    · obtain ⟨row_47, ej, ha, HS83⟩ := hR
      obtain rfl := ej.symm
      refine wpLF_app ?_ ha
      refine L_seq ?_
      refine L_region ?_
      refine F_val rfl rfl rfl (O_move rfl rfl) ?_
      refine F_val rfl rfl rfl (O_move rfl rfl) ?_
      refine F_val rfl rfl rfl (O_move rfl rfl) ?_
      obtain ⟨⟨z88, z89⟩, h87, H⟩ := of_bind H
      refine F_call (xs := [.tmp 43, .tmp 44, .tmp 45]) rfl rfl rfl rfl Try.func35 nm35 rfl rfl ((valiseref3_Writer_Put.calls (HS83.give [3, 4] rfl (Lent.nil)) h87).mono (fun e w hc => ?_))
      obtain ⟨A92, c93, rfl, HSo⟩ := hc
      refine ⟨.int .i64 z88, rfl, ?_⟩
      have HS91 : Hp S0 w0 w [.rd (some ⟨g_x_0, 0, none⟩) [.slice A_x_0_Lens x_0_Lens.length c_x_0_Lens, .slice A_x_0_Words x_0_Words.length c_x_0_Words], .rd A_x_0_Lens (rowC (Eint .i64) x_0_Lens), .rd A_x_0_Words (rowC (Eint .i64) x_0_Words), .box g_w_1 [.slice A92 z89.length c93] 100, .own A92 c93 (rowC (Eint .u8) z89) 5 (Eint .u8).sz] := (HS83.back [3, 4] HSo rfl).sel [0, 1, 2, 5, 6] rfl
      refine F_val rfl rfl rfl (O_assign rfl rfl) ?_
      refine F_nil ?_
      refine L_seq ?_
      refine L_region ?_
      refine F_val rfl rfl rfl (O_move rfl rfl) ?_
      refine F_val rfl rfl rfl (O_assign rfl rfl) ?_
      refine F_nil ?_
      refine L_ret (fun a ha => (post_ret1 ha rfl rfl ?_))
      obtain rfl := Option.some.inj H
      exact ⟨_, _, rfl, HS91.sel [3, 4] rfl⟩

/-! function 40: (*valise/bits.Writer).Len -/
theorem bits_Writer_Len.calls {S0 : Nat → Prop} {w0 : World} {g_w_0 : Nat} {A_w_0_bytes : Option Addr} {c_w_0_bytes : Nat} {w_0_bytes : List Int} {w_0_count : Int} {r : Int} (HS0 : Hp S0 w0 w0 [.rd (some ⟨g_w_0, 0, none⟩) [.slice A_w_0_bytes w_0_bytes.length c_w_0_bytes, .int .i64 w_0_count], .rd A_w_0_bytes (rowC (Eint .u8) w_0_bytes)]) (h : bits_Writer_Len.f w_0_bytes w_0_count = some r) :
    Calls Try.prog 40 ([.pointer (some ⟨g_w_0, 0, none⟩)] : List Value).toArray w0 (fun e w => e = .returned (.int .i64 r) ∧ Hp S0 w0 w []) := by
  have H : ((some w_0_count) : Option (Int)) = some r := h
  refine calls_start Try.func40 rfl rfl ?_
  refine L_seq ?_
  refine L_region ?_
  refine F_val rfl rfl rfl (O_assign rfl rfl) ?_
  refine F_nil ?_
  refine L_seq ?_
  refine L_seq ?_
  refine L_region ?_
  refine F_val rfl rfl rfl (O_move rfl rfl) ?_
  refine F_val rfl rfl rfl (O_peq rfl rfl rfl Try.underlying47) ?_
  refine F_nil ?_
  refine L_cond rfl (fun hx => by cases hx) (fun _ => ?_)
  refine L_skip ?_
  refine L_seq ?_
  refine L_region ?_
  refine F_val rfl rfl rfl (O_move rfl rfl) ?_
  refine F_val rfl rfl rfl (O_nilCheck rfl rfl) ?_
  refine F_val rfl rfl rfl (O_fieldB rfl rfl field98_1) ?_
  refine F_val rfl rfl rfl (O_loadB rfl rfl flat3 (HS0.cells_rd (i := 0) rfl) rfl) ?_
  refine F_val rfl rfl rfl (O_assign rfl rfl) ?_
  refine F_nil ?_
  refine L_ret (fun a ha => (post_ret1 ha rfl rfl ?_))
  obtain rfl := Option.some.inj H
  exact ⟨rfl, HS0.sel [] rfl⟩

/-! function 41: (*valise/valiseref3.Writer).Len -/
theorem valiseref3_Writer_Len.calls {S0 : Nat → Prop} {w0 : World} {g_w_0 : Nat} {A_w_0_Row : Option Addr} {c_w_0_Row : Nat} {w_0_Row : List Int} {r : Int} (HS0 : Hp S0 w0 w0 [.rd (some ⟨g_w_0, 0, none⟩) [.slice A_w_0_Row w_0_Row.length c_w_0_Row], .rd A_w_0_Row (rowC (Eint .u8) w_0_Row)]) (h : valiseref3_Writer_Len.f w_0_Row = some r) :
    Calls Try.prog 41 ([.pointer (some ⟨g_w_0, 0, none⟩)] : List Value).toArray w0 (fun e w => e = .returned (.int .i64 r) ∧ Hp S0 w0 w []) := by
  have H : ((some (w_0_Row.length : Int)) : Option (Int)) = some r := h
  refine calls_start Try.func41 rfl rfl ?_
  refine L_seq ?_
  refine L_region ?_
  refine F_val rfl rfl rfl (O_assign rfl rfl) ?_
  refine F_nil ?_
  refine L_seq ?_
  refine L_seq ?_
  refine L_region ?_
  refine F_val rfl rfl rfl (O_move rfl rfl) ?_
  refine F_val rfl rfl rfl (O_peq rfl rfl rfl Try.underlying49) ?_
  refine F_nil ?_
  refine L_cond rfl (fun hx => by cases hx) (fun _ => ?_)
  refine L_skip ?_
  refine L_seq ?_
  refine L_region ?_
  refine F_val rfl rfl rfl (O_move rfl rfl) ?_
  refine F_val rfl rfl rfl (O_nilCheck rfl rfl) ?_
  refine F_val rfl rfl rfl (O_fieldB rfl rfl field100_0) ?_
  refine F_val rfl rfl rfl (O_loadB rfl rfl flat59 (HS0.cells_rd (i := 0) rfl) rfl) ?_
  refine F_val rfl rfl rfl (O_len rfl rfl Try.underlying59) ?_
  refine F_val rfl rfl rfl (O_assign rfl rfl) ?_
  refine F_nil ?_
  refine L_ret (fun a ha => (post_ret1 ha rfl rfl ?_))
  obtain rfl := Option.some.inj H
  exact ⟨rfl, HS0.sel [] rfl⟩

/-! function 43: (*valise/bits.Writer).Bytes -/
theorem bits_Writer_Bytes.calls {S0 : Nat → Prop} {w0 : World} {g_w_0 : Nat} {A_w_0_bytes : Option Addr} {c_w_0_bytes : Nat} {w_0_bytes : List Int} {w_0_count : Int} {r : List Int} (HS0 : Hp S0 w0 w0 [.rd (some ⟨g_w_0, 0, none⟩) [.slice A_w_0_bytes w_0_bytes.length c_w_0_bytes, .int .i64 w_0_count], .rd A_w_0_bytes (rowC (Eint .u8) w_0_bytes)]) (h : bits_Writer_Bytes.f w_0_bytes w_0_count = some r) :
    Calls Try.prog 43 ([.pointer (some ⟨g_w_0, 0, none⟩)] : List Value).toArray w0 (fun e w => ∃ (A1 : Option Addr), ∃ (c1 : Nat), e = .returned (.slice A1 r.length c1) ∧ Hp S0 w0 w [.own A1 c1 (rowC (Eint .u8) r) 5 (Eint .u8).sz]) := by
  have H : ((if (w_0_bytes.length : Int) = 0 then (some ([] : List Int)) else (gd ((0 : Int) ≤ (w_0_bytes.length : Int) ∧ (w_0_bytes.length : Int) * 1 ≤ 281474976710656) (bnd (List.replicate ((w_0_bytes.length : Int) : Int).toNat (0 : Int)) fun l8 => bnd (cpy l8 w_0_bytes) fun l15 => some l15))) : Option (List Int)) = some r := h
  refine calls_start Try.func43 rfl rfl ?_
  refine L_seq ?_
  refine L_region ?_
  refine F_val rfl rfl rfl (O_assign rfl rfl) ?_
  refine F_nil ?_
  refine L_seq ?_
  refine L_seq ?_
  refine L_region ?_
  refine F_val rfl rfl rfl (O_move rfl rfl) ?_
  refine F_val rfl rfl rfl (O_peq rfl rfl rfl Try.underlying47) ?_
  refine F_val rfl rfl rfl (O_move rfl rfl) ?_
  refine F_gval rfl rfl rfl rfl rfl rfl (O_move rfl rfl) ?_
  refine F_gval rfl rfl rfl rfl rfl rfl (O_nilCheck rfl rfl) ?_
  refine F_gval rfl rfl rfl rfl rfl rfl (O_fieldB rfl rfl field98_0) ?_
  refine F_gval rfl rfl rfl rfl rfl rfl (O_loadB rfl rfl flat59 (HS0.cells_rd (i := 0) rfl) rfl) ?_
  refine F_gval rfl rfl rfl rfl rfl rfl (O_len rfl rfl Try.underlying59) ?_
  refine F_gval rfl rfl rfl rfl rfl rfl (O_eq rfl rfl rfl) ?_
  refine F_val rfl rfl rfl (O_pickF rfl rfl rfl) ?_
  refine F_nil ?_
  refine L_condP rfl (fun c1 => ?_) (fun c1 => ?_)
  · have H := of_pos H c1
    refine L_seq ?_
    refine L_region ?_
    refine F_val rfl rfl rfl (O_assign rfl rfl) ?_
    refine F_nil ?_
    have HS2 := HS0.addNil 5 (Eint .u8).sz
    refine L_ret (fun a ha => (post_ret1 ha rfl rfl ?_))
    obtain rfl := Option.some.inj H
    exact ⟨_, _, rfl, HS2.sel [2] rfl⟩
  · have H := of_neg H c1
    refine L_skip ?_
    refine L_seq ?_
    refine L_region ?_
    refine F_val rfl rfl rfl (O_move rfl rfl) ?_
    refine F_val rfl rfl rfl (O_nilCheck rfl rfl) ?_
    refine F_val rfl rfl rfl (O_fieldB rfl rfl field98_0) ?_
    refine F_val rfl rfl rfl (O_loadB rfl rfl flat59 (HS0.cells_rd (i := 0) rfl) rfl) ?_
    refine F_val rfl rfl rfl (O_len rfl rfl Try.underlying59) ?_
    obtain ⟨⟨g6, g7⟩, H⟩ := of_gd H
    obtain ⟨l8, h9, H⟩ := of_bnd H
    refine F_makeE (E := (Eint .u8)) rfl rfl rfl rfl rfl rfl Try.underlying59 info5 rfl (by decide) (by decide) g6 g7 HS0 h9 (fun w4 A10 c11 HS5 => ?_)
    have HS5 : Hp S0 w0 w4 [.rd (some ⟨g_w_0, 0, none⟩) [.slice A_w_0_bytes w_0_bytes.length c_w_0_bytes, .int .i64 w_0_count], .rd A_w_0_bytes (rowC (Eint .u8) w_0_bytes), .own A10 c11 (rowC (Eint .u8) l8) 5 (Eint .u8).sz] := HS5
    refine F_val rfl rfl rfl (O_assign rfl rfl) ?_
    refine F_nil ?_
    refine L_seq ?_
    refine L_region ?_
    refine F_val rfl rfl rfl (O_move rfl rfl) ?_
    refine F_val rfl rfl rfl (O_move rfl rfl) ?_
    refine F_val rfl rfl rfl (O_nilCheck rfl rfl) ?_
    refine F_val rfl rfl rfl (O_fieldB rfl rfl field98_0) ?_
    refine F_val rfl rfl rfl (O_loadB rfl rfl flat59 (HS5.cells_rd (i := 0) rfl) rfl) ?_
    obtain ⟨l15, h16, H⟩ := of_bnd H
    refine F_copyE (E := (Eint .u8)) (xs := l8) (ys := w_0_bytes) (i := 2) rfl rfl rfl rfl Try.underlying59 size5 rfl rfl HS5 rfl (HS5.cells_rd (i := 1) rfl) h16 (fun w13 HS14 => ?_)
    have e17 : l8.length = l15.length := by rw [← h16, cpy_length]
    refine F_know (i := 3) rfl (congrArg (fun n => Value.slice A10 n c11) e17) ?_
    have HS14 : Hp S0 w0 w13 [.rd (some ⟨g_w_0, 0, none⟩) [.slice A_w_0_bytes w_0_bytes.length c_w_0_bytes, .int .i64 w_0_count], .rd A_w_0_bytes (rowC (Eint .u8) w_0_bytes), .own A10 c11 (rowC (Eint .u8) l15) 5 (Eint .u8).sz] := HS14
    refine F_nil ?_
    refine L_seq ?_
    refine L_region ?_
    refine F_val rfl rfl rfl (O_move rfl rfl) ?_
    refine F_val rfl rfl rfl (O_assign rfl rfl) ?_
    refine F_nil ?_
    refine L_ret (fun a ha => (post_ret1 ha rfl rfl ?_))
    obtain rfl := Option.some.inj H
    exact ⟨_, _, rfl, HS14.sel [2] rfl⟩

/-! function 44: (*valise/valiseref3.Writer).Bytes -/
theorem valiseref3_Writer_Bytes.calls {S0 : Nat → Prop} {w0 : World} {g_w_0 : Nat} {A_w_0_Row : Option Addr} {c_w_0_Row : Nat} {w_0_Row : List Int} {r : List Int} (HS0 : Hp S0 w0 w0 [.rd (some ⟨g_w_0, 0, none⟩) [.slice A_w_0_Row w_0_Row.length c_w_0_Row], .rd A_w_0_Row (rowC (Eint .u8) w_0_Row)]) (h : valiseref3_Writer_Bytes.f w_0_Row = some r) :
    Calls Try.prog 44 ([.pointer (some ⟨g_w_0, 0, none⟩)] : List Value).toArray w0 (fun e w => ∃ (A1 : Option Addr), ∃ (c1 : Nat), e = .returned (.slice A1 r.length c1) ∧ Hp S0 w0 w [.own A1 c1 (rowC (Eint .u8) r) 5 (Eint .u8).sz]) := by
  have H : (((valiseref3_Writer_Bytes.l1 FU ([] : List Int) 0 w_0_Row).bind fun l165 => some l165) : Option (List Int)) = some r := h
  refine calls_start Try.func44 rfl rfl ?_
  refine L_seq ?_
  refine L_region ?_
  refine F_val rfl rfl rfl (O_assign rfl rfl) ?_
  refine F_nil ?_
  refine L_seq ?_
  refine L_seq ?_
  refine L_region ?_
  refine F_val rfl rfl rfl (O_move rfl rfl) ?_
  refine F_val rfl rfl rfl (O_peq rfl rfl rfl Try.underlying49) ?_
  refine F_nil ?_
  refine L_cond rfl (fun hx => by cases hx) (fun _ => ?_)
  refine L_skip ?_
  refine L_seq ?_
  refine L_region ?_
  refine F_val rfl rfl rfl (O_assign rfl rfl) ?_
  have HS1 := HS0.addNil 5 (Eint .u8).sz
  have HS1 : Hp S0 w0 w0 [.rd (some ⟨g_w_0, 0, none⟩) [.slice A_w_0_Row w_0_Row.length c_w_0_Row], .rd A_w_0_Row (rowC (Eint .u8) w_0_Row), .own none 0 (rowC (Eint .u8) ([] : List Int)) 5 (Eint .u8).sz] := HS1
  refine F_nil ?_
  refine L_seq ?_
  refine L_seq ?_
  refine L_region ?_
  refine F_val rfl rfl rfl (O_assign rfl rfl) ?_
  refine F_nil ?_
  obtain ⟨yj3, Hyj3, H⟩ := of_bind H
  refine L_join (fun a w => ∃ (l165 : List Int), ∃ (A163 : Option Addr), ∃ (c164 : Nat), yj3 = l165 ∧ Is Try.f44.ntmps a [(3, .slice A163 l165.length c164)] ∧ Hp S0 w0 w [.rd (some ⟨g_w_0, 0, none⟩) [.slice A_w_0_Row w_0_Row.length c_w_0_Row], .rd A_w_0_Row (rowC (Eint .u8) w_0_Row), .own A163 c164 (rowC (Eint .u8) l165) 5 (Eint .u8).sz]) (fun Qj3 hNj3 hOj3 => ?_) (fun a w hR => ?_)
  · skip
    have H := Hyj3
    refine L_blk (fun Qb166 hNb166 hXb166 hOb166 => ?_)
    refine L_lp (fun k a w => ∃ (l272 : List Int), ∃ (i_273 : Int), ∃ (A270 : Option Addr), ∃ (c271 : Nat), Is Try.f44.ntmps a [(0, .pointer (some ⟨g_w_0, 0, none⟩)), (3, .slice A270 l272.length c271), (4, .int .i64 i_273)] ∧ Hp S0 w0 w [.rd (some ⟨g_w_0, 0, none⟩) [.slice A_w_0_Row w_0_Row.length c_w_0_Row], .rd A_w_0_Row (rowC (Eint .u8) w_0_Row), .own A270 c271 (rowC (Eint .u8) l272) 5 (Eint .u8).sz] ∧ valiseref3_Writer_Bytes.l1 k l272 i_273 w_0_Row = some yj3) FU (fun a ha => ⟨_, _, _, _, Is.cons ha (Is.cons ha (Is.cons ha (Is.nil ha) rfl) rfl) rfl, HS1.sel [0, 1, 2] rfl, H⟩) (fun kp269 a w274 hI Qp269 hNp269 hOp269 => ?_)
    obtain ⟨l272, i_273, A270, c271, ha, HS275, HAp269⟩ := hI
    cases kp269 with
    | zero => cases (show (none : Option _) = some _ from HAp269)
    | succ kp269 =>
      have H := (valiseref3_Writer_Bytes.l1.eq_2 ..).symm.trans HAp269
      refine wpLF_app ?_ ha
      refine L_seq ?_
      refine L_seq ?_
      refine L_region ?_
      refine F_val rfl rfl rfl (O_move rfl rfl) ?_
      refine F_val rfl rfl rfl (O_move rfl rfl) ?_
      refine F_val rfl rfl rfl (O_nilCheck rfl rfl) ?_
      refine F_val rfl rfl rfl (O_fieldB rfl rfl field100_0) ?_
      refine F_val rfl rfl rfl (O_loadB rfl rfl flat59 (HS275.cells_rd (i := 0) rfl) rfl) ?_
      refine F_val rfl rfl rfl (O_len rfl rfl Try.underlying59) ?_
      refine F_val rfl rfl rfl (O_lt rfl rfl rfl) ?_
      refine F_nil ?_
      refine L_condP rfl (fun c276 => ?_) (fun c276 => ?_)
      · have H := of_pos H c276
        refine L_skip ?_
        refine L_seq ?_
        refine L_blk (fun Q277 hN277 hX277 hO277 => ?_)
        refine L_seq ?_
        refine L_seq ?_
        refine L_region ?_
        refine F_val rfl rfl rfl (O_move rfl rfl) ?_
        refine F_val rfl rfl rfl (O_rem rfl rfl rfl (by decide)) ?_
        refine F_val rfl rfl rfl (O_eq rfl rfl rfl) ?_
        refine F_nil ?_
        obtain ⟨yj278, Hyj278, H⟩ := of_bind H
        refine L_join (fun a w => ∃ (l294 : List Int), ∃ (A292 : Option Addr), ∃ (c293 : Nat), yj278 = l294 ∧ Is Try.f44.ntmps a [(0, .pointer (some ⟨g_w_0, 0, none⟩)), (3, .slice A292 l294.length c293), (4, .int .i64 i_273)] ∧ Hp S0 w0 w [.rd (some ⟨g_w_0, 0, none⟩) [.slice A_w_0_Row w_0_Row.length c_w_0_Row], .rd A_w_0_Row (rowC (Eint .u8) w_0_Row), .own A292 c293 (rowC (Eint .u8) l294) 5 (Eint .u8).sz]) (fun Qj278 hNj278 hOj278 => ?_) (fun a w hR => ?_)
        · skip
          have H := Hyj278
          refine L_condP rfl (fun c295 => ?_) (fun c295 => ?_)
          · have H := of_pos H c295
            refine L_region ?_
            refine F_val rfl rfl rfl (O_move rfl rfl) ?_
            refine F_litE (E := (Eint .u8)) (e := 5) [(0, .int .u8 0)] [0] rfl rfl rfl rfl rfl rfl rfl (by decide) (fun w => by kernel_rfl) HS275 (fun w296 A298 c299 HS297 => ?_)
            have HS297 : Hp S0 w0 w296 [.rd (some ⟨g_w_0, 0, none⟩) [.slice A_w_0_Row w_0_Row.length c_w_0_Row], .rd A_w_0_Row (rowC (Eint .u8) w_0_Row), .own A270 c271 (rowC (Eint .u8) l272) 5 (Eint .u8).sz, .own A298 c299 (rowC (Eint .u8) [0]) 5 (Eint .u8).sz] := HS297
            obtain ⟨l303, h304, H⟩ := of_bnd H
            obtain ⟨g305, H⟩ := of_gd H
            refine F_appE (E := (Eint .u8)) (xs := l272) (ys := [0]) (i := 2) rfl rfl rfl rfl Try.underlying59 info5 rfl (by decide) (by decide) rfl rfl HS297 rfl (HS297.cells_own (i := 3) rfl) h304 g305 (fun w301 A306 c307 HS302 => ?_)
            have HS302 : Hp S0 w0 w301 [.rd (some ⟨g_w_0, 0, none⟩) [.slice A_w_0_Row w_0_Row.length c_w_0_Row], .rd A_w_0_Row (rowC (Eint .u8) w_0_Row), .own A306 c307 (rowC (Eint .u8) l303) 5 (Eint .u8).sz, .own A298 c299 (rowC (Eint .u8) [0]) 5 (Eint .u8).sz] := HS302
            refine F_val rfl rfl rfl (O_assign rfl rfl) ?_
            refine F_nil ?_
            refine L_nil (fun a ha => hNj278 a _ ⟨_, _, _, (Option.some.inj H).symm, Is.cons ha (Is.cons ha (Is.cons ha (Is.nil ha) rfl) rfl) rfl, HS302.sel [0, 1, 2] rfl⟩)
          · have H := of_neg H c295
            refine L_skip ?_
            refine L_nil (fun a ha => hNj278 a _ ⟨_, _, _, (Option.some.inj H).symm, Is.cons ha (Is.cons ha (Is.cons ha (Is.nil ha) rfl) rfl) rfl, HS275.sel [0, 1, 2] rfl⟩)
        · obtain ⟨l294, A292, c293, ej, ha, HS309⟩ := hR
          obtain rfl := ej.symm
          refine wpLF_app ?_ ha
          refine L_tail 21 mix (by kernel_rfl) (fun w310 hw311 => ?_)
          have HS312 := HS309.keep hw311
          refine S_val rfl rfl rfl (O_move rfl rfl) ?_
          refine S_val rfl rfl rfl (O_move rfl rfl) ?_
          refine S_val rfl rfl rfl (O_quo rfl rfl rfl (by decide)) ?_
          refine S_val rfl rfl rfl (O_move rfl rfl) ?_
          refine S_val rfl rfl rfl (O_move rfl rfl) ?_
          refine S_val rfl rfl rfl (O_quo rfl rfl rfl (by decide)) ?_
          obtain ⟨⟨g313, g314⟩, H⟩ := of_gd H
          refine S_val rfl rfl rfl (O_idx rfl rfl rfl Try.underlying59 size5 g313 g314 (Cells.isA (HS312.cells_own (i := 2) rfl) (rowC_ne (E := (Eint .u8)) g313 g314 (by decide)))) ?_
          refine S_val rfl rfl rfl (O_loadC rfl rfl flat5 (HS312.cells_own (i := 2) rfl) (int_cell g313 g314)) ?_
          refine S_val rfl rfl rfl (O_move rfl rfl) ?_
          refine S_val rfl rfl rfl (O_nilCheck rfl rfl) ?_
          refine S_val rfl rfl rfl (O_fieldB rfl rfl field100_0) ?_
          refine S_val rfl rfl rfl (O_loadB rfl rfl flat59 (HS312.cells_rd (i := 0) rfl) rfl) ?_
          refine S_val rfl rfl rfl (O_move rfl rfl) ?_
          obtain ⟨⟨g315, g316⟩, H⟩ := of_gd H
          refine S_val rfl rfl rfl (O_idx rfl rfl rfl Try.underlying59 size5 g315 g316 (Cells.isA (HS312.cells_rd (i := 1) rfl) (rowC_ne (E := (Eint .u8)) g315 g316 (by decide)))) ?_
          refine S_val rfl rfl rfl (O_loadC rfl rfl flat5 (HS312.cells_rd (i := 1) rfl) (int_cell g315 g316)) ?_
          refine S_val rfl rfl rfl (O_move rfl rfl) ?_
          refine S_val rfl rfl rfl (O_rem rfl rfl rfl (by decide)) ?_
          refine S_val rfl rfl rfl (O_conv rfl rfl ⟨_, Try.underlying3⟩ Try.underlying39) ?_
          obtain ⟨g317, H⟩ := of_gd H
          refine S_val rfl rfl rfl (O_shl rfl rfl rfl g317) ?_
          refine S_val rfl rfl rfl (O_add rfl rfl rfl) ?_
          refine S_val rfl rfl rfl (O_idx rfl rfl rfl Try.underlying59 size5 g313 g314 (Cells.isA (HS312.cells_own (i := 2) rfl) (rowC_ne (E := (Eint .u8)) g313 g314 (by decide)))) ?_
          refine S_nil ?_
          obtain ⟨l320, h321, H⟩ := of_bnd H
          refine F_setE (E := (Eint .u8)) (i := 2) (a := IntKind.u8.wrap ((rd l294 (IntKind.i64.wrap (Int.tdiv i_273 8))) + (shl .u8 (rd w_0_Row i_273) (IntKind.u64.wrap (Int.tmod i_273 8))))) (q := IntKind.i64.wrap (Int.tdiv i_273 8)) rfl rfl rfl rfl rfl rfl size5 HS312 rfl (by decide) g313 g314 h321 (fun w318 HS319 => ?_)
          have e322 : l294.length = l320.length := by rw [← h321, List.length_set]
          refine F_know (i := 3) rfl (congrArg (fun n => Value.slice A292 n c293) e322) ?_
          have HS319 : Hp S0 w0 w318 [.rd (some ⟨g_w_0, 0, none⟩) [.slice A_w_0_Row w_0_Row.length c_w_0_Row], .rd A_w_0_Row (rowC (Eint .u8) w_0_Row), .own A292 c293 (rowC (Eint .u8) l320) 5 (Eint .u8).sz] := HS319
          refine F_nil ?_
          refine L_endB hN277 ?_
          refine L_region ?_
          refine F_val rfl rfl rfl (O_move rfl rfl) ?_
          refine F_val rfl rfl rfl (O_add rfl rfl rfl) ?_
          obtain ⟨x323, h324, H⟩ := of_bnd H
          refine F_val rfl rfl rfl (O_assign' rfl rfl (congrArg (Value.int .i64) h324)) ?_
          refine F_nil ?_
          refine L_nil (fun a ha => hNp269 _ a _ (Nat.lt_succ_self _) ⟨_, _, _, _, Is.cons ha (Is.cons ha (Is.cons ha (Is.nil ha) rfl) rfl) rfl, HS319.sel [0, 1, 2] rfl, H⟩)
      · have H := of_neg H c276
        refine L_exitB (fun a w h => hOp269 (.exit 0) a w rfl (hXb166 a w h)) ?_
        refine L_nil (fun a ha => hNj3 a _ ⟨_, _, _, (Option.some.inj H).symm, Is.cons ha (Is.nil ha) rfl, HS275.sel [0, 1, 2] rfl⟩)
  · obtain ⟨l165, A163, c164, ej, ha, HS326⟩ := hR
    obtain rfl := ej.symm
    refine wpLF_app ?_ ha
    refine L_seq ?_
    refine L_region ?_
    refine F_val rfl rfl rfl (O_move rfl rfl) ?_
    refine F_val rfl rfl rfl (O_assign rfl rfl) ?_
    refine F_nil ?_
    refine L_ret (fun a ha => (post_ret1 ha rfl rfl ?_))
    obtain rfl := Option.some.inj H
    exact ⟨_, _, rfl, HS326.sel [2] rfl⟩

/-! function 42: valise/valiselaw5.sameBytes -/
theorem valiselaw5_sameBytes.calls {S0 : Nat → Prop} {w0 : World} {A_a_0 : Option Addr} {c_a_0 : Nat} {A_b_1 : Option Addr} {c_b_1 : Nat} {l_a_0 : List Int} {l_b_1 : List Int} {r : Bool} (HS0 : Hp S0 w0 w0 [.rd A_a_0 (rowC (Eint .u8) l_a_0), .rd A_b_1 (rowC (Eint .u8) l_b_1)]) (hc_a_0 : l_a_0.length ≤ c_a_0) (hc_b_1 : l_b_1.length ≤ c_b_1) (h : valiselaw5_sameBytes.f l_a_0 l_b_1 = some r) :
    Calls Try.prog 42 ([.slice A_a_0 l_a_0.length c_a_0, .slice A_b_1 l_b_1.length c_b_1] : List Value).toArray w0 (fun e w => e = .returned (.bool r) ∧ Hp S0 w0 w []) := by
  have H : ((if (l_a_0.length : Int) ≠ (l_b_1.length : Int) then (some false) else ((valiselaw5_sameBytes.l1 FU 0 l_a_0 l_b_1).bind fun (yj2 : Sum (Bool) (Unit)) => onR yj2 (fun r => some r) fun () => some true)) : Option (Bool)) = some r := h
  refine calls_start Try.func42 rfl rfl ?_
  refine L_seq ?_
  refine L_region ?_
  refine F_val rfl rfl rfl (O_assign rfl rfl) ?_
  refine F_nil ?_
  refine L_seq ?_
  refine L_seq ?_
  refine L_region ?_
  refine F_val rfl rfl rfl (O_move rfl rfl) ?_
  refine F_val rfl rfl rfl (O_len rfl rfl Try.underlying59) ?_
  refine F_val rfl rfl rfl (O_move rfl rfl) ?_
  refine F_val rfl rfl rfl (O_len rfl rfl Try.underlying59) ?_
  refine F_val rfl rfl rfl (O_ne rfl rfl rfl) ?_
  refine F_nil ?_
  refine L_condP rfl (fun c1 => ?_) (fun c1 => ?_)
  · have H := of_pos H c1
    refine L_seq ?_
    refine L_region ?_
    refine F_val rfl rfl rfl (O_assign rfl rfl) ?_
    refine F_nil ?_
    refine L_ret (fun a ha => (post_ret1 ha rfl rfl ?_))
    obtain rfl := Option.some.inj H
    exact ⟨rfl, HS0.sel [] rfl⟩
  · have H := of_neg H c1
    refine L_skip ?_
    refine L_seq ?_
    refine L_seq ?_
    refine L_region ?_
    refine F_val rfl rfl rfl (O_assign rfl rfl) ?_
    refine F_nil ?_
    obtain ⟨yj2, Hyj2, H⟩ := of_bind H
    refine L_join (fun a w => yj2 = Sum.inr () ∧ Is Try.f42.ntmps a [] ∧ Hp S0 w0 w [.rd A_a_0 (rowC (Eint .u8) l_a_0), .rd A_b_1 (rowC (Eint .u8) l_b_1)]) (fun Qj2 hNj2 hOj2 => ?_) (fun a w hR => ?_)
    · have HOj2 := H
      have H := Hyj2
      refine L_blk (fun Qb45 hNb45 hXb45 hOb45 => ?_)
      refine L_lp (fun k a w => ∃ (i_72 : Int), Is Try.f42.ntmps a [(0, .slice A_a_0 l_a_0.length c_a_0), (1, .slice A_b_1 l_b_1.length c_b_1), (5, .int .i64 i_72)] ∧ Hp S0 w0 w [.rd A_a_0 (rowC (Eint .u8) l_a_0), .rd A_b_1 (rowC (Eint .u8) l_b_1)] ∧ valiselaw5_sameBytes.l1 k i_72 l_a_0 l_b_1 = some yj2) FU (fun a ha => ⟨_, Is.cons ha (Is.cons ha (Is.cons ha (Is.nil ha) rfl) rfl) rfl, HS0.sel [0, 1] rfl, H⟩) (fun kp71 a w73 hI Qp71 hNp71 hOp71 => ?_)
      obtain ⟨i_72, ha, HS74, HAp71⟩ := hI
      cases kp71 with
      | zero => cases (show (none : Option _) = some _ from HAp71)
      | succ kp71 =>
        have H := (valiselaw5_sameBytes.l1.eq_2 ..).symm.trans HAp71
        refine wpLF_app ?_ ha
        refine L_seq ?_
        refine L_seq ?_
        refine L_region ?_
        refine F_val rfl rfl rfl (O_move rfl rfl) ?_
        refine F_val rfl rfl rfl (O_move rfl rfl) ?_
        refine F_val rfl rfl rfl (O_len rfl rfl Try.underlying59) ?_
        refine F_val rfl rfl rfl (O_lt rfl rfl rfl) ?_
        refine F_nil ?_
        refine L_condP rfl (fun c75 => ?_) (fun c75 => ?_)
        · have H := of_pos H c75
          refine L_skip ?_
          refine L_seq ?_
          refine L_blk (fun Q76 hN76 hX76 hO76 => ?_)
          refine L_seq ?_
          refine L_quiet mix (by kernel_rfl) ?_
          refine Q_val rfl rfl rfl (fun wq hq => O_move rfl rfl) ?_
          refine Q_val rfl rfl rfl (fun wq hq => O_move rfl rfl) ?_
          obtain ⟨⟨g77, g78⟩, H⟩ := of_gd H
          refine Q_val rfl rfl rfl (fun wq hq => O_idx rfl rfl rfl Try.underlying59 size5 g77 g78 (Cells.isA ((HS74.keep hq).cells_rd (i := 0) rfl) (rowC_ne (E := (Eint .u8)) g77 g78 (by decide)))) ?_
          refine Q_val rfl rfl rfl (fun wq hq => O_loadC rfl rfl flat5 ((HS74.keep hq).cells_rd (i := 0) rfl) (int_cell g77 g78)) ?_
          refine Q_val rfl rfl rfl (fun wq hq => O_move rfl rfl) ?_
          refine Q_val rfl rfl rfl (fun wq hq => O_move rfl rfl) ?_
          obtain ⟨⟨g79, g80⟩, H⟩ := of_gd H
          refine Q_val rfl rfl rfl (fun wq hq => O_idx rfl rfl rfl Try.underlying59 size5 g79 g80 (Cells.isA ((HS74.keep hq).cells_rd (i := 1) rfl) (rowC_ne (E := (Eint .u8)) g79 g80 (by decide)))) ?_
          refine Q_val rfl rfl rfl (fun wq hq => O_loadC rfl rfl flat5 ((HS74.keep hq).cells_rd (i := 1) rfl) (int_cell g79 g80)) ?_
          refine Q_val rfl rfl rfl (fun wq hq => O_ne rfl rfl rfl) ?_
          refine Q_nil (fun w81 hw82 => ?_)
          have HS83 := HS74.keep hw82
          refine L_condP rfl (fun c84 => ?_) (fun c84 => ?_)
          · have H := of_pos H c84
            refine L_seq ?_
            refine L_region ?_
            refine F_val rfl rfl rfl (O_assign rfl rfl) ?_
            refine F_nil ?_
            refine L_ret (fun a ha => (hO76 .ret a _ rfl (hOp71 .ret a _ rfl (hOb45 .ret a _ rfl (hOj2 .ret a _ rfl (post_ret1 ha rfl rfl ?_))))))
            obtain rfl := Option.some.inj H
            obtain rfl := Option.some.inj (show (some false : Option (Bool)) = some _ from HOj2)
            exact ⟨rfl, HS83.sel [] rfl⟩
          · have H := of_neg H c84
            refine L_skip ?_
            refine L_endB hN76 ?_
            refine L_region ?_
            refine F_val rfl rfl rfl (O_move rfl rfl) ?_
            refine F_val rfl rfl rfl (O_add rfl rfl rfl) ?_
            obtain ⟨x85, h86, H⟩ := of_bnd H
            refine F_val rfl rfl rfl (O_assign' rfl rfl (congrArg (Value.int .i64) h86)) ?_
            refine F_nil ?_
            refine L_nil (fun a ha => hNp71 _ a _ (Nat.lt_succ_self _) ⟨_, Is.cons ha (Is.cons ha (Is.cons ha (Is.nil ha) rfl) rfl) rfl, HS83.sel [0, 1] rfl, H⟩)
        · have H := of_neg H c75
          refine L_exitB (fun a w h => hOp71 (.exit 0) a w rfl (hXb45 a w h)) ?_
          refine L_nil (fun a ha => hNj2 a _ ⟨(Option.some.inj H).symm, Is.nil ha, HS74.sel [0, 1] rfl⟩)
    · obtain ⟨rfl, ha, HS88⟩ := hR
      refine wpLF_app ?_ ha
      have H := (onR_inr _ _ _).symm.trans H
      refine L_seq ?_
      refine L_region ?_
      refine F_val rfl rfl rfl (O_assign rfl rfl) ?_
      refine F_nil ?_
      refine L_ret (fun a ha => (post_ret1 ha rfl rfl ?_))
      obtain rfl := Option.some.inj H
      exact ⟨rfl, HS88.sel [] rfl⟩

end Go.Proofs.Ytfglehdaimgaeaa
