import Derived.Test.YtfglehdaimgaeaaChecked
import Derived.Test.YtfglehdaimgaeaaGCodeTurnsPure
set_option linter.unusedVariables false
set_option linter.unusedSimpArgs false
set_option maxRecDepth 10000
set_option maxHeartbeats 1000000
namespace Go.Proofs.Ytfglehdaimgaeaa
open Go Go.V Go.V.Pu
theorem mix : Try.prog.follows .mixedOrders = true := by kernel_rfl
theorem info3 : (Try.prog.info? 3).map (fun i => (i.zero, i.size, i.bytes)) = some (some (.int .i64 0), 1, 8) := by kernel_rfl
theorem size3 : (Try.prog.info? 3).map (·.size) = some 1 := by kernel_rfl
theorem nm28 : (Try.f28.name == "runtime.NumGoroutine") = false := by kernel_rfl
theorem zero82 : (Try.prog.info? 82).map (·.zero) = some (some (.agg #[.int .i64 0, .int .i64 0, .int .i64 0, .int .i64 0, .int .i64 0, .int .i64 0, .int .i64 0, .int .i64 0, .int .i64 0, .int .i64 0, .int .i64 0, .int .i64 0, .int .i64 0, .int .i64 0, .int .i64 0, .int .i64 0])) := by kernel_rfl
theorem wide82 : Wide Try.prog 82 16 := Wide.of Try.underlying82 rfl (by kernel_rfl)
theorem size82 : (Try.prog.info? 82).map (·.size) = some 16 := by kernel_rfl
theorem flat3 : Flat Try.prog 3 := Flat.of Try.underlying3 rfl
theorem zarr82 (w : World) : (Instr.build 82 #[]).run Try.prog w = .ok (.agg (rowC (Eint .i64) (List.replicate 16 (0 : Int))).toArray) w := by kernel_rfl
theorem nm57 : (Try.f57.name == "runtime.NumGoroutine") = false := by kernel_rfl
theorem nm58 : (Try.f58.name == "runtime.NumGoroutine") = false := by kernel_rfl
theorem nm64 : (Try.f64.name == "runtime.NumGoroutine") = false := by kernel_rfl
theorem zero91 : (Try.prog.info? 91).map (·.zero) = some (some (.agg #[.slice none 0 0, .slice none 0 0, .int .i64 0, .int .i64 0, .int .i64 0, .int .i64 0, .int .i64 0, .int .i64 0, .int .i64 0, .int .i64 0, .int .i64 0, .int .i64 0, .int .i64 0, .int .i64 0, .int .i64 0, .int .i64 0, .int .i64 0, .int .i64 0, .int .i64 0, .int .i64 0, .int .i64 0, .int .i64 0, .int .i64 0, .int .i64 0, .int .i64 0, .int .i64 0, .int .i64 0, .int .i64 0, .int .i64 0, .int .i64 0, .int .i64 0, .int .i64 0, .int .i64 0, .int .i64 0])) := by kernel_rfl
theorem nm62 : (Try.f62.name == "runtime.NumGoroutine") = false := by kernel_rfl
theorem nm61 : (Try.f61.name == "runtime.NumGoroutine") = false := by kernel_rfl
theorem struct91 : StructAt Try.prog 91 [(0, 1), (1, 1), (2, 16), (18, 16)] [.slice none 0 0, .slice none 0 0, .int .i64 0, .int .i64 0, .int .i64 0, .int .i64 0, .int .i64 0, .int .i64 0, .int .i64 0, .int .i64 0, .int .i64 0, .int .i64 0, .int .i64 0, .int .i64 0, .int .i64 0, .int .i64 0, .int .i64 0, .int .i64 0, .int .i64 0, .int .i64 0, .int .i64 0, .int .i64 0, .int .i64 0, .int .i64 0, .int .i64 0, .int .i64 0, .int .i64 0, .int .i64 0, .int .i64 0, .int .i64 0, .int .i64 0, .int .i64 0, .int .i64 0, .int .i64 0] := StructAt.of Try.underlying91 zero91 rfl (fun w => by kernel_rfl)
theorem size91 : (Try.prog.info? 91).map (·.size) = some 34 := by kernel_rfl
theorem wide91 : Wide Try.prog 91 34 := Wide.of Try.underlying91 rfl (by kernel_rfl)
theorem nm65 : (Try.f65.name == "runtime.NumGoroutine") = false := by kernel_rfl
theorem zero94 : (Try.prog.info? 94).map (·.zero) = some (some (.agg #[.slice none 0 0, .slice none 0 0, .int .i64 0, .int .i64 0, .int .i64 0, .int .i64 0, .int .i64 0, .int .i64 0, .int .i64 0, .int .i64 0, .int .i64 0, .int .i64 0, .int .i64 0, .int .i64 0, .int .i64 0, .int .i64 0, .int .i64 0, .int .i64 0, .int .i64 0, .int .i64 0, .int .i64 0, .int .i64 0, .int .i64 0, .int .i64 0, .int .i64 0, .int .i64 0, .int .i64 0, .int .i64 0, .int .i64 0, .int .i64 0, .int .i64 0, .int .i64 0, .int .i64 0, .int .i64 0])) := by kernel_rfl
theorem struct94 : StructAt Try.prog 94 [(0, 34)] [.slice none 0 0, .slice none 0 0, .int .i64 0, .int .i64 0, .int .i64 0, .int .i64 0, .int .i64 0, .int .i64 0, .int .i64 0, .int .i64 0, .int .i64 0, .int .i64 0, .int .i64 0, .int .i64 0, .int .i64 0, .int .i64 0, .int .i64 0, .int .i64 0, .int .i64 0, .int .i64 0, .int .i64 0, .int .i64 0, .int .i64 0, .int .i64 0, .int .i64 0, .int .i64 0, .int .i64 0, .int .i64 0, .int .i64 0, .int .i64 0, .int .i64 0, .int .i64 0, .int .i64 0, .int .i64 0] := StructAt.of Try.underlying94 zero94 rfl (fun w => by kernel_rfl)
theorem nm30 : (Try.f30.name == "runtime.NumGoroutine") = false := by kernel_rfl
theorem zero108 : (Try.prog.info? 108).map (·.zero) = some (some (.agg #[.slice none 0 0, .slice none 0 0, .int .i64 0, .int .i64 0, .int .i64 0, .int .i64 0, .int .i64 0, .int .i64 0, .int .i64 0, .int .i64 0, .int .i64 0, .int .i64 0, .int .i64 0, .int .i64 0, .int .i64 0, .int .i64 0, .int .i64 0, .int .i64 0, .int .i64 0, .int .i64 0, .int .i64 0, .int .i64 0, .int .i64 0, .int .i64 0, .int .i64 0, .int .i64 0, .int .i64 0, .int .i64 0, .int .i64 0, .int .i64 0, .int .i64 0, .int .i64 0, .int .i64 0, .int .i64 0, .slice none 0 0])) := by kernel_rfl
theorem struct108 : StructAt Try.prog 108 [(0, 34), (34, 1)] [.slice none 0 0, .slice none 0 0, .int .i64 0, .int .i64 0, .int .i64 0, .int .i64 0, .int .i64 0, .int .i64 0, .int .i64 0, .int .i64 0, .int .i64 0, .int .i64 0, .int .i64 0, .int .i64 0, .int .i64 0, .int .i64 0, .int .i64 0, .int .i64 0, .int .i64 0, .int .i64 0, .int .i64 0, .int .i64 0, .int .i64 0, .int .i64 0, .int .i64 0, .int .i64 0, .int .i64 0, .int .i64 0, .int .i64 0, .int .i64 0, .int .i64 0, .int .i64 0, .int .i64 0, .int .i64 0, .slice none 0 0] := StructAt.of Try.underlying108 zero108 rfl (fun w => by kernel_rfl)
theorem field108_0 : FieldAt Try.prog 108 0 0 := fun w a => by kernel_rfl
theorem field91_0 : FieldAt Try.prog 91 0 0 := fun w a => by kernel_rfl
theorem flat22 : Flat Try.prog 22 := Flat.of Try.underlying22 rfl
theorem field108_1 : FieldAt Try.prog 108 1 34 := fun w a => by kernel_rfl
theorem size22 : (Try.prog.info? 22).map (·.size) = some 1 := by kernel_rfl
theorem nm45 : (Try.f45.name == "runtime.NumGoroutine") = false := by kernel_rfl
theorem nm23 : (Try.f23.name == "runtime.NumGoroutine") = false := by kernel_rfl
theorem nm32 : (Try.f32.name == "runtime.NumGoroutine") = false := by kernel_rfl
theorem field94_0 : FieldAt Try.prog 94 0 0 := fun w a => by kernel_rfl
theorem nm38 : (Try.f38.name == "runtime.NumGoroutine") = false := by kernel_rfl
theorem field91_1 : FieldAt Try.prog 91 1 1 := fun w a => by kernel_rfl
theorem nm69 : (Try.f69.name == "runtime.NumGoroutine") = false := by kernel_rfl
theorem field98_1 : FieldAt Try.prog 98 1 1 := fun w a => by kernel_rfl
theorem field98_0 : FieldAt Try.prog 98 0 0 := fun w a => by kernel_rfl
theorem flat59 : Flat Try.prog 59 := Flat.of Try.underlying59 rfl
theorem info5 : (Try.prog.info? 5).map (fun i => (i.zero, i.size, i.bytes)) = some (some (.int .u8 0), 1, 1) := by kernel_rfl
theorem size59 : (Try.prog.info? 59).map (·.size) = some 1 := by kernel_rfl
theorem size5 : (Try.prog.info? 5).map (·.size) = some 1 := by kernel_rfl
theorem flat5 : Flat Try.prog 5 := Flat.of Try.underlying5 rfl
theorem nm66 : (Try.f66.name == "runtime.NumGoroutine") = false := by kernel_rfl
theorem nm34 : (Try.f34.name == "runtime.NumGoroutine") = false := by kernel_rfl
theorem nm36 : (Try.f36.name == "runtime.NumGoroutine") = false := by kernel_rfl
theorem nm43 : (Try.f43.name == "runtime.NumGoroutine") = false := by kernel_rfl
theorem nm47 : (Try.f47.name == "runtime.NumGoroutine") = false := by kernel_rfl
theorem field112_1 : FieldAt Try.prog 112 1 1 := fun w a => by kernel_rfl
theorem field112_0 : FieldAt Try.prog 112 0 0 := fun w a => by kernel_rfl
theorem nm75 : (Try.f75.name == "runtime.NumGoroutine") = false := by kernel_rfl
theorem nm70 : (Try.f70.name == "runtime.NumGoroutine") = false := by kernel_rfl
theorem nm71 : (Try.f71.name == "runtime.NumGoroutine") = false := by kernel_rfl
theorem nm72 : (Try.f72.name == "runtime.NumGoroutine") = false := by kernel_rfl
theorem field91_3 : FieldAt Try.prog 91 3 18 := fun w a => by kernel_rfl
theorem field91_2 : FieldAt Try.prog 91 2 2 := fun w a => by kernel_rfl
theorem nm49 : (Try.f49.name == "runtime.NumGoroutine") = false := by kernel_rfl
theorem nm51 : (Try.f51.name == "runtime.NumGoroutine") = false := by kernel_rfl
theorem nm56 : (Try.f56.name == "runtime.NumGoroutine") = false := by kernel_rfl
theorem nm53 : (Try.f53.name == "runtime.NumGoroutine") = false := by kernel_rfl
theorem nm40 : (Try.f40.name == "runtime.NumGoroutine") = false := by kernel_rfl
/-! function 28: valise/valiselaw5.copied -/
theorem valiselaw5_copied.calls {S0 : Nat → Prop} {w0 : World} {A_l_0 : Option Addr} {c_l_0 : Nat} {l_l_0 : List Int} {r : List Int} (HS0 : Hp S0 w0 w0 [.rd A_l_0 (rowC (Eint .i64) l_l_0)]) (hc_l_0 : l_l_0.length ≤ c_l_0) (h : valiselaw5_copied.f l_l_0 = some r) :
    Calls Try.prog 28 ([.slice A_l_0 l_l_0.length c_l_0] : List Value).toArray w0 (fun e w => ∃ (A1 : Option Addr), ∃ (c1 : Nat), e = .returned (.slice A1 r.length c1) ∧ Hp S0 w0 w [.own A1 c1 (rowC (Eint .i64) r) 3 (Eint .i64).sz]) := by
  have H : ((gd ((0 : Int) ≤ (l_l_0.length : Int) ∧ (l_l_0.length : Int) ≤ (IntKind.i64.wrap ((l_l_0.length : Int) + 4))) (gd ((IntKind.i64.wrap ((l_l_0.length : Int) + 4)) * 8 ≤ 281474976710656) (bnd (List.replicate ((l_l_0.length : Int) : Int).toNat (0 : Int)) fun l6 => bnd (cpy l6 l_l_0) fun l13 => some l13))) : Option (List Int)) = some r := h
  refine calls_start Try.func28 rfl rfl ?_
  refine L_seq ?_
  refine L_region ?_
  refine F_val rfl rfl rfl (O_assign rfl rfl) ?_
  refine F_nil ?_
  refine L_seq ?_
  refine L_region ?_
  refine F_val rfl rfl rfl (O_move rfl rfl) ?_
  refine F_val rfl rfl rfl (O_len rfl rfl Try.underlying22) ?_
  refine F_val rfl rfl rfl (O_move rfl rfl) ?_
  refine F_val rfl rfl rfl (O_len rfl rfl Try.underlying22) ?_
  refine F_val rfl rfl rfl (O_add rfl rfl rfl) ?_
  obtain ⟨⟨g3, g4⟩, H⟩ := of_gd H
  obtain ⟨g5, H⟩ := of_gd H
  obtain ⟨l6, h7, H⟩ := of_bnd H
  refine F_makeCE (E := (Eint .i64)) rfl rfl rfl rfl rfl rfl Try.underlying22 info3 rfl (by decide) (by decide) g3 g4 g5 HS0 h7 (fun w1 A8 c9 HS2 => ?_)
  have HS2 : Hp S0 w0 w1 [.rd A_l_0 (rowC (Eint .i64) l_l_0), .own A8 c9 (rowC (Eint .i64) l6) 3 (Eint .i64).sz] := HS2
  refine F_val rfl rfl rfl (O_assign rfl rfl) ?_
  refine F_nil ?_
  refine L_seq ?_
  refine L_region ?_
  refine F_val rfl rfl rfl (O_move rfl rfl) ?_
  refine F_val rfl rfl rfl (O_move rfl rfl) ?_
  obtain ⟨l13, h14, H⟩ := of_bnd H
  refine F_copyE (E := (Eint .i64)) (xs := l6) (ys := l_l_0) (i := 1) rfl rfl rfl rfl Try.underlying22 size3 rfl rfl HS2 rfl (HS2.cells_rd (i := 0) rfl) h14 (fun w11 HS12 => ?_)
  have e15 : l6.length = l13.length := by rw [← h14, cpy_length]
  refine F_know (i := 3) rfl (congrArg (fun n => Value.slice A8 n c9) e15) ?_
  have HS12 : Hp S0 w0 w11 [.rd A_l_0 (rowC (Eint .i64) l_l_0), .own A8 c9 (rowC (Eint .i64) l13) 3 (Eint .i64).sz] := HS12
  refine F_nil ?_
  refine L_seq ?_
  refine L_region ?_
  refine F_val rfl rfl rfl (O_move rfl rfl) ?_
  refine F_val rfl rfl rfl (O_assign rfl rfl) ?_
  refine F_nil ?_
  refine L_ret (fun a ha => (post_ret1 ha rfl rfl ?_))
  obtain rfl := Option.some.inj H
  exact ⟨_, _, rfl, HS12.sel [1] rfl⟩

/-! function 57: valise/code.count -/
theorem code_count.calls {S0 : Nat → Prop} {w0 : World} {A_lens_0 : Option Addr} {c_lens_0 : Nat} {l_lens_0 : List Int} {r : List Int × Int} (HS0 : Hp S0 w0 w0 [.rd A_lens_0 (rowC (Eint .i64) l_lens_0)]) (hc_lens_0 : l_lens_0.length ≤ c_lens_0) (h : code_count.f l_lens_0 = some r) :
    Calls Try.prog 57 ([.slice A_lens_0 l_lens_0.length c_lens_0] : List Value).toArray w0 (fun e w => e = .returned (.tuple #[.agg (rowC (Eint .i64) r.1).toArray, .int .i64 r.2]) ∧ Hp S0 w0 w []) := by
  have H : ((if 288 < (l_lens_0.length : Int) then (some ((List.replicate 16 (0 : Int)), 1)) else ((code_count.l1 FU (List.replicate 16 (0 : Int)) 0 l_lens_0).bind fun (yj12 : Sum (List Int × Int) (List Int)) => onR yj12 (fun r => some r) fun y83 => gd (y83.length = 16) (bnd (y83.set (0 : Int).toNat 0) fun l158 => some (l158, 0)))) : Option (List Int × Int)) = some r := h
  refine calls_start Try.func57 rfl rfl ?_
  refine L_seq ?_
  refine L_region ?_
  refine F_alloc (C := rowC (Eint .i64) (List.replicate 16 (0 : Int))) rfl rfl rfl rfl zero82 rfl HS0 (fun w1 g3 HS2 => ?_)
  have HS2 : Hp S0 w0 w1 [.rd A_lens_0 (rowC (Eint .i64) l_lens_0), .box g3 (rowC (Eint .i64) (List.replicate 16 (0 : Int))) 82] := HS2
  refine F_val rfl rfl rfl (O_assign rfl rfl) ?_
  refine F_nil ?_
  refine L_seq ?_
  refine L_region ?_
  refine F_alloc (C := rowC (Eint .i64) (List.replicate 16 (0 : Int))) rfl rfl rfl rfl zero82 rfl HS2 (fun w5 g7 HS6 => ?_)
  have HS6 : Hp S0 w0 w5 [.rd A_lens_0 (rowC (Eint .i64) l_lens_0), .box g3 (rowC (Eint .i64) (List.replicate 16 (0 : Int))) 82, .box g7 (rowC (Eint .i64) (List.replicate 16 (0 : Int))) 82] := HS6
  refine F_nil ?_
  refine L_seq ?_
  refine L_seq ?_
  refine L_region ?_
  refine F_val rfl rfl rfl (O_move rfl rfl) ?_
  refine F_val rfl rfl rfl (O_len rfl rfl Try.underlying22) ?_
  refine F_val rfl rfl rfl (O_gt rfl rfl rfl) ?_
  refine F_nil ?_
  refine L_condP rfl (fun c9 => ?_) (fun c9 => ?_)
  · have H := of_pos H c9
    refine L_seq ?_
    refine L_region ?_
    refine F_val rfl rfl rfl (O_loadSg [] (rowC (Eint .i64) (List.replicate 16 (0 : Int))) [] rfl rfl wide82 (HS6.cells_box (i := 2) rfl) (by simp only [List.append_assoc, List.cons_append, List.nil_append, List.append_nil]) rfl (row_len List.length_replicate) (by decide)) ?_
    refine F_stSg 1 (rowC (Eint .i64) (List.replicate 16 (0 : Int))) [] (rowC (Eint .i64) (List.replicate 16 (0 : Int))) (rowC (Eint .i64) (List.replicate 16 (0 : Int))) [] rfl rfl rfl rfl rfl size82 HS6 rfl rfl ones_row (by simp only [List.append_assoc, List.cons_append, List.nil_append, List.append_nil]) (by simp only [List.append_assoc, List.cons_append, List.nil_append, List.append_nil]) rfl (row_len List.length_replicate) (row_len List.length_replicate) (fun w10 HS11 => ?_)
    have HS11 : Hp S0 w0 w10 [.rd A_lens_0 (rowC (Eint .i64) l_lens_0), .box g3 (rowC (Eint .i64) (List.replicate 16 (0 : Int))) 82, .box g7 (rowC (Eint .i64) (List.replicate 16 (0 : Int))) 82] := HS11
    refine F_val rfl rfl rfl (O_assign rfl rfl) ?_
    refine F_nil ?_
    refine L_ret (fun a ha => (post_retc2 ha rfl rfl wide82 (HS11.cells_box (i := 1) rfl) (row_len List.length_replicate) (by decide) rfl ?_))
    obtain rfl := Option.some.inj H
    exact ⟨rfl, HS11.sel [] rfl⟩
  · have H := of_neg H c9
    refine L_skip ?_
    refine L_seq ?_
    refine L_seq ?_
    refine L_region ?_
    refine F_val rfl rfl rfl (O_move rfl rfl) ?_
    refine F_val rfl rfl rfl (O_len rfl rfl Try.underlying22) ?_
    refine F_val rfl rfl rfl (O_move rfl rfl) ?_
    refine F_nil ?_
    obtain ⟨yj12, Hyj12, H⟩ := of_bind H
    refine L_join (fun a w => ∃ (y83 : List Int), yj12 = Sum.inr y83 ∧ Is Try.f57.ntmps a [(2, .pointer (some ⟨g3, 0, none⟩)), (4, .pointer (some ⟨g7, 0, none⟩))] ∧ Hp S0 w0 w [.rd A_lens_0 (rowC (Eint .i64) l_lens_0), .box g3 (rowC (Eint .i64) (List.replicate 16 (0 : Int))) 82, .box g7 (rowC (Eint .i64) y83) 82]) (fun Qj12 hNj12 hOj12 => ?_) (fun a w hR => ?_)
    · have HOj12 := H
      have H := Hyj12
      refine L_blk (fun Qb84 hNb84 hXb84 hOb84 => ?_)
      refine L_lp (fun k a w => ∃ (y129 : List Int), ∃ (t130 : Int), Is Try.f57.ntmps a [(2, .pointer (some ⟨g3, 0, none⟩)), (4, .pointer (some ⟨g7, 0, none⟩)), (11, .slice A_lens_0 l_lens_0.length c_lens_0), (12, .int .i64 (l_lens_0.length : Int)), (13, .int .i64 t130)] ∧ Hp S0 w0 w [.rd A_lens_0 (rowC (Eint .i64) l_lens_0), .box g3 (rowC (Eint .i64) (List.replicate 16 (0 : Int))) 82, .box g7 (rowC (Eint .i64) y129) 82] ∧ code_count.l1 k y129 t130 l_lens_0 = some yj12) FU (fun a ha => ⟨_, _, Is.cons ha (Is.cons ha (Is.cons ha (Is.cons ha (Is.cons ha (Is.nil ha) rfl) rfl) rfl) rfl) rfl, HS6.sel [0, 1, 2] rfl, H⟩) (fun kp128 a w131 hI Qp128 hNp128 hOp128 => ?_)
      obtain ⟨y129, t130, ha, HS132, HAp128⟩ := hI
      cases kp128 with
      | zero => cases (show (none : Option _) = some _ from HAp128)
      | succ kp128 =>
        have H := (code_count.l1.eq_2 ..).symm.trans HAp128
        refine wpLF_app ?_ ha
        refine L_seq ?_
        refine L_region ?_
        refine F_val rfl rfl rfl (O_lt rfl rfl rfl) ?_
        refine F_nil ?_
        refine L_seq ?_
        refine L_condP rfl (fun c133 => ?_) (fun c133 => ?_)
        · have H := of_pos H c133
          refine L_skip ?_
          refine L_seq ?_
          refine L_blk (fun Q134 hN134 hX134 hO134 => ?_)
          refine L_seq ?_
          refine L_region ?_
          obtain ⟨⟨g135, g136⟩, H⟩ := of_gd H
          refine F_val rfl rfl rfl (O_idx rfl rfl rfl Try.underlying22 size3 g135 g136 (Cells.isA (HS132.cells_rd (i := 0) rfl) (rowC_ne (E := (Eint .i64)) g135 g136 (by decide)))) ?_
          refine F_val rfl rfl rfl (O_loadC rfl rfl flat3 (HS132.cells_rd (i := 0) rfl) (int_cell g135 g136)) ?_
          obtain ⟨x137, h138, H⟩ := of_bnd H
          refine F_val rfl rfl rfl (O_assign' rfl rfl (congrArg (Value.int .i64) h138)) ?_
          refine F_nil ?_
          refine L_seq ?_
          refine L_seq ?_
          refine L_region ?_
          refine F_val rfl rfl rfl (O_move rfl rfl) ?_
          refine F_val rfl rfl rfl (O_lt rfl rfl rfl) ?_
          refine F_val rfl rfl rfl (O_move rfl rfl) ?_
          refine F_grp 3 [(22, .bool (decide ((x137 < 0) ∨ (15 < x137)))), (2, .pointer (some ⟨g3, 0, none⟩)), (4, .pointer (some ⟨g7, 0, none⟩)), (6, .int .i64 x137), (11, .slice A_lens_0 l_lens_0.length c_lens_0), (12, .int .i64 (l_lens_0.length : Int)), (13, .int .i64 t130)] ?_ ?_
          · rcases Decidable.em (x137 < 0) with c142 | c142
            · refine F_know (i := 19) rfl (dec_t c142) ?_
              refine F_gskip rfl rfl rfl rfl rfl rfl rfl ?_
              refine F_gskip rfl rfl rfl rfl rfl rfl rfl ?_
              refine F_val rfl rfl rfl (O_pickT rfl rfl rfl) ?_
              refine F_know (i := 22) rfl (dec_or_t (q := 15 < x137) c142) ?_
              exact F_grpE (fun a ha => Is.cons ha (Is.cons ha (Is.cons ha (Is.cons ha (Is.cons ha (Is.cons ha (Is.cons ha (Is.nil ha) rfl) rfl) rfl) rfl) rfl) rfl) rfl)
            · refine F_know (i := 19) rfl (dec_f c142) ?_
              refine F_gval rfl rfl rfl rfl rfl rfl (O_move rfl rfl) ?_
              refine F_gval rfl rfl rfl rfl rfl rfl (O_gt rfl rfl rfl) ?_
              refine F_val rfl rfl rfl (O_pickF rfl rfl rfl) ?_
              refine F_know (i := 22) rfl (dec_or_f (q := 15 < x137) c142) ?_
              exact F_grpE (fun a ha => Is.cons ha (Is.cons ha (Is.cons ha (Is.cons ha (Is.cons ha (Is.cons ha (Is.cons ha (Is.nil ha) rfl) rfl) rfl) rfl) rfl) rfl) rfl)
          · skip
            refine F_nil ?_
            refine L_condP rfl (fun c143 => ?_) (fun c143 => ?_)
            · have H := of_pos H c143
              refine L_seq ?_
              refine L_region ?_
              refine F_val rfl rfl rfl (O_build (vs := []) (v := .agg (rowC (Eint .i64) (List.replicate 16 (0 : Int))).toArray) rfl rfl rfl zarr82) ?_
              refine F_stSg 1 (rowC (Eint .i64) (List.replicate 16 (0 : Int))) [] (rowC (Eint .i64) (List.replicate 16 (0 : Int))) (rowC (Eint .i64) (List.replicate 16 (0 : Int))) [] rfl rfl rfl rfl rfl size82 HS132 rfl rfl ones_row (by simp only [List.append_assoc, List.cons_append, List.nil_append, List.append_nil]) (by simp only [List.append_assoc, List.cons_append, List.nil_append, List.append_nil]) rfl (row_len List.length_replicate) (row_len List.length_replicate) (fun w144 HS145 => ?_)
              have HS145 : Hp S0 w0 w144 [.rd A_lens_0 (rowC (Eint .i64) l_lens_0), .box g3 (rowC (Eint .i64) (List.replicate 16 (0 : Int))) 82, .box g7 (rowC (Eint .i64) y129) 82] := HS145
              refine F_val rfl rfl rfl (O_assign rfl rfl) ?_
              refine F_nil ?_
              refine L_ret (fun a ha => (hO134 .ret a _ rfl (hOp128 .ret a _ rfl (hOb84 .ret a _ rfl (hOj12 .ret a _ rfl (post_retc2 ha rfl rfl wide82 (HS145.cells_box (i := 1) rfl) (row_len List.length_replicate) (by decide) rfl ?_))))))
              obtain rfl := Option.some.inj H
              obtain rfl := Option.some.inj (show (some ((List.replicate 16 (0 : Int)), 50) : Option (List Int × Int)) = some _ from HOj12)
              exact ⟨rfl, HS145.sel [] rfl⟩
            · have H := of_neg H c143
              refine L_skip ?_
              refine L_region ?_
              refine F_val rfl rfl rfl (O_move rfl rfl) ?_
              obtain ⟨⟨g146, g147⟩, H⟩ := of_gd H
              refine F_val rfl rfl rfl (O_idxA rfl rfl rfl Try.underlying82 size3 g146 g147) ?_
              obtain ⟨g148, H⟩ := of_gd H
              refine F_val rfl rfl rfl (O_loadB rfl rfl flat3 (HS132.cells_box (i := 2) rfl) (at0 (int_cell g146 (arr_lt g148 g147)))) ?_
              refine F_val rfl rfl rfl (O_add rfl rfl rfl) ?_
              refine F_val rfl rfl rfl (O_idxA rfl rfl rfl Try.underlying82 size3 g146 g147) ?_
              obtain ⟨l151, h152, H⟩ := of_bnd H
              refine F_stAr (E := (Eint .i64)) (xs := y129) (q := x137) (a := IntKind.i64.wrap ((rd y129 x137) + 1)) (off := 0) 2 (rowC (Eint .i64) l151) [] [] rfl rfl rfl rfl rfl size3 HS132 rfl rfl (by simp only [List.append_assoc, List.cons_append, List.nil_append, List.append_nil]) rfl g146 (arr_lt g148 g147) h152 (by simp only [List.append_assoc, List.cons_append, List.nil_append, List.append_nil]) (fun w149 HS150 => ?_)
              have hl153 : l151.length = 16 := by rw [← h152, List.length_set]; exact g148
              have HS150 : Hp S0 w0 w149 [.rd A_lens_0 (rowC (Eint .i64) l_lens_0), .box g3 (rowC (Eint .i64) (List.replicate 16 (0 : Int))) 82, .box g7 (rowC (Eint .i64) l151) 82] := HS150
              refine F_nil ?_
              refine L_endB hN134 ?_
              refine L_region ?_
              refine F_val rfl rfl rfl (O_add rfl rfl rfl) ?_
              refine F_val rfl rfl rfl (O_move rfl rfl) ?_
              refine F_nil ?_
              refine L_nil (fun a ha => hNp128 _ a _ (Nat.lt_succ_self _) ⟨_, _, Is.cons ha (Is.cons ha (Is.cons ha (Is.cons ha (Is.cons ha (Is.nil ha) rfl) rfl) rfl) rfl) rfl, HS150.sel [0, 1, 2] rfl, H⟩)
        · have H := of_neg H c133
          refine L_exitB (fun a w h => hOp128 (.exit 0) a w rfl (hXb84 a w h)) ?_
          refine L_nil (fun a ha => hNj12 a _ ⟨_, (Option.some.inj H).symm, Is.cons ha (Is.cons ha (Is.nil ha) rfl) rfl, HS132.sel [0, 1, 2] rfl⟩)
    · obtain ⟨y83, rfl, ha, HS155⟩ := hR
      refine wpLF_app ?_ ha
      have H := (onR_inr _ _ _).symm.trans H
      refine L_seq ?_
      refine L_region ?_
      refine F_val rfl rfl rfl (O_idxA rfl rfl rfl Try.underlying82 size3 (by decide) (by decide)) ?_
      obtain ⟨g160, H⟩ := of_gd H
      obtain ⟨l158, h159, H⟩ := of_bnd H
      refine F_stAr (E := (Eint .i64)) (xs := y83) (q := 0) (a := 0) (off := 0) 2 (rowC (Eint .i64) l158) [] [] rfl rfl rfl rfl rfl size3 HS155 rfl rfl (by simp only [List.append_assoc, List.cons_append, List.nil_append, List.append_nil]) rfl (by decide) (arr_lt g160 (by decide)) h159 (by simp only [List.append_assoc, List.cons_append, List.nil_append, List.append_nil]) (fun w156 HS157 => ?_)
      have hl161 : l158.length = 16 := by rw [← h159, List.length_set]; exact g160
      have HS157 : Hp S0 w0 w156 [.rd A_lens_0 (rowC (Eint .i64) l_lens_0), .box g3 (rowC (Eint .i64) (List.replicate 16 (0 : Int))) 82, .box g7 (rowC (Eint .i64) l158) 82] := HS157
      refine F_nil ?_
      refine L_seq ?_
      refine L_region ?_
      refine F_val rfl rfl rfl (O_loadSg [] (rowC (Eint .i64) l158) [] rfl rfl wide82 (HS157.cells_box (i := 2) rfl) (by simp only [List.append_assoc, List.cons_append, List.nil_append, List.append_nil]) rfl (row_len hl161) (by decide)) ?_
      refine F_stSg 1 (rowC (Eint .i64) l158) [] (rowC (Eint .i64) (List.replicate 16 (0 : Int))) (rowC (Eint .i64) l158) [] rfl rfl rfl rfl rfl size82 HS157 rfl rfl ones_row (by simp only [List.append_assoc, List.cons_append, List.nil_append, List.append_nil]) (by simp only [List.append_assoc, List.cons_append, List.nil_append, List.append_nil]) rfl (row_len List.length_replicate) (row_len hl161) (fun w162 HS163 => ?_)
      have HS163 : Hp S0 w0 w162 [.rd A_lens_0 (rowC (Eint .i64) l_lens_0), .box g3 (rowC (Eint .i64) l158) 82, .box g7 (rowC (Eint .i64) l158) 82] := HS163
      refine F_val rfl rfl rfl (O_assign rfl rfl) ?_
      refine F_nil ?_
      refine L_ret (fun a ha => (post_retc2 ha rfl rfl wide82 (HS163.cells_box (i := 1) rfl) (row_len hl161) (by decide) rfl ?_))
      obtain rfl := Option.some.inj H
      exact ⟨rfl, HS163.sel [] rfl⟩

/-! function 58: valise/code.shape -/
theorem code_shape.calls {S0 : Nat → Prop} {w0 : World} {l_n_0 : List Int} {r : Int} (HS0 : Hp S0 w0 w0 []) (h : code_shape.f l_n_0 = some r) :
    Calls Try.prog 58 ([.agg (rowC (Eint .i64) l_n_0).toArray] : List Value).toArray w0 (fun e w => e = .returned (.int .i64 r) ∧ Hp S0 w0 w []) := by
  have H : (((code_shape.l1 FU 0 0 1 l_n_0).bind fun (words_49, used_50) => if words_49 = 0 then (some 0) else ((if words_49 = 1 then (gd (l_n_0.length = 16) (some (decide (rd l_n_0 1 = 1)))) else (some false)).bind fun b99 => if b99 = true then (some 1) else (if 32768 < used_50 then (some 3) else (if used_50 = 32768 then (some 4) else (some 2))))) : Option (Int)) = some r := h
  refine calls_start Try.func58 rfl rfl ?_
  refine L_seq ?_
  refine L_region ?_
  refine F_box (C := rowC (Eint .i64) l_n_0) rfl rfl rfl rfl rfl rfl HS0 (fun w1 g3 HS2 => ?_)
  have HS2 : Hp S0 w0 w1 [.box g3 (rowC (Eint .i64) l_n_0) 82] := HS2
  refine F_val rfl rfl rfl (O_assign rfl rfl) ?_
  refine F_nil ?_
  refine L_seq ?_
  refine L_region ?_
  refine F_val rfl rfl rfl (O_assign rfl rfl) ?_
  refine F_val rfl rfl rfl (O_assign rfl rfl) ?_
  refine F_nil ?_
  refine L_seq ?_
  refine L_seq ?_
  refine L_region ?_
  refine F_val rfl rfl rfl (O_assign rfl rfl) ?_
  refine F_nil ?_
  obtain ⟨yj5, Hyj5, H⟩ := of_bind H
  refine L_join (fun a w => ∃ (words_49 : Int), ∃ (used_50 : Int), yj5 = (words_49, used_50) ∧ Is Try.f58.ntmps a [(1, .pointer (some ⟨g3, 0, none⟩)), (3, .int .i64 words_49), (4, .int .i64 used_50)] ∧ Hp S0 w0 w [.box g3 (rowC (Eint .i64) l_n_0) 82]) (fun Qj5 hNj5 hOj5 => ?_) (fun a w hR => ?_)
  · skip
    have H := Hyj5
    refine L_blk (fun Qb51 hNb51 hXb51 hOb51 => ?_)
    refine L_lp (fun k a w => ∃ (words_77 : Int), ∃ (used_78 : Int), ∃ (l_79 : Int), Is Try.f58.ntmps a [(1, .pointer (some ⟨g3, 0, none⟩)), (3, .int .i64 words_77), (4, .int .i64 used_78), (5, .int .i64 l_79)] ∧ Hp S0 w0 w [.box g3 (rowC (Eint .i64) l_n_0) 82] ∧ code_shape.l1 k words_77 used_78 l_79 l_n_0 = some yj5) FU (fun a ha => ⟨_, _, _, Is.cons ha (Is.cons ha (Is.cons ha (Is.cons ha (Is.nil ha) rfl) rfl) rfl) rfl, HS2.sel [0] rfl, H⟩) (fun kp76 a w80 hI Qp76 hNp76 hOp76 => ?_)
    obtain ⟨words_77, used_78, l_79, ha, HS81, HAp76⟩ := hI
    cases kp76 with
    | zero => cases (show (none : Option _) = some _ from HAp76)
    | succ kp76 =>
      have H := (code_shape.l1.eq_2 ..).symm.trans HAp76
      refine wpLF_app ?_ ha
      refine L_seq ?_
      refine L_seq ?_
      refine L_region ?_
      refine F_val rfl rfl rfl (O_move rfl rfl) ?_
      refine F_val rfl rfl rfl (O_le rfl rfl rfl) ?_
      refine F_nil ?_
      refine L_condP rfl (fun c82 => ?_) (fun c82 => ?_)
      · have H := of_pos H c82
        refine L_skip ?_
        refine L_seq ?_
        refine L_blk (fun Q83 hN83 hX83 hO83 => ?_)
        refine L_seq ?_
        refine L_region ?_
        refine F_val rfl rfl rfl (O_move rfl rfl) ?_
        refine F_val rfl rfl rfl (O_move rfl rfl) ?_
        obtain ⟨⟨g84, g85⟩, H⟩ := of_gd H
        refine F_val rfl rfl rfl (O_idxA rfl rfl rfl Try.underlying82 size3 g84 g85) ?_
        obtain ⟨g86, H⟩ := of_gd H
        refine F_val rfl rfl rfl (O_loadB rfl rfl flat3 (HS81.cells_box (i := 0) rfl) (at0 (int_cell g84 (arr_lt g86 g85)))) ?_
        refine F_val rfl rfl rfl (O_add rfl rfl rfl) ?_
        obtain ⟨x87, h88, H⟩ := of_bnd H
        refine F_val rfl rfl rfl (O_assign' rfl rfl (congrArg (Value.int .i64) h88)) ?_
        refine F_nil ?_
        refine L_region ?_
        refine F_val rfl rfl rfl (O_move rfl rfl) ?_
        refine F_val rfl rfl rfl (O_move rfl rfl) ?_
        refine F_val rfl rfl rfl (O_idxA rfl rfl rfl Try.underlying82 size3 g84 g85) ?_
        refine F_val rfl rfl rfl (O_loadB rfl rfl flat3 (HS81.cells_box (i := 0) rfl) (at0 (int_cell g84 (arr_lt g86 g85)))) ?_
        refine F_val rfl rfl rfl (O_move rfl rfl) ?_
        refine F_val rfl rfl rfl (O_sub rfl rfl rfl) ?_
        obtain ⟨g89, H⟩ := of_gd H
        refine F_val rfl rfl rfl (O_shl rfl rfl rfl g89) ?_
        refine F_val rfl rfl rfl (O_add rfl rfl rfl) ?_
        obtain ⟨x90, h91, H⟩ := of_bnd H
        refine F_val rfl rfl rfl (O_assign' rfl rfl (congrArg (Value.int .i64) h91)) ?_
        refine F_nil ?_
        refine L_endB hN83 ?_
        refine L_region ?_
        refine F_val rfl rfl rfl (O_move rfl rfl) ?_
        refine F_val rfl rfl rfl (O_add rfl rfl rfl) ?_
        obtain ⟨x92, h93, H⟩ := of_bnd H
        refine F_val rfl rfl rfl (O_assign' rfl rfl (congrArg (Value.int .i64) h93)) ?_
        refine F_nil ?_
        refine L_nil (fun a ha => hNp76 _ a _ (Nat.lt_succ_self _) ⟨_, _, _, Is.cons ha (Is.cons ha (Is.cons ha (Is.cons ha (Is.nil ha) rfl) rfl) rfl) rfl, HS81.sel [0] rfl, H⟩)
      · have H := of_neg H c82
        refine L_exitB (fun a w h => hOp76 (.exit 0) a w rfl (hXb51 a w h)) ?_
        refine L_nil (fun a ha => hNj5 a _ ⟨_, _, (Option.some.inj H).symm, Is.cons ha (Is.cons ha (Is.cons ha (Is.nil ha) rfl) rfl) rfl, HS81.sel [0] rfl⟩)
  · obtain ⟨words_49, used_50, rfl, ha, HS95⟩ := hR
    refine wpLF_app ?_ ha
    refine L_seq ?_
    refine L_blk (fun Q96 hN96 hX96 hO96 => ?_)
    refine L_seq ?_
    refine L_region ?_
    refine F_val rfl rfl rfl (O_move rfl rfl) ?_
    refine F_val rfl rfl rfl (O_eq rfl rfl rfl) ?_
    refine F_val rfl rfl rfl (O_assign rfl rfl) ?_
    refine F_nil ?_
    refine L_condP rfl (fun c97 => ?_) (fun c97 => ?_)
    · have H := of_pos H c97
      refine L_seq ?_
      refine L_region ?_
      refine F_val rfl rfl rfl (O_assign rfl rfl) ?_
      refine F_nil ?_
      refine L_ret (fun a ha => (hO96 .ret a _ rfl (post_ret1 ha rfl rfl ?_)))
      obtain rfl := Option.some.inj H
      exact ⟨rfl, HS95.sel [] rfl⟩
    · have H := of_neg H c97
      refine L_seq ?_
      refine L_region ?_
      refine F_val rfl rfl rfl (O_move rfl rfl) ?_
      refine F_val rfl rfl rfl (O_eq rfl rfl rfl) ?_
      refine F_val rfl rfl rfl (O_move rfl rfl) ?_
      obtain ⟨b99, Hb99, H⟩ := of_bind H
      refine F_grp 4 [(33, .bool b99), (4, .int .i64 used_50)] ?_ ?_
      · rcases Decidable.em (words_49 = 1) with c103 | c103
        · refine F_know (i := 29) rfl (dec_t c103) ?_
          have H := of_pos Hb99 c103
          refine F_gval rfl rfl rfl rfl rfl rfl (O_idxA rfl rfl rfl Try.underlying82 size3 (by decide) (by decide)) ?_
          obtain ⟨g104, H⟩ := of_gd H
          refine F_gval rfl rfl rfl rfl rfl rfl (O_loadB rfl rfl flat3 (HS95.cells_box (i := 0) rfl) (at0 (int_cell (by decide) (arr_lt g104 (by decide))))) ?_
          refine F_gval rfl rfl rfl rfl rfl rfl (O_eq rfl rfl rfl) ?_
          refine F_val rfl rfl rfl (O_pickT rfl rfl rfl) ?_
          refine F_know (i := 33) rfl (congrArg Value.bool (Option.some.inj H)) ?_
          exact F_grpE (fun a ha => Is.cons ha (Is.cons ha (Is.nil ha) rfl) rfl)
        · refine F_know (i := 29) rfl (dec_f c103) ?_
          have H := of_neg Hb99 c103
          refine F_gskip rfl rfl rfl rfl rfl rfl rfl ?_
          refine F_gskip rfl rfl rfl rfl rfl rfl rfl ?_
          refine F_gskip rfl rfl rfl rfl rfl rfl rfl ?_
          refine F_val rfl rfl rfl (O_pickF rfl rfl rfl) ?_
          refine F_know (i := 33) rfl (congrArg Value.bool (Option.some.inj H)) ?_
          exact F_grpE (fun a ha => Is.cons ha (Is.cons ha (Is.nil ha) rfl) rfl)
      · skip
        refine F_val rfl rfl rfl (O_assign rfl rfl) ?_
        refine F_nil ?_
        refine L_cond rfl (fun c105 => ?_) (fun c105 => ?_)
        · have H := of_pos H c105
          refine L_seq ?_
          refine L_region ?_
          refine F_val rfl rfl rfl (O_assign rfl rfl) ?_
          refine F_nil ?_
          refine L_ret (fun a ha => (hO96 .ret a _ rfl (post_ret1 ha rfl rfl ?_)))
          obtain rfl := Option.some.inj H
          exact ⟨rfl, HS95.sel [] rfl⟩
        · have H := of_neg H (by rw [c105]; exact Bool.false_ne_true)
          refine L_seq ?_
          refine L_region ?_
          refine F_val rfl rfl rfl (O_move rfl rfl) ?_
          refine F_val rfl rfl rfl (O_gt rfl rfl rfl) ?_
          refine F_val rfl rfl rfl (O_assign rfl rfl) ?_
          refine F_nil ?_
          refine L_condP rfl (fun c106 => ?_) (fun c106 => ?_)
          · have H := of_pos H c106
            refine L_seq ?_
            refine L_region ?_
            refine F_val rfl rfl rfl (O_assign rfl rfl) ?_
            refine F_nil ?_
            refine L_ret (fun a ha => (hO96 .ret a _ rfl (post_ret1 ha rfl rfl ?_)))
            obtain rfl := Option.some.inj H
            exact ⟨rfl, HS95.sel [] rfl⟩
          · have H := of_neg H c106
            refine L_seq ?_
            refine L_region ?_
            refine F_val rfl rfl rfl (O_move rfl rfl) ?_
            refine F_val rfl rfl rfl (O_eq rfl rfl rfl) ?_
            refine F_val rfl rfl rfl (O_assign rfl rfl) ?_
            refine F_nil ?_
            refine L_condP rfl (fun c107 => ?_) (fun c107 => ?_)
            · have H := of_pos H c107
              refine L_seq ?_
              refine L_region ?_
              refine F_val rfl rfl rfl (O_assign rfl rfl) ?_
              refine F_nil ?_
              refine L_ret (fun a ha => (hO96 .ret a _ rfl (post_ret1 ha rfl rfl ?_)))
              obtain rfl := Option.some.inj H
              exact ⟨rfl, HS95.sel [] rfl⟩
            · have H := of_neg H c107
              refine L_skip ?_
              refine L_endB hN96 ?_
              refine L_seq ?_
              refine L_region ?_
              refine F_val rfl rfl rfl (O_assign rfl rfl) ?_
              refine F_nil ?_
              refine L_ret (fun a ha => (post_ret1 ha rfl rfl ?_))
              obtain rfl := Option.some.inj H
              exact ⟨rfl, HS95.sel [] rfl⟩

/-! function 64: valise/code.refused -/
theorem code_refused.calls {S0 : Nat → Prop} {w0 : World} {s_0 : Int} {r : Int} (HS0 : Hp S0 w0 w0 []) (h : code_refused.f s_0 = some r) :
    Calls Try.prog 64 ([.int .i64 s_0] : List Value).toArray w0 (fun e w => e = .returned (.int .i64 r) ∧ Hp S0 w0 w []) := by
  have H : ((if s_0 = 2 then (some 52) else (if s_0 = 3 then (some 51) else (some 0))) : Option (Int)) = some r := h
  refine calls_start Try.func64 rfl rfl ?_
  refine L_seq ?_
  refine L_region ?_
  refine F_val rfl rfl rfl (O_assign rfl rfl) ?_
  refine F_nil ?_
  refine L_seq ?_
  refine L_seq ?_
  refine L_region ?_
  refine F_val rfl rfl rfl (O_move rfl rfl) ?_
  refine F_nil ?_
  refine L_blk (fun Q1 hN1 hX1 hO1 => ?_)
  refine L_seq ?_
  refine L_region ?_
  refine F_val rfl rfl rfl (O_eq rfl rfl rfl) ?_
  refine F_val rfl rfl rfl (O_assign rfl rfl) ?_
  refine F_nil ?_
  refine L_condP rfl (fun c2 => ?_) (fun c2 => ?_)
  · have H := of_pos H c2
    refine L_seq ?_
    refine L_region ?_
    refine F_val rfl rfl rfl (O_assign rfl rfl) ?_
    refine F_nil ?_
    refine L_ret (fun a ha => (hO1 .ret a _ rfl (post_ret1 ha rfl rfl ?_)))
    obtain rfl := Option.some.inj H
    exact ⟨rfl, HS0.sel [] rfl⟩
  · have H := of_neg H c2
    refine L_seq ?_
    refine L_region ?_
    refine F_val rfl rfl rfl (O_eq rfl rfl rfl) ?_
    refine F_val rfl rfl rfl (O_assign rfl rfl) ?_
    refine F_nil ?_
    refine L_condP rfl (fun c3 => ?_) (fun c3 => ?_)
    · have H := of_pos H c3
      refine L_seq ?_
      refine L_region ?_
      refine F_val rfl rfl rfl (O_assign rfl rfl) ?_
      refine F_nil ?_
      refine L_ret (fun a ha => (hO1 .ret a _ rfl (post_ret1 ha rfl rfl ?_)))
      obtain rfl := Option.some.inj H
      exact ⟨rfl, HS0.sel [] rfl⟩
    · have H := of_neg H c3
      refine L_skip ?_
      refine L_endB hN1 ?_
      refine L_seq ?_
      refine L_region ?_
      refine F_val rfl rfl rfl (O_assign rfl rfl) ?_
      refine F_nil ?_
      refine L_ret (fun a ha => (post_ret1 ha rfl rfl ?_))
      obtain rfl := Option.some.inj H
      exact ⟨rfl, HS0.sel [] rfl⟩

/-! function 62: valise/code.first -/
theorem code_first.calls {S0 : Nat → Prop} {w0 : World} {l_n_0 : List Int} {r : List Int} (HS0 : Hp S0 w0 w0 []) (h : code_first.f l_n_0 = some r) :
    Calls Try.prog 62 ([.agg (rowC (Eint .i64) l_n_0).toArray] : List Value).toArray w0 (fun e w => e = .returned (.agg (rowC (Eint .i64) r).toArray) ∧ Hp S0 w0 w []) := by
  have H : (((code_first.l1 FU (List.replicate 16 (0 : Int)) 0 1 l_n_0).bind fun y71 => gd (y71.length = 16) (some y71)) : Option (List Int)) = some r := h
  refine calls_start Try.func62 rfl rfl ?_
  refine L_seq ?_
  refine L_region ?_
  refine F_box (C := rowC (Eint .i64) l_n_0) rfl rfl rfl rfl rfl rfl HS0 (fun w1 g3 HS2 => ?_)
  have HS2 : Hp S0 w0 w1 [.box g3 (rowC (Eint .i64) l_n_0) 82] := HS2
  refine F_alloc (C := rowC (Eint .i64) (List.replicate 16 (0 : Int))) rfl rfl rfl rfl zero82 rfl HS2 (fun w5 g7 HS6 => ?_)
  have HS6 : Hp S0 w0 w5 [.box g3 (rowC (Eint .i64) l_n_0) 82, .box g7 (rowC (Eint .i64) (List.replicate 16 (0 : Int))) 82] := HS6
  refine F_nil ?_
  refine L_seq ?_
  refine L_region ?_
  refine F_alloc (C := rowC (Eint .i64) (List.replicate 16 (0 : Int))) rfl rfl rfl rfl zero82 rfl HS6 (fun w9 g11 HS10 => ?_)
  have HS10 : Hp S0 w0 w9 [.box g3 (rowC (Eint .i64) l_n_0) 82, .box g7 (rowC (Eint .i64) (List.replicate 16 (0 : Int))) 82, .box g11 (rowC (Eint .i64) (List.replicate 16 (0 : Int))) 82] := HS10
  refine F_nil ?_
  refine L_seq ?_
  refine L_region ?_
  refine F_val rfl rfl rfl (O_assign rfl rfl) ?_
  refine F_nil ?_
  refine L_seq ?_
  refine L_seq ?_
  refine L_region ?_
  refine F_val rfl rfl rfl (O_assign rfl rfl) ?_
  refine F_nil ?_
  obtain ⟨yj13, Hyj13, H⟩ := of_bind H
  refine L_join (fun a w => ∃ (y71 : List Int), yj13 = y71 ∧ Is Try.f62.ntmps a [(2, .pointer (some ⟨g7, 0, none⟩)), (3, .pointer (some ⟨g11, 0, none⟩))] ∧ Hp S0 w0 w [.box g7 (rowC (Eint .i64) (List.replicate 16 (0 : Int))) 82, .box g11 (rowC (Eint .i64) y71) 82]) (fun Qj13 hNj13 hOj13 => ?_) (fun a w hR => ?_)
  · skip
    have H := Hyj13
    refine L_blk (fun Qb72 hNb72 hXb72 hOb72 => ?_)
    refine L_lp (fun k a w => ∃ (y107 : List Int), ∃ (word_108 : Int), ∃ (l_109 : Int), Is Try.f62.ntmps a [(1, .pointer (some ⟨g3, 0, none⟩)), (2, .pointer (some ⟨g7, 0, none⟩)), (3, .pointer (some ⟨g11, 0, none⟩)), (4, .int .i64 word_108), (5, .int .i64 l_109)] ∧ Hp S0 w0 w [.box g3 (rowC (Eint .i64) l_n_0) 82, .box g7 (rowC (Eint .i64) (List.replicate 16 (0 : Int))) 82, .box g11 (rowC (Eint .i64) y107) 82] ∧ code_first.l1 k y107 word_108 l_109 l_n_0 = some yj13) FU (fun a ha => ⟨_, _, _, Is.cons ha (Is.cons ha (Is.cons ha (Is.cons ha (Is.cons ha (Is.nil ha) rfl) rfl) rfl) rfl) rfl, HS10.sel [0, 1, 2] rfl, H⟩) (fun kp106 a w110 hI Qp106 hNp106 hOp106 => ?_)
    obtain ⟨y107, word_108, l_109, ha, HS111, HAp106⟩ := hI
    cases kp106 with
    | zero => cases (show (none : Option _) = some _ from HAp106)
    | succ kp106 =>
      have H := (code_first.l1.eq_2 ..).symm.trans HAp106
      refine wpLF_app ?_ ha
      refine L_seq ?_
      refine L_seq ?_
      refine L_region ?_
      refine F_val rfl rfl rfl (O_move rfl rfl) ?_
      refine F_val rfl rfl rfl (O_le rfl rfl rfl) ?_
      refine F_nil ?_
      refine L_condP rfl (fun c112 => ?_) (fun c112 => ?_)
      · have H := of_pos H c112
        refine L_skip ?_
        refine L_seq ?_
        refine L_blk (fun Q113 hN113 hX113 hO113 => ?_)
        refine L_seq ?_
        refine L_region ?_
        refine F_val rfl rfl rfl (O_move rfl rfl) ?_
        refine F_val rfl rfl rfl (O_move rfl rfl) ?_
        refine F_val rfl rfl rfl (O_sub rfl rfl rfl) ?_
        obtain ⟨⟨g114, g115⟩, H⟩ := of_gd H
        refine F_val rfl rfl rfl (O_idxA rfl rfl rfl Try.underlying82 size3 g114 g115) ?_
        obtain ⟨g116, H⟩ := of_gd H
        refine F_val rfl rfl rfl (O_loadB rfl rfl flat3 (HS111.cells_box (i := 0) rfl) (at0 (int_cell g114 (arr_lt g116 g115)))) ?_
        refine F_val rfl rfl rfl (O_add rfl rfl rfl) ?_
        refine F_val rfl rfl rfl (O_shl rfl rfl rfl (by decide)) ?_
        obtain ⟨x117, h118, H⟩ := of_bnd H
        refine F_val rfl rfl rfl (O_assign' rfl rfl (congrArg (Value.int .i64) h118)) ?_
        refine F_nil ?_
        refine L_region ?_
        refine F_val rfl rfl rfl (O_move rfl rfl) ?_
        refine F_val rfl rfl rfl (O_move rfl rfl) ?_
        obtain ⟨⟨g119, g120⟩, H⟩ := of_gd H
        refine F_val rfl rfl rfl (O_idxA rfl rfl rfl Try.underlying82 size3 g119 g120) ?_
        obtain ⟨g125, H⟩ := of_gd H
        obtain ⟨l123, h124, H⟩ := of_bnd H
        refine F_stAr (E := (Eint .i64)) (xs := y107) (q := l_109) (a := x117) (off := 0) 2 (rowC (Eint .i64) l123) [] [] rfl rfl rfl rfl rfl size3 HS111 rfl rfl (by simp only [List.append_assoc, List.cons_append, List.nil_append, List.append_nil]) rfl g119 (arr_lt g125 g120) h124 (by simp only [List.append_assoc, List.cons_append, List.nil_append, List.append_nil]) (fun w121 HS122 => ?_)
        have hl126 : l123.length = 16 := by rw [← h124, List.length_set]; exact g125
        have HS122 : Hp S0 w0 w121 [.box g3 (rowC (Eint .i64) l_n_0) 82, .box g7 (rowC (Eint .i64) (List.replicate 16 (0 : Int))) 82, .box g11 (rowC (Eint .i64) l123) 82] := HS122
        refine F_nil ?_
        refine L_endB hN113 ?_
        refine L_region ?_
        refine F_val rfl rfl rfl (O_move rfl rfl) ?_
        refine F_val rfl rfl rfl (O_add rfl rfl rfl) ?_
        obtain ⟨x127, h128, H⟩ := of_bnd H
        refine F_val rfl rfl rfl (O_assign' rfl rfl (congrArg (Value.int .i64) h128)) ?_
        refine F_nil ?_
        refine L_nil (fun a ha => hNp106 _ a _ (Nat.lt_succ_self _) ⟨_, _, _, Is.cons ha (Is.cons ha (Is.cons ha (Is.cons ha (Is.cons ha (Is.nil ha) rfl) rfl) rfl) rfl) rfl, HS122.sel [0, 1, 2] rfl, H⟩)
      · have H := of_neg H c112
        refine L_exitB (fun a w h => hOp106 (.exit 0) a w rfl (hXb72 a w h)) ?_
        refine L_nil (fun a ha => hNj13 a _ ⟨_, (Option.some.inj H).symm, Is.cons ha (Is.cons ha (Is.nil ha) rfl) rfl, HS111.sel [1, 2] rfl⟩)
  · obtain ⟨y71, ej, ha, HS130⟩ := hR
    obtain rfl := ej.symm
    refine wpLF_app ?_ ha
    refine L_seq ?_
    refine L_region ?_
    obtain ⟨g131, H⟩ := of_gd H
    refine F_val rfl rfl rfl (O_loadSg [] (rowC (Eint .i64) y71) [] rfl rfl wide82 (HS130.cells_box (i := 1) rfl) (by simp only [List.append_assoc, List.cons_append, List.nil_append, List.append_nil]) rfl (row_len g131) (by decide)) ?_
    refine F_stSg 0 (rowC (Eint .i64) y71) [] (rowC (Eint .i64) (List.replicate 16 (0 : Int))) (rowC (Eint .i64) y71) [] rfl rfl rfl rfl rfl size82 HS130 rfl rfl ones_row (by simp only [List.append_assoc, List.cons_append, List.nil_append, List.append_nil]) (by simp only [List.append_assoc, List.cons_append, List.nil_append, List.append_nil]) rfl (row_len List.length_replicate) (row_len g131) (fun w132 HS133 => ?_)
    have HS133 : Hp S0 w0 w132 [.box g7 (rowC (Eint .i64) y71) 82, .box g11 (rowC (Eint .i64) y71) 82] := HS133
    refine F_nil ?_
    refine L_ret (fun a ha => (post_retc1 ha rfl rfl wide82 (HS133.cells_box (i := 0) rfl) (row_len g131) (by decide) ?_))
    obtain rfl := Option.some.inj H
    exact ⟨rfl, HS133.sel [] rfl⟩

/-! function 61: valise/code.words -/
theorem code_words.calls {S0 : Nat → Prop} {w0 : World} {A_lens_0 : Option Addr} {c_lens_0 : Nat} {l_lens_0 : List Int} {l_next_1 : List Int} {r : List Int} (HS0 : Hp S0 w0 w0 [.rd A_lens_0 (rowC (Eint .i64) l_lens_0)]) (hc_lens_0 : l_lens_0.length ≤ c_lens_0) (h : code_words.f l_lens_0 l_next_1 = some r) :
    Calls Try.prog 61 ([.slice A_lens_0 l_lens_0.length c_lens_0, .agg (rowC (Eint .i64) l_next_1).toArray] : List Value).toArray w0 (fun e w => ∃ (A1 : Option Addr), ∃ (c1 : Nat), e = .returned (.slice A1 r.length c1) ∧ Hp S0 w0 w [.own A1 c1 (rowC (Eint .i64) r) 3 (Eint .i64).sz]) := by
  have H : ((gd ((0 : Int) ≤ (l_lens_0.length : Int) ∧ (l_lens_0.length : Int) * 8 ≤ 281474976710656) (bnd (List.replicate ((l_lens_0.length : Int) : Int).toNat (0 : Int)) fun l9 => (code_words.l1 FU l9 l_next_1 0 l_lens_0).bind fun l154 => some l154)) : Option (List Int)) = some r := h
  refine calls_start Try.func61 rfl rfl ?_
  refine L_seq ?_
  refine L_region ?_
  refine F_box (C := rowC (Eint .i64) l_next_1) rfl rfl rfl rfl rfl rfl HS0 (fun w1 g3 HS2 => ?_)
  have HS2 : Hp S0 w0 w1 [.rd A_lens_0 (rowC (Eint .i64) l_lens_0), .box g3 (rowC (Eint .i64) l_next_1) 82] := HS2
  refine F_val rfl rfl rfl (O_assign rfl rfl) ?_
  refine F_nil ?_
  refine L_seq ?_
  refine L_region ?_
  refine F_val rfl rfl rfl (O_move rfl rfl) ?_
  refine F_val rfl rfl rfl (O_len rfl rfl Try.underlying22) ?_
  obtain ⟨⟨g7, g8⟩, H⟩ := of_gd H
  obtain ⟨l9, h10, H⟩ := of_bnd H
  refine F_makeE (E := (Eint .i64)) rfl rfl rfl rfl rfl rfl Try.underlying22 info3 rfl (by decide) (by decide) g7 g8 HS2 h10 (fun w5 A11 c12 HS6 => ?_)
  have HS6 : Hp S0 w0 w5 [.rd A_lens_0 (rowC (Eint .i64) l_lens_0), .box g3 (rowC (Eint .i64) l_next_1) 82, .own A11 c12 (rowC (Eint .i64) l9) 3 (Eint .i64).sz] := HS6
  refine F_val rfl rfl rfl (O_assign rfl rfl) ?_
  refine F_nil ?_
  refine L_seq ?_
  refine L_seq ?_
  refine L_region ?_
  refine F_val rfl rfl rfl (O_move rfl rfl) ?_
  refine F_val rfl rfl rfl (O_len rfl rfl Try.underlying22) ?_
  refine F_val rfl rfl rfl (O_move rfl rfl) ?_
  refine F_nil ?_
  obtain ⟨yj14, Hyj14, H⟩ := of_bind H
  refine L_join (fun a w => ∃ (l154 : List Int), yj14 = l154 ∧ Is Try.f61.ntmps a [(5, .slice A11 l154.length c12)] ∧ Hp S0 w0 w [.rd A_lens_0 (rowC (Eint .i64) l_lens_0), .own A11 c12 (rowC (Eint .i64) l154) 3 (Eint .i64).sz]) (fun Qj14 hNj14 hOj14 => ?_) (fun a w hR => ?_)
  · skip
    have H := Hyj14
    refine L_blk (fun Qb155 hNb155 hXb155 hOb155 => ?_)
    refine L_lp (fun k a w => ∃ (l246 : List Int), ∃ (y247 : List Int), ∃ (t248 : Int), Is Try.f61.ntmps a [(3, .pointer (some ⟨g3, 0, none⟩)), (5, .slice A11 l246.length c12), (11, .slice A_lens_0 l_lens_0.length c_lens_0), (12, .int .i64 (l_lens_0.length : Int)), (13, .int .i64 t248)] ∧ Hp S0 w0 w [.rd A_lens_0 (rowC (Eint .i64) l_lens_0), .box g3 (rowC (Eint .i64) y247) 82, .own A11 c12 (rowC (Eint .i64) l246) 3 (Eint .i64).sz] ∧ code_words.l1 k l246 y247 t248 l_lens_0 = some yj14) FU (fun a ha => ⟨_, _, _, Is.cons ha (Is.cons ha (Is.cons ha (Is.cons ha (Is.cons ha (Is.nil ha) rfl) rfl) rfl) rfl) rfl, HS6.sel [0, 1, 2] rfl, H⟩) (fun kp245 a w249 hI Qp245 hNp245 hOp245 => ?_)
    obtain ⟨l246, y247, t248, ha, HS250, HAp245⟩ := hI
    cases kp245 with
    | zero => cases (show (none : Option _) = some _ from HAp245)
    | succ kp245 =>
      have H := (code_words.l1.eq_2 ..).symm.trans HAp245
      refine wpLF_app ?_ ha
      refine L_seq ?_
      refine L_region ?_
      refine F_val rfl rfl rfl (O_lt rfl rfl rfl) ?_
      refine F_nil ?_
      refine L_seq ?_
      refine L_condP rfl (fun c251 => ?_) (fun c251 => ?_)
      · have H := of_pos H c251
        refine L_skip ?_
        refine L_seq ?_
        refine L_blk (fun Q252 hN252 hX252 hO252 => ?_)
        refine L_seq ?_
        refine L_region ?_
        refine F_val rfl rfl rfl (O_move rfl rfl) ?_
        obtain ⟨⟨g253, g254⟩, H⟩ := of_gd H
        refine F_val rfl rfl rfl (O_idx rfl rfl rfl Try.underlying22 size3 g253 g254 (Cells.isA (HS250.cells_rd (i := 0) rfl) (rowC_ne (E := (Eint .i64)) g253 g254 (by decide)))) ?_
        refine F_val rfl rfl rfl (O_loadC rfl rfl flat3 (HS250.cells_rd (i := 0) rfl) (int_cell g253 g254)) ?_
        refine F_val rfl rfl rfl (O_assign rfl rfl) ?_
        obtain ⟨x255, h256, H⟩ := of_bnd H
        refine F_val rfl rfl rfl (O_assign' rfl rfl (congrArg (Value.int .i64) h256)) ?_
        refine F_nil ?_
        refine L_seq ?_
        refine L_region ?_
        refine F_val rfl rfl rfl (O_move rfl rfl) ?_
        refine F_val rfl rfl rfl (O_gt rfl rfl rfl) ?_
        refine F_nil ?_
        obtain ⟨yj257, Hyj257, H⟩ := of_bind H
        refine L_join (fun a w => ∃ (l274 : List Int), ∃ (y275 : List Int), yj257 = (l274, y275) ∧ Is Try.f61.ntmps a [(3, .pointer (some ⟨g3, 0, none⟩)), (5, .slice A11 l274.length c12), (11, .slice A_lens_0 l_lens_0.length c_lens_0), (12, .int .i64 (l_lens_0.length : Int)), (13, .int .i64 t248)] ∧ Hp S0 w0 w [.rd A_lens_0 (rowC (Eint .i64) l_lens_0), .box g3 (rowC (Eint .i64) y275) 82, .own A11 c12 (rowC (Eint .i64) l274) 3 (Eint .i64).sz]) (fun Qj257 hNj257 hOj257 => ?_) (fun a w hR => ?_)
        · skip
          have H := Hyj257
          refine L_condP rfl (fun c276 => ?_) (fun c276 => ?_)
          · have H := of_pos H c276
            refine L_seq ?_
            refine L_region ?_
            refine F_val rfl rfl rfl (O_move rfl rfl) ?_
            refine F_val rfl rfl rfl (O_move rfl rfl) ?_
            refine F_val rfl rfl rfl (O_move rfl rfl) ?_
            obtain ⟨⟨g277, g278⟩, H⟩ := of_gd H
            refine F_val rfl rfl rfl (O_idxA rfl rfl rfl Try.underlying82 size3 g277 g278) ?_
            obtain ⟨g279, H⟩ := of_gd H
            refine F_val rfl rfl rfl (O_loadB rfl rfl flat3 (HS250.cells_box (i := 1) rfl) (at0 (int_cell g277 (arr_lt g279 g278)))) ?_
            obtain ⟨⟨g280, g281⟩, H⟩ := of_gd H
            refine F_val rfl rfl rfl (O_idx rfl rfl rfl Try.underlying22 size3 g280 g281 (Cells.isA (HS250.cells_own (i := 2) rfl) (rowC_ne (E := (Eint .i64)) g280 g281 (by decide)))) ?_
            obtain ⟨l284, h285, H⟩ := of_bnd H
            refine F_setE (E := (Eint .i64)) (i := 2) (a := rd y247 x255) (q := t248) rfl rfl rfl rfl rfl rfl size3 HS250 rfl (by decide) g280 g281 h285 (fun w282 HS283 => ?_)
            have e286 : l246.length = l284.length := by rw [← h285, List.length_set]
            refine F_know (i := 5) rfl (congrArg (fun n => Value.slice A11 n c12) e286) ?_
            have HS283 : Hp S0 w0 w282 [.rd A_lens_0 (rowC (Eint .i64) l_lens_0), .box g3 (rowC (Eint .i64) y247) 82, .own A11 c12 (rowC (Eint .i64) l284) 3 (Eint .i64).sz] := HS283
            refine F_nil ?_
            refine L_region ?_
            refine F_val rfl rfl rfl (O_move rfl rfl) ?_
            refine F_val rfl rfl rfl (O_idxA rfl rfl rfl Try.underlying82 size3 g277 g278) ?_
            refine F_val rfl rfl rfl (O_loadB rfl rfl flat3 (HS283.cells_box (i := 1) rfl) (at0 (int_cell g277 (arr_lt g279 g278)))) ?_
            refine F_val rfl rfl rfl (O_add rfl rfl rfl) ?_
            refine F_val rfl rfl rfl (O_idxA rfl rfl rfl Try.underlying82 size3 g277 g278) ?_
            obtain ⟨l289, h290, H⟩ := of_bnd H
            refine F_stAr (E := (Eint .i64)) (xs := y247) (q := x255) (a := IntKind.i64.wrap ((rd y247 x255) + 1)) (off := 0) 1 (rowC (Eint .i64) l289) [] [] rfl rfl rfl rfl rfl size3 HS283 rfl rfl (by simp only [List.append_assoc, List.cons_append, List.nil_append, List.append_nil]) rfl g277 (arr_lt g279 g278) h290 (by simp only [List.append_assoc, List.cons_append, List.nil_append, List.append_nil]) (fun w287 HS288 => ?_)
            have hl291 : l289.length = 16 := by rw [← h290, List.length_set]; exact g279
            have HS288 : Hp S0 w0 w287 [.rd A_lens_0 (rowC (Eint .i64) l_lens_0), .box g3 (rowC (Eint .i64) l289) 82, .own A11 c12 (rowC (Eint .i64) l284) 3 (Eint .i64).sz] := HS288
            refine F_nil ?_
            refine L_nil (fun a ha => hNj257 a _ ⟨_, _, (Option.some.inj H).symm, Is.cons ha (Is.cons ha (Is.cons ha (Is.cons ha (Is.cons ha (Is.nil ha) rfl) rfl) rfl) rfl) rfl, HS288.sel [0, 1, 2] rfl⟩)
          · have H := of_neg H c276
            refine L_skip ?_
            refine L_nil (fun a ha => hNj257 a _ ⟨_, _, (Option.some.inj H).symm, Is.cons ha (Is.cons ha (Is.cons ha (Is.cons ha (Is.cons ha (Is.nil ha) rfl) rfl) rfl) rfl) rfl, HS250.sel [0, 1, 2] rfl⟩)
        · obtain ⟨l274, y275, rfl, ha, HS293⟩ := hR
          refine wpLF_app ?_ ha
          refine L_endB hN252 ?_
          refine L_region ?_
          refine F_val rfl rfl rfl (O_add rfl rfl rfl) ?_
          refine F_val rfl rfl rfl (O_move rfl rfl) ?_
          refine F_nil ?_
          refine L_nil (fun a ha => hNp245 _ a _ (Nat.lt_succ_self _) ⟨_, _, _, Is.cons ha (Is.cons ha (Is.cons ha (Is.cons ha (Is.cons ha (Is.nil ha) rfl) rfl) rfl) rfl) rfl, HS293.sel [0, 1, 2] rfl, H⟩)
      · have H := of_neg H c251
        refine L_exitB (fun a w h => hOp245 (.exit 0) a w rfl (hXb155 a w h)) ?_
        refine L_nil (fun a ha => hNj14 a _ ⟨_, (Option.some.inj H).symm, Is.cons ha (Is.nil ha) rfl, HS250.sel [0, 2] rfl⟩)
  · obtain ⟨l154, ej, ha, HS295⟩ := hR
    obtain rfl := ej.symm
    refine wpLF_app ?_ ha
    refine L_seq ?_
    refine L_region ?_
    refine F_val rfl rfl rfl (O_move rfl rfl) ?_
    refine F_val rfl rfl rfl (O_assign rfl rfl) ?_
    refine F_nil ?_
    refine L_ret (fun a ha => (post_ret1 ha rfl rfl ?_))
    obtain rfl := Option.some.inj H
    exact ⟨_, _, rfl, HS295.sel [1] rfl⟩

/-! function 65: valise/code.makeTable -/
theorem code_makeTable.calls {S0 : Nat → Prop} {w0 : World} {A_lens_0 : Option Addr} {c_lens_0 : Nat} {l_lens_0 : List Int} {l_counts_1 : List Int} {r : (List Int × List Int × List Int × List Int)} (HS0 : Hp S0 w0 w0 [.rd A_lens_0 (rowC (Eint .i64) l_lens_0)]) (hc_lens_0 : l_lens_0.length ≤ c_lens_0) (h : code_makeTable.f l_lens_0 l_counts_1 = some r) :
    Calls Try.prog 65 ([.slice A_lens_0 l_lens_0.length c_lens_0, .agg (rowC (Eint .i64) l_counts_1).toArray] : List Value).toArray w0 (fun e w => ∃ (A1_0 : Option Addr), ∃ (c1_0 : Nat), ∃ (A1_1 : Option Addr), ∃ (c1_1 : Nat), e = .returned (.agg (([.slice A1_0 r.1.length c1_0, .slice A1_1 r.2.1.length c1_1] : List Value) ++ rowC (Eint .i64) r.2.2.1 ++ rowC (Eint .i64) r.2.2.2).toArray) ∧ Hp S0 w0 w [.own A1_0 c1_0 (rowC (Eint .i64) r.1) 3 (Eint .i64).sz, .own A1_1 c1_1 (rowC (Eint .i64) r.2.1) 3 (Eint .i64).sz]) := by
  have H : ((gd (l_counts_1.length = 16) ((code_first.f l_counts_1).bind fun z14 => gd (z14.length = 16) (bnd (([] : List Int) ++ l_lens_0) fun l53 => gd ((l53.length : Int) * 8 ≤ 140737488355328) ((code_words.f l_lens_0 z14).bind fun z62 => some (l53, z62, l_counts_1, z14))))) : Option ((List Int × List Int × List Int × List Int))) = some r := h
  refine calls_start Try.func65 rfl rfl ?_
  refine L_seq ?_
  refine L_region ?_
  refine F_box (C := rowC (Eint .i64) l_counts_1) rfl rfl rfl rfl rfl rfl HS0 (fun w1 g3 HS2 => ?_)
  have HS2 : Hp S0 w0 w1 [.rd A_lens_0 (rowC (Eint .i64) l_lens_0), .box g3 (rowC (Eint .i64) l_counts_1) 82] := HS2
  refine F_alloc (C := ([.slice none 0 0, .slice none 0 0] : List Value) ++ rowC (Eint .i64) (List.replicate 16 (0 : Int)) ++ rowC (Eint .i64) (List.replicate 16 (0 : Int))) rfl rfl rfl rfl zero91 rfl HS2 (fun w5 g7 HS6 => ?_)
  have HS6 : Hp S0 w0 w5 [.rd A_lens_0 (rowC (Eint .i64) l_lens_0), .box g3 (rowC (Eint .i64) l_counts_1) 82, .box g7 (([.slice none 0 0, .slice none 0 0] : List Value) ++ rowC (Eint .i64) (List.replicate 16 (0 : Int)) ++ rowC (Eint .i64) (List.replicate 16 (0 : Int))) 91] := HS6
  refine F_nil ?_
  refine L_seq ?_
  refine L_region ?_
  obtain ⟨g9, H⟩ := of_gd H
  refine F_val rfl rfl rfl (O_loadSg [] (rowC (Eint .i64) l_counts_1) [] rfl rfl wide82 (HS6.cells_box (i := 1) rfl) (by simp only [List.append_assoc, List.cons_append, List.nil_append, List.append_nil]) rfl (row_len g9) (by decide)) ?_
  obtain ⟨z14, h13, H⟩ := of_bind H
  refine F_call (xs := [.tmp 6]) rfl rfl rfl rfl Try.func62 nm62 rfl rfl ((code_first.calls (HS6.give [] rfl (Lent.nil)) h13).mono (fun e w hc => ?_))
  obtain ⟨rfl, HSo⟩ := hc
  refine ⟨.agg (rowC (Eint .i64) z14).toArray, rfl, ?_⟩
  have HS16 : Hp S0 w0 w [.rd A_lens_0 (rowC (Eint .i64) l_lens_0), .box g3 (rowC (Eint .i64) l_counts_1) 82, .box g7 (([.slice none 0 0, .slice none 0 0] : List Value) ++ rowC (Eint .i64) (List.replicate 16 (0 : Int)) ++ rowC (Eint .i64) (List.replicate 16 (0 : Int))) 91] := (HS6.back [] HSo rfl).sel [0, 1, 2] rfl
  refine F_alloc (C := rowC (Eint .i64) (List.replicate 16 (0 : Int))) rfl rfl rfl rfl zero82 rfl HS16 (fun w17 g19 HS18 => ?_)
  have HS18 : Hp S0 w0 w17 [.rd A_lens_0 (rowC (Eint .i64) l_lens_0), .box g3 (rowC (Eint .i64) l_counts_1) 82, .box g7 (([.slice none 0 0, .slice none 0 0] : List Value) ++ rowC (Eint .i64) (List.replicate 16 (0 : Int)) ++ rowC (Eint .i64) (List.replicate 16 (0 : Int))) 91, .box g19 (rowC (Eint .i64) (List.replicate 16 (0 : Int))) 82] := HS18
  obtain ⟨g23, H⟩ := of_gd H
  refine F_stSg 3 (rowC (Eint .i64) z14) [] (rowC (Eint .i64) (List.replicate 16 (0 : Int))) (rowC (Eint .i64) z14) [] rfl rfl rfl rfl rfl size82 HS18 rfl rfl ones_row (by simp only [List.append_assoc, List.cons_append, List.nil_append, List.append_nil]) (by simp only [List.append_assoc, List.cons_append, List.nil_append, List.append_nil]) rfl (row_len List.length_replicate) (row_len g23) (fun w21 HS22 => ?_)
  have HS22 : Hp S0 w0 w21 [.rd A_lens_0 (rowC (Eint .i64) l_lens_0), .box g3 (rowC (Eint .i64) l_counts_1) 82, .box g7 (([.slice none 0 0, .slice none 0 0] : List Value) ++ rowC (Eint .i64) (List.replicate 16 (0 : Int)) ++ rowC (Eint .i64) (List.replicate 16 (0 : Int))) 91, .box g19 (rowC (Eint .i64) z14) 82] := HS22
  refine F_nil ?_
  refine L_seq ?_
  refine L_heldS 8 1 [8] mix rfl (fun w45 hw46 => ?_)
  have HS47 := HS22.keep hw46
  refine ⟨HS47.turns [], ?_⟩
  have HR48 : Hp (HS47.ft []) w45 w45 [.rd A_lens_0 (rowC (Eint .i64) l_lens_0), .rd (some ⟨g3, 0, none⟩) (rowC (Eint .i64) l_counts_1), .rd (some ⟨g7, 0, none⟩) (([.slice none 0 0, .slice none 0 0] : List Value) ++ rowC (Eint .i64) (List.replicate 16 (0 : Int)) ++ rowC (Eint .i64) (List.replicate 16 (0 : Int))), .rd (some ⟨g19, 0, none⟩) (rowC (Eint .i64) z14)] := HS47.give [] rfl (Lent.rd HS47 (Lent.box HS47 (Lent.box HS47 (Lent.box HS47 (Lent.nil) (i := 3) rfl rfl (HS47.cells_box (i := 3) rfl).self) (i := 2) rfl rfl (HS47.cells_box (i := 2) rfl).self) (i := 1) rfl rfl (HS47.cells_box (i := 1) rfl).self) (i := 0) rfl (HS47.cells_rd (i := 0) rfl).self)
  refine H_val (i := 0) rfl (by kernel_rfl) (by kernel_rfl) (by kernel_rfl) (by kernel_rfl) rfl rfl rfl (Chg.refl _ _) (fun wq hq => O_move rfl rfl) ?_
  refine H_val (i := 2) rfl (by kernel_rfl) (by kernel_rfl) (by kernel_rfl) (by kernel_rfl) rfl rfl rfl (Chg.refl _ _) (fun wq hq => O_move rfl rfl) ?_
  refine H_val (i := 3) rfl (by kernel_rfl) (by kernel_rfl) (by kernel_rfl) (by kernel_rfl) rfl rfl rfl (Chg.refl _ _) (fun wq hq => O_loadSg [] (rowC (Eint .i64) z14) [] rfl rfl wide82 ((HS47.keepT [] hq).cells_box (i := 3) rfl) (by simp only [List.append_assoc, List.cons_append, List.nil_append, List.append_nil]) rfl (row_len g23) (by decide)) ?_
  refine H_val (i := 5) rfl (by kernel_rfl) (by kernel_rfl) (by kernel_rfl) (by kernel_rfl) rfl rfl rfl (Chg.refl _ _) (fun wq hq => O_loadSg [] (rowC (Eint .i64) l_counts_1) [] rfl rfl wide82 ((HS47.keepT [] hq).cells_box (i := 1) rfl) (by simp only [List.append_assoc, List.cons_append, List.nil_append, List.append_nil]) rfl (row_len g9) (by decide)) ?_
  refine H_val (i := 6) rfl (by kernel_rfl) (by kernel_rfl) (by kernel_rfl) (by kernel_rfl) rfl rfl rfl (Chg.refl _ _) (fun wq hq => O_loadSg [] (rowC (Eint .i64) z14) [] rfl rfl wide82 ((HS47.keepT [] hq).cells_box (i := 3) rfl) (by simp only [List.append_assoc, List.cons_append, List.nil_append, List.append_nil]) rfl (row_len g23) (by decide)) ?_
  refine H_one (i := 1) rfl (by kernel_rfl) (by kernel_rfl) ?_
  have HS51 := HR48.addNil 3 (Eint .i64).sz
  have HS51 : Hp (HS47.ft []) w45 w45 [.rd A_lens_0 (rowC (Eint .i64) l_lens_0), .rd (some ⟨g3, 0, none⟩) (rowC (Eint .i64) l_counts_1), .rd (some ⟨g7, 0, none⟩) (([.slice none 0 0, .slice none 0 0] : List Value) ++ rowC (Eint .i64) (List.replicate 16 (0 : Int)) ++ rowC (Eint .i64) (List.replicate 16 (0 : Int))), .rd (some ⟨g19, 0, none⟩) (rowC (Eint .i64) z14), .own none 0 (rowC (Eint .i64) ([] : List Int)) 3 (Eint .i64).sz] := HS51
  obtain ⟨l53, h54, H⟩ := of_bnd H
  obtain ⟨g55, H⟩ := of_gd H
  refine F_appE (E := (Eint .i64)) (xs := ([] : List Int)) (ys := l_lens_0) (i := 4) rfl rfl rfl rfl Try.underlying22 info3 rfl (by decide) (by decide) rfl rfl HS51 rfl (HS51.cells_rd (i := 0) rfl) h54 g55 (fun w49 A56 c57 HS50 => ?_)
  have HS50 : Hp (HS47.ft []) w45 w49 [.rd A_lens_0 (rowC (Eint .i64) l_lens_0), .rd (some ⟨g3, 0, none⟩) (rowC (Eint .i64) l_counts_1), .rd (some ⟨g7, 0, none⟩) (([.slice none 0 0, .slice none 0 0] : List Value) ++ rowC (Eint .i64) (List.replicate 16 (0 : Int)) ++ rowC (Eint .i64) (List.replicate 16 (0 : Int))), .rd (some ⟨g19, 0, none⟩) (rowC (Eint .i64) z14), .own A56 c57 (rowC (Eint .i64) l53) 3 (Eint .i64).sz] := HS50
  refine H_next HS50.chg ?_
  refine H_one (i := 4) rfl (by kernel_rfl) (by kernel_rfl) ?_
  obtain ⟨z62, h61, H⟩ := of_bind H
  refine F_call (xs := [.tmp 10, .tmp 11]) rfl rfl rfl rfl Try.func61 nm61 rfl rfl ((code_words.calls (HS50.give [] rfl (Lent.rd HS50 (Lent.nil) (i := 0) rfl ((HS50.cells_rd (i := 0) rfl).self))) hc_lens_0 h61).mono (fun e w hc => ?_))
  obtain ⟨A65, c66, rfl, HSo⟩ := hc
  refine ⟨.slice A65 z62.length c66, rfl, ?_⟩
  have HS64 : Hp (HS47.ft []) w45 w [.rd A_lens_0 (rowC (Eint .i64) l_lens_0), .rd (some ⟨g3, 0, none⟩) (rowC (Eint .i64) l_counts_1), .rd (some ⟨g7, 0, none⟩) (([.slice none 0 0, .slice none 0 0] : List Value) ++ rowC (Eint .i64) (List.replicate 16 (0 : Int)) ++ rowC (Eint .i64) (List.replicate 16 (0 : Int))), .rd (some ⟨g19, 0, none⟩) (rowC (Eint .i64) z14), .own A56 c57 (rowC (Eint .i64) l53) 3 (Eint .i64).sz, .own A65 c66 (rowC (Eint .i64) z62) 3 (Eint .i64).sz] := (HS50.back [] HSo rfl).sel [0, 1, 2, 3, 4, 5] rfl
  refine H_next HS64.chg ?_
  refine H_val (i := 7) rfl (by kernel_rfl) (by kernel_rfl) (by kernel_rfl) (by kernel_rfl) rfl rfl rfl HS64.chg (fun wq hq => O_buildS (C := ([.slice A56 l53.length c57, .slice A65 z62.length c66] : List Value) ++ rowC (Eint .i64) l_counts_1 ++ rowC (Eint .i64) z14) [(0, .slice A56 l53.length c57), (1, .slice A65 z62.length c66), (2, .agg (rowC (Eint .i64) l_counts_1).toArray), (3, .agg (rowC (Eint .i64) z14).toArray)] rfl rfl rfl struct91 (Fills.cons [] [.slice none 0 0] [.slice A56 l53.length c57] [.slice none 0 0, .int .i64 0, .int .i64 0, .int .i64 0, .int .i64 0, .int .i64 0, .int .i64 0, .int .i64 0, .int .i64 0, .int .i64 0, .int .i64 0, .int .i64 0, .int .i64 0, .int .i64 0, .int .i64 0, .int .i64 0, .int .i64 0, .int .i64 0, .int .i64 0, .int .i64 0, .int .i64 0, .int .i64 0, .int .i64 0, .int .i64 0, .int .i64 0, .int .i64 0, .int .i64 0, .int .i64 0, .int .i64 0, .int .i64 0, .int .i64 0, .int .i64 0, .int .i64 0] [.slice A56 l53.length c57, .slice none 0 0, .int .i64 0, .int .i64 0, .int .i64 0, .int .i64 0, .int .i64 0, .int .i64 0, .int .i64 0, .int .i64 0, .int .i64 0, .int .i64 0, .int .i64 0, .int .i64 0, .int .i64 0, .int .i64 0, .int .i64 0, .int .i64 0, .int .i64 0, .int .i64 0, .int .i64 0, .int .i64 0, .int .i64 0, .int .i64 0, .int .i64 0, .int .i64 0, .int .i64 0, .int .i64 0, .int .i64 0, .int .i64 0, .int .i64 0, .int .i64 0, .int .i64 0, .int .i64 0] rfl (by simp only [List.append_assoc, List.cons_append, List.nil_append, List.append_nil]) rfl rfl rfl rfl (by simp only [List.append_assoc, List.cons_append, List.nil_append, List.append_nil]) (Fills.cons [.slice A56 l53.length c57] [.slice none 0 0] [.slice A65 z62.length c66] [.int .i64 0, .int .i64 0, .int .i64 0, .int .i64 0, .int .i64 0, .int .i64 0, .int .i64 0, .int .i64 0, .int .i64 0, .int .i64 0, .int .i64 0, .int .i64 0, .int .i64 0, .int .i64 0, .int .i64 0, .int .i64 0, .int .i64 0, .int .i64 0, .int .i64 0, .int .i64 0, .int .i64 0, .int .i64 0, .int .i64 0, .int .i64 0, .int .i64 0, .int .i64 0, .int .i64 0, .int .i64 0, .int .i64 0, .int .i64 0, .int .i64 0, .int .i64 0] [.slice A56 l53.length c57, .slice A65 z62.length c66, .int .i64 0, .int .i64 0, .int .i64 0, .int .i64 0, .int .i64 0, .int .i64 0, .int .i64 0, .int .i64 0, .int .i64 0, .int .i64 0, .int .i64 0, .int .i64 0, .int .i64 0, .int .i64 0, .int .i64 0, .int .i64 0, .int .i64 0, .int .i64 0, .int .i64 0, .int .i64 0, .int .i64 0, .int .i64 0, .int .i64 0, .int .i64 0, .int .i64 0, .int .i64 0, .int .i64 0, .int .i64 0, .int .i64 0, .int .i64 0, .int .i64 0, .int .i64 0] rfl (by simp only [List.append_assoc, List.cons_append, List.nil_append, List.append_nil]) rfl rfl rfl rfl (by simp only [List.append_assoc, List.cons_append, List.nil_append, List.append_nil]) (Fills.cons [.slice A56 l53.length c57, .slice A65 z62.length c66] [.int .i64 0, .int .i64 0, .int .i64 0, .int .i64 0, .int .i64 0, .int .i64 0, .int .i64 0, .int .i64 0, .int .i64 0, .int .i64 0, .int .i64 0, .int .i64 0, .int .i64 0, .int .i64 0, .int .i64 0, .int .i64 0] (rowC (Eint .i64) l_counts_1) [.int .i64 0, .int .i64 0, .int .i64 0, .int .i64 0, .int .i64 0, .int .i64 0, .int .i64 0, .int .i64 0, .int .i64 0, .int .i64 0, .int .i64 0, .int .i64 0, .int .i64 0, .int .i64 0, .int .i64 0, .int .i64 0] (([.slice A56 l53.length c57, .slice A65 z62.length c66] : List Value) ++ rowC (Eint .i64) l_counts_1 ++ ([.int .i64 0, .int .i64 0, .int .i64 0, .int .i64 0, .int .i64 0, .int .i64 0, .int .i64 0, .int .i64 0, .int .i64 0, .int .i64 0, .int .i64 0, .int .i64 0, .int .i64 0, .int .i64 0, .int .i64 0, .int .i64 0] : List Value)) rfl (by simp only [List.append_assoc, List.cons_append, List.nil_append, List.append_nil]) rfl rfl rfl (row_len g9) (by simp only [List.append_assoc, List.cons_append, List.nil_append, List.append_nil]) (Fills.cons (([.slice A56 l53.length c57, .slice A65 z62.length c66] : List Value) ++ rowC (Eint .i64) l_counts_1) [.int .i64 0, .int .i64 0, .int .i64 0, .int .i64 0, .int .i64 0, .int .i64 0, .int .i64 0, .int .i64 0, .int .i64 0, .int .i64 0, .int .i64 0, .int .i64 0, .int .i64 0, .int .i64 0, .int .i64 0, .int .i64 0] (rowC (Eint .i64) z14) [] (([.slice A56 l53.length c57, .slice A65 z62.length c66] : List Value) ++ rowC (Eint .i64) l_counts_1 ++ rowC (Eint .i64) z14) rfl (by simp only [List.append_assoc, List.cons_append, List.nil_append, List.append_nil]) (app_len rfl (row_len g9) rfl) rfl rfl (row_len g23) (by simp only [List.append_assoc, List.cons_append, List.nil_append, List.append_nil]) (Fills.nil _)))))) ?_
  refine H_end (by kernel_rfl) ?_
  have HS68 : Hp S0 w0 w [.rd A_lens_0 (rowC (Eint .i64) l_lens_0), .box g3 (rowC (Eint .i64) l_counts_1) 82, .box g7 (([.slice none 0 0, .slice none 0 0] : List Value) ++ rowC (Eint .i64) (List.replicate 16 (0 : Int)) ++ rowC (Eint .i64) (List.replicate 16 (0 : Int))) 91, .box g19 (rowC (Eint .i64) z14) 82, .own A56 c57 (rowC (Eint .i64) l53) 3 (Eint .i64).sz, .own A65 c66 (rowC (Eint .i64) z62) 3 (Eint .i64).sz] := (HS47.back [] (HS64.sel [4, 5] rfl) rfl).sel [0, 1, 2, 3, 4, 5] rfl
  refine T_one (i := 8) rfl (by kernel_rfl) ?_
  refine F_stSg 2 (([.slice A56 l53.length c57, .slice A65 z62.length c66] : List Value) ++ rowC (Eint .i64) l_counts_1 ++ rowC (Eint .i64) z14) [] (([.slice none 0 0, .slice none 0 0] : List Value) ++ rowC (Eint .i64) (List.replicate 16 (0 : Int)) ++ rowC (Eint .i64) (List.replicate 16 (0 : Int))) (([.slice A56 l53.length c57, .slice A65 z62.length c66] : List Value) ++ rowC (Eint .i64) l_counts_1 ++ rowC (Eint .i64) z14) [] rfl rfl rfl rfl rfl size91 HS68 rfl rfl (ones_app (ones_app (ones_lit rfl) ones_row) ones_row) (by simp only [List.append_assoc, List.cons_append, List.nil_append, List.append_nil]) (by simp only [List.append_assoc, List.cons_append, List.nil_append, List.append_nil]) rfl (app_len (app_len rfl (row_len List.length_replicate) rfl) (row_len List.length_replicate) rfl) (app_len (app_len rfl (row_len g9) rfl) (row_len g23) rfl) (fun w69 HS70 => ?_)
  have HS70 : Hp S0 w0 w69 [.rd A_lens_0 (rowC (Eint .i64) l_lens_0), .box g3 (rowC (Eint .i64) l_counts_1) 82, .box g7 (([.slice A56 l53.length c57, .slice A65 z62.length c66] : List Value) ++ rowC (Eint .i64) l_counts_1 ++ rowC (Eint .i64) z14) 91, .box g19 (rowC (Eint .i64) z14) 82, .own A56 c57 (rowC (Eint .i64) l53) 3 (Eint .i64).sz, .own A65 c66 (rowC (Eint .i64) z62) 3 (Eint .i64).sz] := HS70
  refine T_next ?_
  refine T_done (by kernel_rfl) ?_
  refine L_ret (fun a ha => (post_retc1 ha rfl rfl wide91 (HS70.cells_box (i := 2) rfl) (app_len (app_len rfl (row_len g9) rfl) (row_len g23) rfl) (by decide) ?_))
  obtain rfl := Option.some.inj H
  exact ⟨_, _, _, _, rfl, HS70.sel [4, 5] rfl⟩

/-! function 30: valise/code.NewEncoder -/
theorem code_NewEncoder.calls {S0 : Nat → Prop} {w0 : World} {A_lens_0 : Option Addr} {c_lens_0 : Nat} {l_lens_0 : List Int} {r : Option (List Int × List Int × List Int × List Int) × Int} (HS0 : Hp S0 w0 w0 [.rd A_lens_0 (rowC (Eint .i64) l_lens_0)]) (hc_lens_0 : l_lens_0.length ≤ c_lens_0) (h : code_NewEncoder.f l_lens_0 = some r) :
    Calls Try.prog 30 ([.slice A_lens_0 l_lens_0.length c_lens_0] : List Value).toArray w0 (fun e w => ∃ (g1 : Nat), ∃ (A1_0 : Option Addr), ∃ (c1_0 : Nat), ∃ (A1_1 : Option Addr), ∃ (c1_1 : Nat), e = .returned (.tuple #[oV r.1 g1, .int .i64 r.2]) ∧ Hp S0 w0 w [oR r.1 (fun x => .box g1 (([.slice A1_0 x.1.length c1_0, .slice A1_1 x.2.1.length c1_1] : List Value) ++ rowC (Eint .i64) x.2.2.1 ++ rowC (Eint .i64) x.2.2.2) 94), oR r.1 (fun x => .own A1_0 c1_0 (rowC (Eint .i64) x.1) 3 (Eint .i64).sz), oR r.1 (fun x => .own A1_1 c1_1 (rowC (Eint .i64) x.2.1) 3 (Eint .i64).sz)]) := by
  have H : (((code_count.f l_lens_0).bind fun (z5, z6) => gd (z5.length = 16) (if z6 ≠ 0 then (some (none, z6)) else ((code_shape.f z5).bind fun z19 => (code_refused.f z19).bind fun z25 => if z25 ≠ 0 then (some (none, z25)) else ((code_makeTable.f l_lens_0 z5).bind fun (z34, z35, z36, z37) => gd (z36.length = 16) (gd (z37.length = 16) (some (some (z34, z35, z36, z37), 0))))))) : Option (Option (List Int × List Int × List Int × List Int) × Int)) = some r := h
  refine calls_start Try.func30 rfl rfl ?_
  refine L_seq ?_
  refine L_region ?_
  refine F_val rfl rfl rfl (O_assign rfl rfl) ?_
  refine F_val rfl rfl rfl (O_assign rfl rfl) ?_
  refine F_nil ?_
  refine L_seq ?_
  refine L_region ?_
  refine F_val rfl rfl rfl (O_move rfl rfl) ?_
  obtain ⟨⟨z5, z6⟩, h4, H⟩ := of_bind H
  refine F_call (xs := [.tmp 7]) rfl rfl rfl rfl Try.func57 nm57 rfl rfl ((code_count.calls (HS0.give [] rfl (Lent.rd HS0 (Lent.nil) (i := 0) rfl ((HS0.cells_rd (i := 0) rfl).self))) hc_lens_0 h4).mono (fun e w hc => ?_))
  obtain ⟨rfl, HSo⟩ := hc
  refine ⟨.tuple #[.agg (rowC (Eint .i64) z5).toArray, .int .i64 z6], rfl, ?_⟩
  have HS8 : Hp S0 w0 w [.rd A_lens_0 (rowC (Eint .i64) l_lens_0)] := (HS0.back [] HSo rfl).sel [0] rfl
  refine F_val rfl rfl rfl (O_move rfl rfl) ?_
  refine F_val rfl rfl rfl (O_extract (v := .agg (rowC (Eint .i64) z5).toArray) rfl rfl rfl) ?_
  refine F_val rfl rfl rfl (O_extract (v := .int .i64 z6) rfl rfl rfl) ?_
  refine F_alloc (C := rowC (Eint .i64) (List.replicate 16 (0 : Int))) rfl rfl rfl rfl zero82 rfl HS8 (fun w9 g11 HS10 => ?_)
  have HS10 : Hp S0 w0 w9 [.rd A_lens_0 (rowC (Eint .i64) l_lens_0), .box g11 (rowC (Eint .i64) (List.replicate 16 (0 : Int))) 82] := HS10
  obtain ⟨g15, H⟩ := of_gd H
  refine F_stSg 1 (rowC (Eint .i64) z5) [] (rowC (Eint .i64) (List.replicate 16 (0 : Int))) (rowC (Eint .i64) z5) [] rfl rfl rfl rfl rfl size82 HS10 rfl rfl ones_row (by simp only [List.append_assoc, List.cons_append, List.nil_append, List.append_nil]) (by simp only [List.append_assoc, List.cons_append, List.nil_append, List.append_nil]) rfl (row_len List.length_replicate) (row_len g15) (fun w13 HS14 => ?_)
  have HS14 : Hp S0 w0 w13 [.rd A_lens_0 (rowC (Eint .i64) l_lens_0), .box g11 (rowC (Eint .i64) z5) 82] := HS14
  refine F_val rfl rfl rfl (O_assign rfl rfl) ?_
  refine F_nil ?_
  refine L_seq ?_
  refine L_seq ?_
  refine L_region ?_
  refine F_val rfl rfl rfl (O_move rfl rfl) ?_
  refine F_val rfl rfl rfl (O_ne rfl rfl rfl) ?_
  refine F_nil ?_
  refine L_condP rfl (fun c16 => ?_) (fun c16 => ?_)
  · have H := of_pos H c16
    refine L_seq ?_
    refine L_region ?_
    refine F_val rfl rfl rfl (O_move rfl rfl) ?_
    refine F_val rfl rfl rfl (O_assign rfl rfl) ?_
    refine F_val rfl rfl rfl (O_assign rfl rfl) ?_
    refine F_nil ?_
    refine L_ret (fun a ha => (post_ret2 ha rfl rfl rfl ?_))
    obtain rfl := Option.some.inj H
    exact ⟨0, none, 0, none, 0, rfl, HS14.sel [1000, 1001, 1002] rfl⟩
  · have H := of_neg H c16
    refine L_skip ?_
    refine L_seq ?_
    refine L_seq ?_
    refine L_region ?_
    refine F_val rfl rfl rfl (O_loadSg [] (rowC (Eint .i64) z5) [] rfl rfl wide82 (HS14.cells_box (i := 1) rfl) (by simp only [List.append_assoc, List.cons_append, List.nil_append, List.append_nil]) rfl (row_len g15) (by decide)) ?_
    obtain ⟨z19, h18, H⟩ := of_bind H
    refine F_qcall (v := .int .i64 z19) (xs := [.tmp 14]) rfl rfl rfl rfl Try.func58 nm58 rfl rfl ((code_shape.calls (HS14.give [] rfl (Lent.nil)) h18).mono (fun e w hc => ?_)) (fun w20 hw21 => ?_)
    · obtain ⟨rfl, h⟩ := hc
      exact ⟨rfl, h.chg0⟩
    have HS22 := HS14.keep hw21
    obtain ⟨z25, h24, H⟩ := of_bind H
    refine F_qcall (v := .int .i64 z25) (xs := [.tmp 15]) rfl rfl rfl rfl Try.func64 nm64 rfl rfl ((code_refused.calls (HS22.give [] rfl (Lent.nil)) h24).mono (fun e w hc => ?_)) (fun w26 hw27 => ?_)
    · obtain ⟨rfl, h⟩ := hc
      exact ⟨rfl, h.chg0⟩
    have HS28 := HS22.keep hw27
    refine F_val rfl rfl rfl (O_assign rfl rfl) ?_
    refine F_nil ?_
    refine L_seq ?_
    refine L_region ?_
    refine F_val rfl rfl rfl (O_move rfl rfl) ?_
    refine F_val rfl rfl rfl (O_ne rfl rfl rfl) ?_
    refine F_nil ?_
    refine L_condP rfl (fun c29 => ?_) (fun c29 => ?_)
    · have H := of_pos H c29
      refine L_seq ?_
      refine L_region ?_
      refine F_val rfl rfl rfl (O_move rfl rfl) ?_
      refine F_val rfl rfl rfl (O_assign rfl rfl) ?_
      refine F_val rfl rfl rfl (O_assign rfl rfl) ?_
      refine F_nil ?_
      refine L_ret (fun a ha => (post_ret2 ha rfl rfl rfl ?_))
      obtain rfl := Option.some.inj H
      exact ⟨0, none, 0, none, 0, rfl, HS28.sel [1000, 1001, 1002] rfl⟩
    · have H := of_neg H c29
      refine L_skip ?_
      refine L_seq ?_
      refine L_region ?_
      refine F_val rfl rfl rfl (O_move rfl rfl) ?_
      refine F_val rfl rfl rfl (O_loadSg [] (rowC (Eint .i64) z5) [] rfl rfl wide82 (HS28.cells_box (i := 1) rfl) (by simp only [List.append_assoc, List.cons_append, List.nil_append, List.append_nil]) rfl (row_len g15) (by decide)) ?_
      obtain ⟨⟨z34, z35, z36, z37⟩, h33, H⟩ := of_bind H
      refine F_call (xs := [.tmp 20, .tmp 21]) rfl rfl rfl rfl Try.func65 nm65 rfl rfl ((code_makeTable.calls (HS28.give [] rfl (Lent.rd HS28 (Lent.nil) (i := 0) rfl ((HS28.cells_rd (i := 0) rfl).self))) hc_lens_0 h33).mono (fun e w hc => ?_))
      obtain ⟨A40, c41, A43, c44, rfl, HSo⟩ := hc
      refine ⟨.agg (([.slice A40 z34.length c41, .slice A43 z35.length c44] : List Value) ++ rowC (Eint .i64) z36 ++ rowC (Eint .i64) z37).toArray, rfl, ?_⟩
      have HS39 : Hp S0 w0 w [.rd A_lens_0 (rowC (Eint .i64) l_lens_0), .box g11 (rowC (Eint .i64) z5) 82, .own A40 c41 (rowC (Eint .i64) z34) 3 (Eint .i64).sz, .own A43 c44 (rowC (Eint .i64) z35) 3 (Eint .i64).sz] := (HS28.back [] HSo rfl).sel [0, 1, 2, 3] rfl
      obtain ⟨g46, H⟩ := of_gd H
      obtain ⟨g47, H⟩ := of_gd H
      refine F_val rfl rfl rfl (O_buildS (C := ([.slice A40 z34.length c41, .slice A43 z35.length c44] : List Value) ++ rowC (Eint .i64) z36 ++ rowC (Eint .i64) z37) [(0, .agg (([.slice A40 z34.length c41, .slice A43 z35.length c44] : List Value) ++ rowC (Eint .i64) z36 ++ rowC (Eint .i64) z37).toArray)] rfl rfl rfl struct94 (Fills.cons [] [.slice none 0 0, .slice none 0 0, .int .i64 0, .int .i64 0, .int .i64 0, .int .i64 0, .int .i64 0, .int .i64 0, .int .i64 0, .int .i64 0, .int .i64 0, .int .i64 0, .int .i64 0, .int .i64 0, .int .i64 0, .int .i64 0, .int .i64 0, .int .i64 0, .int .i64 0, .int .i64 0, .int .i64 0, .int .i64 0, .int .i64 0, .int .i64 0, .int .i64 0, .int .i64 0, .int .i64 0, .int .i64 0, .int .i64 0, .int .i64 0, .int .i64 0, .int .i64 0, .int .i64 0, .int .i64 0] (([.slice A40 z34.length c41, .slice A43 z35.length c44] : List Value) ++ rowC (Eint .i64) z36 ++ rowC (Eint .i64) z37) [] (([.slice A40 z34.length c41, .slice A43 z35.length c44] : List Value) ++ rowC (Eint .i64) z36 ++ rowC (Eint .i64) z37) rfl (by simp only [List.append_assoc, List.cons_append, List.nil_append, List.append_nil]) rfl rfl rfl (app_len (app_len rfl (row_len g46) rfl) (row_len g47) rfl) (by simp only [List.append_assoc, List.cons_append, List.nil_append, List.append_nil]) (Fills.nil _))) ?_
      refine F_box (C := ([.slice A40 z34.length c41, .slice A43 z35.length c44] : List Value) ++ rowC (Eint .i64) z36 ++ rowC (Eint .i64) z37) rfl rfl rfl rfl rfl rfl HS39 (fun w48 g50 HS49 => ?_)
      have HS49 : Hp S0 w0 w48 [.rd A_lens_0 (rowC (Eint .i64) l_lens_0), .box g11 (rowC (Eint .i64) z5) 82, .own A40 c41 (rowC (Eint .i64) z34) 3 (Eint .i64).sz, .own A43 c44 (rowC (Eint .i64) z35) 3 (Eint .i64).sz, .box g50 (([.slice A40 z34.length c41, .slice A43 z35.length c44] : List Value) ++ rowC (Eint .i64) z36 ++ rowC (Eint .i64) z37) 94] := HS49
      refine F_val rfl rfl rfl (O_assign rfl rfl) ?_
      refine F_val rfl rfl rfl (O_assign rfl rfl) ?_
      refine F_nil ?_
      refine L_ret (fun a ha => (post_ret2 ha rfl rfl rfl ?_))
      obtain rfl := Option.some.inj H
      exact ⟨_, _, _, _, _, rfl, HS49.sel [4, 2, 3] rfl⟩

/-! function 45: valise/code.NewDecoder -/
theorem code_NewDecoder.calls {S0 : Nat → Prop} {w0 : World} {A_lens_0 : Option Addr} {c_lens_0 : Nat} {l_lens_0 : List Int} {r : Option (List Int × List Int × List Int × List Int × List Int) × Int} (HS0 : Hp S0 w0 w0 [.rd A_lens_0 (rowC (Eint .i64) l_lens_0)]) (hc_lens_0 : l_lens_0.length ≤ c_lens_0) (h : code_NewDecoder.f l_lens_0 = some r) :
    Calls Try.prog 45 ([.slice A_lens_0 l_lens_0.length c_lens_0] : List Value).toArray w0 (fun e w => ∃ (g1 : Nat), ∃ (A1_0 : Option Addr), ∃ (c1_0 : Nat), ∃ (A1_1 : Option Addr), ∃ (c1_1 : Nat), ∃ (A1_4 : Option Addr), ∃ (c1_4 : Nat), e = .returned (.tuple #[oV r.1 g1, .int .i64 r.2]) ∧ Hp S0 w0 w [oR r.1 (fun x => .box g1 (([.slice A1_0 x.1.length c1_0, .slice A1_1 x.2.1.length c1_1] : List Value) ++ rowC (Eint .i64) x.2.2.1 ++ rowC (Eint .i64) x.2.2.2.1 ++ ([.slice A1_4 x.2.2.2.2.length c1_4] : List Value)) 108), oR r.1 (fun x => .own A1_0 c1_0 (rowC (Eint .i64) x.1) 3 (Eint .i64).sz), oR r.1 (fun x => .own A1_1 c1_1 (rowC (Eint .i64) x.2.1) 3 (Eint .i64).sz), oR r.1 (fun x => .own A1_4 c1_4 (rowC (Eint .i64) x.2.2.2.2) 3 (Eint .i64).sz)]) := by
  have H : (((code_count.f l_lens_0).bind fun (z5, z6) => gd (z5.length = 16) (if z6 ≠ 0 then (some (none, z6)) else ((code_shape.f z5).bind fun z19 => if z19 = 0 then (some (none, 53)) else ((code_refused.f z19).bind fun z26 => if z26 ≠ 0 then (some (none, z26)) else ((code_makeTable.f l_lens_0 z5).bind fun (z35, z36, z37, z38) => gd (z37.length = 16) (gd (z38.length = 16) ((code_NewDecoder.l11 FU ([] : List Int) 1 z35).bind fun l927 => some (some (z35, z36, z37, z38, l927), 0)))))))) : Option (Option (List Int × List Int × List Int × List Int × List Int) × Int)) = some r := h
  refine calls_start Try.func45 rfl rfl ?_
  refine L_seq ?_
  refine L_region ?_
  refine F_val rfl rfl rfl (O_assign rfl rfl) ?_
  refine F_val rfl rfl rfl (O_assign rfl rfl) ?_
  refine F_nil ?_
  refine L_seq ?_
  refine L_region ?_
  refine F_val rfl rfl rfl (O_move rfl rfl) ?_
  obtain ⟨⟨z5, z6⟩, h4, H⟩ := of_bind H
  refine F_call (xs := [.tmp 12]) rfl rfl rfl rfl Try.func57 nm57 rfl rfl ((code_count.calls (HS0.give [] rfl (Lent.rd HS0 (Lent.nil) (i := 0) rfl ((HS0.cells_rd (i := 0) rfl).self))) hc_lens_0 h4).mono (fun e w hc => ?_))
  obtain ⟨rfl, HSo⟩ := hc
  refine ⟨.tuple #[.agg (rowC (Eint .i64) z5).toArray, .int .i64 z6], rfl, ?_⟩
  have HS8 : Hp S0 w0 w [.rd A_lens_0 (rowC (Eint .i64) l_lens_0)] := (HS0.back [] HSo rfl).sel [0] rfl
  refine F_val rfl rfl rfl (O_move rfl rfl) ?_
  refine F_val rfl rfl rfl (O_extract (v := .agg (rowC (Eint .i64) z5).toArray) rfl rfl rfl) ?_
  refine F_val rfl rfl rfl (O_extract (v := .int .i64 z6) rfl rfl rfl) ?_
  refine F_alloc (C := rowC (Eint .i64) (List.replicate 16 (0 : Int))) rfl rfl rfl rfl zero82 rfl HS8 (fun w9 g11 HS10 => ?_)
  have HS10 : Hp S0 w0 w9 [.rd A_lens_0 (rowC (Eint .i64) l_lens_0), .box g11 (rowC (Eint .i64) (List.replicate 16 (0 : Int))) 82] := HS10
  obtain ⟨g15, H⟩ := of_gd H
  refine F_stSg 1 (rowC (Eint .i64) z5) [] (rowC (Eint .i64) (List.replicate 16 (0 : Int))) (rowC (Eint .i64) z5) [] rfl rfl rfl rfl rfl size82 HS10 rfl rfl ones_row (by simp only [List.append_assoc, List.cons_append, List.nil_append, List.append_nil]) (by simp only [List.append_assoc, List.cons_append, List.nil_append, List.append_nil]) rfl (row_len List.length_replicate) (row_len g15) (fun w13 HS14 => ?_)
  have HS14 : Hp S0 w0 w13 [.rd A_lens_0 (rowC (Eint .i64) l_lens_0), .box g11 (rowC (Eint .i64) z5) 82] := HS14
  refine F_val rfl rfl rfl (O_assign rfl rfl) ?_
  refine F_nil ?_
  refine L_seq ?_
  refine L_seq ?_
  refine L_region ?_
  refine F_val rfl rfl rfl (O_move rfl rfl) ?_
  refine F_val rfl rfl rfl (O_ne rfl rfl rfl) ?_
  refine F_nil ?_
  refine L_condP rfl (fun c16 => ?_) (fun c16 => ?_)
  · have H := of_pos H c16
    refine L_seq ?_
    refine L_region ?_
    refine F_val rfl rfl rfl (O_move rfl rfl) ?_
    refine F_val rfl rfl rfl (O_assign rfl rfl) ?_
    refine F_val rfl rfl rfl (O_assign rfl rfl) ?_
    refine F_nil ?_
    refine L_ret (fun a ha => (post_ret2 ha rfl rfl rfl ?_))
    obtain rfl := Option.some.inj H
    exact ⟨0, none, 0, none, 0, none, 0, rfl, HS14.sel [1000, 1001, 1002, 1003] rfl⟩
  · have H := of_neg H c16
    refine L_skip ?_
    refine L_seq ?_
    refine L_region ?_
    refine F_val rfl rfl rfl (O_loadSg [] (rowC (Eint .i64) z5) [] rfl rfl wide82 (HS14.cells_box (i := 1) rfl) (by simp only [List.append_assoc, List.cons_append, List.nil_append, List.append_nil]) rfl (row_len g15) (by decide)) ?_
    obtain ⟨z19, h18, H⟩ := of_bind H
    refine F_qcall (v := .int .i64 z19) (xs := [.tmp 19]) rfl rfl rfl rfl Try.func58 nm58 rfl rfl ((code_shape.calls (HS14.give [] rfl (Lent.nil)) h18).mono (fun e w hc => ?_)) (fun w20 hw21 => ?_)
    · obtain ⟨rfl, h⟩ := hc
      exact ⟨rfl, h.chg0⟩
    have HS22 := HS14.keep hw21
    refine F_val rfl rfl rfl (O_assign rfl rfl) ?_
    refine F_nil ?_
    refine L_seq ?_
    refine L_seq ?_
    refine L_region ?_
    refine F_val rfl rfl rfl (O_move rfl rfl) ?_
    refine F_val rfl rfl rfl (O_eq rfl rfl rfl) ?_
    refine F_nil ?_
    refine L_condP rfl (fun c23 => ?_) (fun c23 => ?_)
    · have H := of_pos H c23
      refine L_seq ?_
      refine L_region ?_
      refine F_val rfl rfl rfl (O_assign rfl rfl) ?_
      refine F_val rfl rfl rfl (O_assign rfl rfl) ?_
      refine F_nil ?_
      refine L_ret (fun a ha => (post_ret2 ha rfl rfl rfl ?_))
      obtain rfl := Option.some.inj H
      exact ⟨0, none, 0, none, 0, none, 0, rfl, HS22.sel [1000, 1001, 1002, 1003] rfl⟩
    · have H := of_neg H c23
      refine L_skip ?_
      refine L_seq ?_
      refine L_seq ?_
      refine L_region ?_
      refine F_val rfl rfl rfl (O_move rfl rfl) ?_
      obtain ⟨z26, h25, H⟩ := of_bind H
      refine F_qcall (v := .int .i64 z26) (xs := [.tmp 23]) rfl rfl rfl rfl Try.func64 nm64 rfl rfl ((code_refused.calls (HS22.give [] rfl (Lent.nil)) h25).mono (fun e w hc => ?_)) (fun w27 hw28 => ?_)
      · obtain ⟨rfl, h⟩ := hc
        exact ⟨rfl, h.chg0⟩
      have HS29 := HS22.keep hw28
      refine F_val rfl rfl rfl (O_assign rfl rfl) ?_
      refine F_nil ?_
      refine L_seq ?_
      refine L_region ?_
      refine F_val rfl rfl rfl (O_move rfl rfl) ?_
      refine F_val rfl rfl rfl (O_ne rfl rfl rfl) ?_
      refine F_nil ?_
      refine L_condP rfl (fun c30 => ?_) (fun c30 => ?_)
      · have H := of_pos H c30
        refine L_seq ?_
        refine L_region ?_
        refine F_val rfl rfl rfl (O_move rfl rfl) ?_
        refine F_val rfl rfl rfl (O_assign rfl rfl) ?_
        refine F_val rfl rfl rfl (O_assign rfl rfl) ?_
        refine F_nil ?_
        refine L_ret (fun a ha => (post_ret2 ha rfl rfl rfl ?_))
        obtain rfl := Option.some.inj H
        exact ⟨0, none, 0, none, 0, none, 0, rfl, HS29.sel [1000, 1001, 1002, 1003] rfl⟩
      · have H := of_neg H c30
        refine L_skip ?_
        refine L_seq ?_
        refine L_region ?_
        refine F_val rfl rfl rfl (O_move rfl rfl) ?_
        refine F_val rfl rfl rfl (O_loadSg [] (rowC (Eint .i64) z5) [] rfl rfl wide82 (HS29.cells_box (i := 1) rfl) (by simp only [List.append_assoc, List.cons_append, List.nil_append, List.append_nil]) rfl (row_len g15) (by decide)) ?_
        obtain ⟨⟨z35, z36, z37, z38⟩, h34, H⟩ := of_bind H
        refine F_call (xs := [.tmp 28, .tmp 29]) rfl rfl rfl rfl Try.func65 nm65 rfl rfl ((code_makeTable.calls (HS29.give [] rfl (Lent.rd HS29 (Lent.nil) (i := 0) rfl ((HS29.cells_rd (i := 0) rfl).self))) hc_lens_0 h34).mono (fun e w hc => ?_))
        obtain ⟨A41, c42, A44, c45, rfl, HSo⟩ := hc
        refine ⟨.agg (([.slice A41 z35.length c42, .slice A44 z36.length c45] : List Value) ++ rowC (Eint .i64) z37 ++ rowC (Eint .i64) z38).toArray, rfl, ?_⟩
        have HS40 : Hp S0 w0 w [.rd A_lens_0 (rowC (Eint .i64) l_lens_0), .box g11 (rowC (Eint .i64) z5) 82, .own A41 c42 (rowC (Eint .i64) z35) 3 (Eint .i64).sz, .own A44 c45 (rowC (Eint .i64) z36) 3 (Eint .i64).sz] := (HS29.back [] HSo rfl).sel [0, 1, 2, 3] rfl
        obtain ⟨g47, H⟩ := of_gd H
        obtain ⟨g48, H⟩ := of_gd H
        refine F_val rfl rfl rfl (O_buildS (C := ([.slice A41 z35.length c42, .slice A44 z36.length c45] : List Value) ++ rowC (Eint .i64) z37 ++ rowC (Eint .i64) z38 ++ ([.slice none 0 0] : List Value)) [(0, .agg (([.slice A41 z35.length c42, .slice A44 z36.length c45] : List Value) ++ rowC (Eint .i64) z37 ++ rowC (Eint .i64) z38).toArray)] rfl rfl rfl struct108 (Fills.cons [] [.slice none 0 0, .slice none 0 0, .int .i64 0, .int .i64 0, .int .i64 0, .int .i64 0, .int .i64 0, .int .i64 0, .int .i64 0, .int .i64 0, .int .i64 0, .int .i64 0, .int .i64 0, .int .i64 0, .int .i64 0, .int .i64 0, .int .i64 0, .int .i64 0, .int .i64 0, .int .i64 0, .int .i64 0, .int .i64 0, .int .i64 0, .int .i64 0, .int .i64 0, .int .i64 0, .int .i64 0, .int .i64 0, .int .i64 0, .int .i64 0, .int .i64 0, .int .i64 0, .int .i64 0, .int .i64 0] (([.slice A41 z35.length c42, .slice A44 z36.length c45] : List Value) ++ rowC (Eint .i64) z37 ++ rowC (Eint .i64) z38) [.slice none 0 0] (([.slice A41 z35.length c42, .slice A44 z36.length c45] : List Value) ++ rowC (Eint .i64) z37 ++ rowC (Eint .i64) z38 ++ ([.slice none 0 0] : List Value)) rfl (by simp only [List.append_assoc, List.cons_append, List.nil_append, List.append_nil]) rfl rfl rfl (app_len (app_len rfl (row_len g47) rfl) (row_len g48) rfl) (by simp only [List.append_assoc, List.cons_append, List.nil_append, List.append_nil]) (Fills.nil _))) ?_
        have HS53 := HS40.addNil 3 (Eint .i64).sz
        have HS53 : Hp S0 w0 w [.rd A_lens_0 (rowC (Eint .i64) l_lens_0), .box g11 (rowC (Eint .i64) z5) 82, .own A41 c42 (rowC (Eint .i64) z35) 3 (Eint .i64).sz, .own A44 c45 (rowC (Eint .i64) z36) 3 (Eint .i64).sz, .own none 0 (rowC (Eint .i64) ([] : List Int)) 3 (Eint .i64).sz] := HS53
        refine F_box (C := ([.slice A41 z35.length c42, .slice A44 z36.length c45] : List Value) ++ rowC (Eint .i64) z37 ++ rowC (Eint .i64) z38 ++ ([.slice none ([] : List Int).length 0] : List Value)) rfl rfl rfl rfl rfl rfl HS53 (fun w49 g51 HS50 => ?_)
        have HS50 : Hp S0 w0 w49 [.rd A_lens_0 (rowC (Eint .i64) l_lens_0), .box g11 (rowC (Eint .i64) z5) 82, .own A41 c42 (rowC (Eint .i64) z35) 3 (Eint .i64).sz, .own A44 c45 (rowC (Eint .i64) z36) 3 (Eint .i64).sz, .own none 0 (rowC (Eint .i64) ([] : List Int)) 3 (Eint .i64).sz, .box g51 (([.slice A41 z35.length c42, .slice A44 z36.length c45] : List Value) ++ rowC (Eint .i64) z37 ++ rowC (Eint .i64) z38 ++ ([.slice none ([] : List Int).length 0] : List Value)) 108] := HS50
        refine F_val rfl rfl rfl (O_assign rfl rfl) ?_
        refine F_nil ?_
        refine L_seq ?_
        refine L_seq ?_
        refine L_region ?_
        refine F_val rfl rfl rfl (O_assign rfl rfl) ?_
        refine F_nil ?_
        obtain ⟨yj55, Hyj55, H⟩ := of_bind H
        refine L_join (fun a w => ∃ (l927 : List Int), ∃ (A925 : Option Addr), ∃ (c926 : Nat), yj55 = l927 ∧ Is Try.f45.ntmps a [(7, .pointer (some ⟨g51, 0, none⟩))] ∧ Hp S0 w0 w [.rd A_lens_0 (rowC (Eint .i64) l_lens_0), .box g51 (([.slice A41 z35.length c42, .slice A44 z36.length c45] : List Value) ++ rowC (Eint .i64) z37 ++ rowC (Eint .i64) z38 ++ ([.slice A925 l927.length c926] : List Value)) 108, .own A41 c42 (rowC (Eint .i64) z35) 3 (Eint .i64).sz, .own A44 c45 (rowC (Eint .i64) z36) 3 (Eint .i64).sz, .own A925 c926 (rowC (Eint .i64) l927) 3 (Eint .i64).sz]) (fun Qj55 hNj55 hOj55 => ?_) (fun a w hR => ?_)
        · skip
          have H := Hyj55
          refine L_blk (fun Qb928 hNb928 hXb928 hOb928 => ?_)
          refine L_lp (fun k a w => ∃ (l1507 : List Int), ∃ (l_1508 : Int), ∃ (A1505 : Option Addr), ∃ (c1506 : Nat), Is Try.f45.ntmps a [(7, .pointer (some ⟨g51, 0, none⟩)), (8, .int .i64 l_1508)] ∧ Hp S0 w0 w [.rd A_lens_0 (rowC (Eint .i64) l_lens_0), .box g51 (([.slice A41 z35.length c42, .slice A44 z36.length c45] : List Value) ++ rowC (Eint .i64) z37 ++ rowC (Eint .i64) z38 ++ ([.slice A1505 l1507.length c1506] : List Value)) 108, .own A41 c42 (rowC (Eint .i64) z35) 3 (Eint .i64).sz, .own A44 c45 (rowC (Eint .i64) z36) 3 (Eint .i64).sz, .own A1505 c1506 (rowC (Eint .i64) l1507) 3 (Eint .i64).sz] ∧ code_NewDecoder.l11 k l1507 l_1508 z35 = some yj55) FU (fun a ha => ⟨_, _, _, _, Is.cons ha (Is.cons ha (Is.nil ha) rfl) rfl, HS50.sel [0, 5, 2, 3, 4] rfl, H⟩) (fun kp1504 a w1509 hI Qp1504 hNp1504 hOp1504 => ?_)
          obtain ⟨l1507, l_1508, A1505, c1506, ha, HS1510, HAp1504⟩ := hI
          cases kp1504 with
          | zero => cases (show (none : Option _) = some _ from HAp1504)
          | succ kp1504 =>
            have H := (code_NewDecoder.l11.eq_2 ..).symm.trans HAp1504
            refine wpLF_app ?_ ha
            refine L_seq ?_
            refine L_seq ?_
            refine L_region ?_
            refine F_val rfl rfl rfl (O_move rfl rfl) ?_
            refine F_val rfl rfl rfl (O_le rfl rfl rfl) ?_
            refine F_nil ?_
            refine L_condP rfl (fun c1511 => ?_) (fun c1511 => ?_)
            · have H := of_pos H c1511
              refine L_skip ?_
              refine L_seq ?_
              refine L_blk (fun Q1512 hN1512 hX1512 hO1512 => ?_)
              refine L_seq ?_
              refine L_region ?_
              refine F_val rfl rfl rfl (O_move rfl rfl) ?_
              refine F_val rfl rfl rfl (O_nilCheck rfl rfl) ?_
              refine F_val rfl rfl rfl (O_fieldB rfl rfl field108_0) ?_
              refine F_val rfl rfl rfl (O_fieldB rfl rfl field91_0) ?_
              refine F_val rfl rfl rfl (O_loadB rfl rfl flat22 (HS1510.cells_box (i := 1) rfl) (cell_seg (j := 0) [] [.slice A41 z35.length c42] (([.slice A44 z36.length c45] : List Value) ++ rowC (Eint .i64) z37 ++ rowC (Eint .i64) z38 ++ ([.slice A1505 l1507.length c1506] : List Value)) (by simp only [List.append_assoc, List.cons_append, List.nil_append, List.append_nil]) rfl rfl)) ?_
              refine F_val rfl rfl rfl (O_len rfl rfl Try.underlying22) ?_
              refine F_val rfl rfl rfl (O_move rfl rfl) ?_
              refine F_nil ?_
              obtain ⟨yj1513, Hyj1513, H⟩ := of_bind H
              refine L_join (fun a w => ∃ (l1654 : List Int), ∃ (A1652 : Option Addr), ∃ (c1653 : Nat), yj1513 = l1654 ∧ Is Try.f45.ntmps a [(7, .pointer (some ⟨g51, 0, none⟩)), (8, .int .i64 l_1508)] ∧ Hp S0 w0 w [.rd A_lens_0 (rowC (Eint .i64) l_lens_0), .box g51 (([.slice A41 z35.length c42, .slice A44 z36.length c45] : List Value) ++ rowC (Eint .i64) z37 ++ rowC (Eint .i64) z38 ++ ([.slice A1652 l1654.length c1653] : List Value)) 108, .own A41 c42 (rowC (Eint .i64) z35) 3 (Eint .i64).sz, .own A44 c45 (rowC (Eint .i64) z36) 3 (Eint .i64).sz, .own A1652 c1653 (rowC (Eint .i64) l1654) 3 (Eint .i64).sz]) (fun Qj1513 hNj1513 hOj1513 => ?_) (fun a w hR => ?_)
              · skip
                have H := Hyj1513
                refine L_blk (fun Qb1655 hNb1655 hXb1655 hOb1655 => ?_)
                refine L_lp (fun k a w => ∃ (l1747 : List Int), ∃ (t1748 : Int), ∃ (A1745 : Option Addr), ∃ (c1746 : Nat), Is Try.f45.ntmps a [(7, .pointer (some ⟨g51, 0, none⟩)), (8, .int .i64 l_1508), (41, .slice A41 z35.length c42), (42, .int .i64 (z35.length : Int)), (43, .int .i64 t1748)] ∧ Hp S0 w0 w [.rd A_lens_0 (rowC (Eint .i64) l_lens_0), .box g51 (([.slice A41 z35.length c42, .slice A44 z36.length c45] : List Value) ++ rowC (Eint .i64) z37 ++ rowC (Eint .i64) z38 ++ ([.slice A1745 l1747.length c1746] : List Value)) 108, .own A41 c42 (rowC (Eint .i64) z35) 3 (Eint .i64).sz, .own A44 c45 (rowC (Eint .i64) z36) 3 (Eint .i64).sz, .own A1745 c1746 (rowC (Eint .i64) l1747) 3 (Eint .i64).sz] ∧ code_NewDecoder.l13 k l1747 t1748 z35 l_1508 = some yj1513) FU (fun a ha => ⟨_, _, _, _, Is.cons ha (Is.cons ha (Is.cons ha (Is.cons ha (Is.cons ha (Is.nil ha) rfl) rfl) rfl) rfl) rfl, HS1510.sel [0, 1, 2, 3, 4] rfl, H⟩) (fun kp1744 a w1749 hI Qp1744 hNp1744 hOp1744 => ?_)
                obtain ⟨l1747, t1748, A1745, c1746, ha, HS1750, HAp1744⟩ := hI
                cases kp1744 with
                | zero => cases (show (none : Option _) = some _ from HAp1744)
                | succ kp1744 =>
                  have H := (code_NewDecoder.l13.eq_2 ..).symm.trans HAp1744
                  refine wpLF_app ?_ ha
                  refine L_seq ?_
                  refine L_region ?_
                  refine F_val rfl rfl rfl (O_lt rfl rfl rfl) ?_
                  refine F_nil ?_
                  refine L_seq ?_
                  refine L_condP rfl (fun c1751 => ?_) (fun c1751 => ?_)
                  · have H := of_pos H c1751
                    refine L_skip ?_
                    refine L_seq ?_
                    refine L_blk (fun Q1752 hN1752 hX1752 hO1752 => ?_)
                    refine L_seq ?_
                    refine L_region ?_
                    refine F_val rfl rfl rfl (O_move rfl rfl) ?_
                    obtain ⟨⟨g1753, g1754⟩, H⟩ := of_gd H
                    refine F_val rfl rfl rfl (O_idx rfl rfl rfl Try.underlying22 size3 g1753 g1754 (Cells.isA (HS1750.cells_own (i := 2) rfl) (rowC_ne (E := (Eint .i64)) g1753 g1754 (by decide)))) ?_
                    refine F_val rfl rfl rfl (O_loadC rfl rfl flat3 (HS1750.cells_own (i := 2) rfl) (int_cell g1753 g1754)) ?_
                    refine F_val rfl rfl rfl (O_assign rfl rfl) ?_
                    obtain ⟨x1755, h1756, H⟩ := of_bnd H
                    refine F_val rfl rfl rfl (O_assign' rfl rfl (congrArg (Value.int .i64) h1756)) ?_
                    refine F_nil ?_
                    refine L_seq ?_
                    refine L_region ?_
                    refine F_val rfl rfl rfl (O_move rfl rfl) ?_
                    refine F_val rfl rfl rfl (O_move rfl rfl) ?_
                    refine F_val rfl rfl rfl (O_eq rfl rfl rfl) ?_
                    refine F_nil ?_
                    obtain ⟨yj1757, Hyj1757, H⟩ := of_bind H
                    refine L_join (fun a w => ∃ (l1775 : List Int), ∃ (A1773 : Option Addr), ∃ (c1774 : Nat), yj1757 = l1775 ∧ Is Try.f45.ntmps a [(7, .pointer (some ⟨g51, 0, none⟩)), (8, .int .i64 l_1508), (41, .slice A41 z35.length c42), (42, .int .i64 (z35.length : Int)), (43, .int .i64 t1748)] ∧ Hp S0 w0 w [.rd A_lens_0 (rowC (Eint .i64) l_lens_0), .box g51 (([.slice A41 z35.length c42, .slice A44 z36.length c45] : List Value) ++ rowC (Eint .i64) z37 ++ rowC (Eint .i64) z38 ++ ([.slice A1773 l1775.length c1774] : List Value)) 108, .own A41 c42 (rowC (Eint .i64) z35) 3 (Eint .i64).sz, .own A44 c45 (rowC (Eint .i64) z36) 3 (Eint .i64).sz, .own A1773 c1774 (rowC (Eint .i64) l1775) 3 (Eint .i64).sz]) (fun Qj1757 hNj1757 hOj1757 => ?_) (fun a w hR => ?_)
                    · skip
                      have H := Hyj1757
                      refine L_condP rfl (fun c1776 => ?_) (fun c1776 => ?_)
                      · have H := of_pos H c1776
                        refine L_region ?_
                        refine F_val rfl rfl rfl (O_move rfl rfl) ?_
                        refine F_val rfl rfl rfl (O_move rfl rfl) ?_
                        refine F_val rfl rfl rfl (O_nilCheck rfl rfl) ?_
                        refine F_val rfl rfl rfl (O_fieldB rfl rfl field108_1) ?_
                        refine F_val rfl rfl rfl (O_loadB rfl rfl flat22 (HS1750.cells_box (i := 1) rfl) (cell_seg (j := 0) (([.slice A41 z35.length c42, .slice A44 z36.length c45] : List Value) ++ rowC (Eint .i64) z37 ++ rowC (Eint .i64) z38) [.slice A1745 l1747.length c1746] [] (by simp only [List.append_assoc, List.cons_append, List.nil_append, List.append_nil]) (app_len (app_len rfl (row_len g47) rfl) (row_len g48) rfl) rfl)) ?_
                        refine F_val rfl rfl rfl (O_move rfl rfl) ?_
                        refine F_litE (E := (Eint .i64)) (e := 3) [(0, .int .i64 t1748)] [t1748] rfl rfl rfl rfl rfl rfl rfl (by decide) (fun w => by kernel_rfl) HS1750 (fun w1777 A1779 c1780 HS1778 => ?_)
                        have HS1778 : Hp S0 w0 w1777 [.rd A_lens_0 (rowC (Eint .i64) l_lens_0), .box g51 (([.slice A41 z35.length c42, .slice A44 z36.length c45] : List Value) ++ rowC (Eint .i64) z37 ++ rowC (Eint .i64) z38 ++ ([.slice A1745 l1747.length c1746] : List Value)) 108, .own A41 c42 (rowC (Eint .i64) z35) 3 (Eint .i64).sz, .own A44 c45 (rowC (Eint .i64) z36) 3 (Eint .i64).sz, .own A1745 c1746 (rowC (Eint .i64) l1747) 3 (Eint .i64).sz, .own A1779 c1780 (rowC (Eint .i64) [t1748]) 3 (Eint .i64).sz] := HS1778
                        obtain ⟨l1784, h1785, H⟩ := of_bnd H
                        obtain ⟨g1786, H⟩ := of_gd H
                        refine F_appE (E := (Eint .i64)) (xs := l1747) (ys := [t1748]) (i := 4) rfl rfl rfl rfl Try.underlying22 info3 rfl (by decide) (by decide) rfl rfl HS1778 rfl (HS1778.cells_own (i := 5) rfl) h1785 g1786 (fun w1782 A1787 c1788 HS1783 => ?_)
                        have HS1783 : Hp S0 w0 w1782 [.rd A_lens_0 (rowC (Eint .i64) l_lens_0), .box g51 (([.slice A41 z35.length c42, .slice A44 z36.length c45] : List Value) ++ rowC (Eint .i64) z37 ++ rowC (Eint .i64) z38 ++ ([.slice A1745 l1747.length c1746] : List Value)) 108, .own A41 c42 (rowC (Eint .i64) z35) 3 (Eint .i64).sz, .own A44 c45 (rowC (Eint .i64) z36) 3 (Eint .i64).sz, .own A1787 c1788 (rowC (Eint .i64) l1784) 3 (Eint .i64).sz, .own A1779 c1780 (rowC (Eint .i64) [t1748]) 3 (Eint .i64).sz] := HS1783
                        refine F_val rfl rfl rfl (O_nilCheck rfl rfl) ?_
                        refine F_val rfl rfl rfl (O_fieldB rfl rfl field108_1) ?_
                        refine F_stSg 1 (([.slice A41 z35.length c42, .slice A44 z36.length c45] : List Value) ++ rowC (Eint .i64) z37 ++ rowC (Eint .i64) z38 ++ ([.slice A1787 l1784.length c1788] : List Value)) (([.slice A41 z35.length c42, .slice A44 z36.length c45] : List Value) ++ rowC (Eint .i64) z37 ++ rowC (Eint .i64) z38) [.slice A1745 l1747.length c1746] [.slice A1787 l1784.length c1788] [] rfl rfl rfl rfl rfl size22 HS1783 rfl rfl (ones_lit rfl) (by simp only [List.append_assoc, List.cons_append, List.nil_append, List.append_nil]) (by simp only [List.append_assoc, List.cons_append, List.nil_append, List.append_nil]) (app_len (app_len rfl (row_len g47) rfl) (row_len g48) rfl) rfl rfl (fun w1789 HS1790 => ?_)
                        have HS1790 : Hp S0 w0 w1789 [.rd A_lens_0 (rowC (Eint .i64) l_lens_0), .box g51 (([.slice A41 z35.length c42, .slice A44 z36.length c45] : List Value) ++ rowC (Eint .i64) z37 ++ rowC (Eint .i64) z38 ++ ([.slice A1787 l1784.length c1788] : List Value)) 108, .own A41 c42 (rowC (Eint .i64) z35) 3 (Eint .i64).sz, .own A44 c45 (rowC (Eint .i64) z36) 3 (Eint .i64).sz, .own A1787 c1788 (rowC (Eint .i64) l1784) 3 (Eint .i64).sz, .own A1779 c1780 (rowC (Eint .i64) [t1748]) 3 (Eint .i64).sz] := HS1790
                        refine F_nil ?_
                        refine L_nil (fun a ha => hNj1757 a _ ⟨_, _, _, (Option.some.inj H).symm, Is.cons ha (Is.cons ha (Is.cons ha (Is.cons ha (Is.cons ha (Is.nil ha) rfl) rfl) rfl) rfl) rfl, HS1790.sel [0, 1, 2, 3, 4] rfl⟩)
                      · have H := of_neg H c1776
                        refine L_skip ?_
                        refine L_nil (fun a ha => hNj1757 a _ ⟨_, _, _, (Option.some.inj H).symm, Is.cons ha (Is.cons ha (Is.cons ha (Is.cons ha (Is.cons ha (Is.nil ha) rfl) rfl) rfl) rfl) rfl, HS1750.sel [0, 1, 2, 3, 4] rfl⟩)
                    · obtain ⟨l1775, A1773, c1774, ej, ha, HS1792⟩ := hR
                      obtain rfl := ej.symm
                      refine wpLF_app ?_ ha
                      refine L_endB hN1752 ?_
                      refine L_region ?_
                      refine F_val rfl rfl rfl (O_add rfl rfl rfl) ?_
                      refine F_val rfl rfl rfl (O_move rfl rfl) ?_
                      refine F_nil ?_
                      refine L_nil (fun a ha => hNp1744 _ a _ (Nat.lt_succ_self _) ⟨_, _, _, _, Is.cons ha (Is.cons ha (Is.cons ha (Is.cons ha (Is.cons ha (Is.nil ha) rfl) rfl) rfl) rfl) rfl, HS1792.sel [0, 1, 2, 3, 4] rfl, H⟩)
                  · have H := of_neg H c1751
                    refine L_exitB (fun a w h => hOp1744 (.exit 2) a w rfl (hXb1655 a w h)) ?_
                    refine L_nil (fun a ha => hNj1513 a _ ⟨_, _, _, (Option.some.inj H).symm, Is.cons ha (Is.cons ha (Is.nil ha) rfl) rfl, HS1750.sel [0, 1, 2, 3, 4] rfl⟩)
              · obtain ⟨l1654, A1652, c1653, ej, ha, HS1794⟩ := hR
                obtain rfl := ej.symm
                refine wpLF_app ?_ ha
                refine L_endB hN1512 ?_
                refine L_region ?_
                refine F_val rfl rfl rfl (O_move rfl rfl) ?_
                refine F_val rfl rfl rfl (O_add rfl rfl rfl) ?_
                obtain ⟨x1795, h1796, H⟩ := of_bnd H
                refine F_val rfl rfl rfl (O_assign' rfl rfl (congrArg (Value.int .i64) h1796)) ?_
                refine F_nil ?_
                refine L_nil (fun a ha => hNp1504 _ a _ (Nat.lt_succ_self _) ⟨_, _, _, _, Is.cons ha (Is.cons ha (Is.nil ha) rfl) rfl, HS1794.sel [0, 1, 2, 3, 4] rfl, H⟩)
            · have H := of_neg H c1511
              refine L_exitB (fun a w h => hOp1504 (.exit 0) a w rfl (hXb928 a w h)) ?_
              refine L_nil (fun a ha => hNj55 a _ ⟨_, _, _, (Option.some.inj H).symm, Is.cons ha (Is.nil ha) rfl, HS1510.sel [0, 1, 2, 3, 4] rfl⟩)
        · obtain ⟨l927, A925, c926, ej, ha, HS1798⟩ := hR
          obtain rfl := ej.symm
          refine wpLF_app ?_ ha
          refine L_seq ?_
          refine L_region ?_
          refine F_val rfl rfl rfl (O_move rfl rfl) ?_
          refine F_val rfl rfl rfl (O_assign rfl rfl) ?_
          refine F_val rfl rfl rfl (O_assign rfl rfl) ?_
          refine F_nil ?_
          refine L_ret (fun a ha => (post_ret2 ha rfl rfl rfl ?_))
          obtain rfl := Option.some.inj H
          exact ⟨_, _, _, _, _, _, _, rfl, HS1798.sel [1, 2, 3, 4] rfl⟩

/-! function 23: valise/valiselaw5.num -/
theorem valiselaw5_num.calls {S0 : Nat → Prop} {w0 : World} {e_0 : Int} {r : Int} (HS0 : Hp S0 w0 w0 []) (h : valiselaw5_num.f e_0 = some r) :
    Calls Try.prog 23 ([.int .i64 e_0] : List Value).toArray w0 (fun e w => e = .returned (.int .i64 r) ∧ Hp S0 w0 w []) := by
  have H : ((some e_0) : Option (Int)) = some r := h
  refine calls_start Try.func23 rfl rfl ?_
  refine L_seq ?_
  refine L_region ?_
  refine F_val rfl rfl rfl (O_assign rfl rfl) ?_
  refine F_nil ?_
  refine L_seq ?_
  refine L_region ?_
  refine F_val rfl rfl rfl (O_move rfl rfl) ?_
  refine F_val rfl rfl rfl (O_assign rfl rfl) ?_
  refine F_nil ?_
  refine L_ret (fun a ha => (post_ret1 ha rfl rfl ?_))
  obtain rfl := Option.some.inj H
  exact ⟨rfl, HS0.sel [] rfl⟩

/-! function 32: valise/bits.NewWriter -/
theorem bits_NewWriter.calls {S0 : Nat → Prop} {w0 : World} {r : (List Int × Int)} (HS0 : Hp S0 w0 w0 []) (h : bits_NewWriter.f = some r) :
    Calls Try.prog 32 ([] : List Value).toArray w0 (fun e w => ∃ (g1 : Nat), ∃ (A1_0 : Option Addr), ∃ (c1_0 : Nat), e = .returned (.pointer (some ⟨g1, 0, none⟩)) ∧ Hp S0 w0 w [.box g1 [.slice A1_0 r.1.length c1_0, .int .i64 r.2] 98, .own A1_0 c1_0 (rowC (Eint .u8) r.1) 5 (Eint .u8).sz]) := by
  have H : ((some (([] : List Int), 0)) : Option ((List Int × Int))) = some r := h
  refine calls_start Try.func32 rfl rfl ?_
  refine L_seq ?_
  refine L_region ?_
  refine F_val rfl rfl rfl (O_assign rfl rfl) ?_
  refine F_nil ?_
  refine L_seq ?_
  refine L_region ?_
  refine F_val rfl rfl rfl (O_build (vs := []) (v := .agg #[.slice none 0 0, .int .i64 0]) rfl rfl rfl (fun w => by kernel_rfl)) ?_
  have HS5 := HS0.addNil 5 (Eint .u8).sz
  have HS5 : Hp S0 w0 w0 [.own none 0 (rowC (Eint .u8) ([] : List Int)) 5 (Eint .u8).sz] := HS5
  refine F_box (C := [.slice none ([] : List Int).length 0, .int .i64 0]) rfl rfl rfl rfl rfl rfl HS5 (fun w1 g3 HS2 => ?_)
  have HS2 : Hp S0 w0 w1 [.own none 0 (rowC (Eint .u8) ([] : List Int)) 5 (Eint .u8).sz, .box g3 ([.slice none ([] : List Int).length 0, .int .i64 0]) 98] := HS2
  refine F_val rfl rfl rfl (O_assign rfl rfl) ?_
  refine F_nil ?_
  refine L_ret (fun a ha => (post_ret1 ha rfl rfl ?_))
  obtain rfl := Option.some.inj H
  exact ⟨_, _, _, rfl, HS2.sel [1, 0] rfl⟩

/-! function 38: (*valise/code.Encoder).Len -/
theorem code_Encoder_Len.calls {S0 : Nat → Prop} {w0 : World} {g_e_0 : Nat} {A_e_0_table_lens : Option Addr} {c_e_0_table_lens : Nat} {A_e_0_table_words : Option Addr} {c_e_0_table_words : Nat} {e_0_table_lens : List Int} {e_0_table_words : List Int} {e_0_table_counts : List Int} {e_0_table_first : List Int} {symbol_1 : Int} {r : Int} (HS0 : Hp S0 w0 w0 [.rd (some ⟨g_e_0, 0, none⟩) (([.slice A_e_0_table_lens e_0_table_lens.length c_e_0_table_lens, .slice A_e_0_table_words e_0_table_words.length c_e_0_table_words] : List Value) ++ rowC (Eint .i64) e_0_table_counts ++ rowC (Eint .i64) e_0_table_first), .rd A_e_0_table_lens (rowC (Eint .i64) e_0_table_lens), .rd A_e_0_table_words (rowC (Eint .i64) e_0_table_words)]) (h : code_Encoder_Len.f e_0_table_lens e_0_table_words e_0_table_counts e_0_table_first symbol_1 = some r) :
    Calls Try.prog 38 ([.pointer (some ⟨g_e_0, 0, none⟩), .int .i64 symbol_1] : List Value).toArray w0 (fun e w => e = .returned (.int .i64 r) ∧ Hp S0 w0 w []) := by
  have H : ((if (symbol_1 < 0) ∨ ((e_0_table_lens.length : Int) ≤ symbol_1) then (some 0) else (gd ((0 : Int) ≤ symbol_1 ∧ symbol_1 < (e_0_table_lens.length : Int)) (some (rd e_0_table_lens symbol_1)))) : Option (Int)) = some r := h
  refine calls_start Try.func38 rfl rfl ?_
  refine L_seq ?_
  refine L_region ?_
  refine F_val rfl rfl rfl (O_assign rfl rfl) ?_
  refine F_nil ?_
  refine L_seq ?_
  refine L_seq ?_
  refine L_region ?_
  refine F_val rfl rfl rfl (O_move rfl rfl) ?_
  refine F_val rfl rfl rfl (O_peq rfl rfl rfl Try.underlying41) ?_
  refine F_val rfl rfl rfl (O_move rfl rfl) ?_
  refine F_gval rfl rfl rfl rfl rfl rfl (O_move rfl rfl) ?_
  refine F_gval rfl rfl rfl rfl rfl rfl (O_lt rfl rfl rfl) ?_
  refine F_val rfl rfl rfl (O_pickF rfl rfl rfl) ?_
  refine F_val rfl rfl rfl (O_move rfl rfl) ?_
  refine F_grp 9 [(20, .bool (decide ((symbol_1 < 0) ∨ ((e_0_table_lens.length : Int) ≤ symbol_1)))), (0, .pointer (some ⟨g_e_0, 0, none⟩)), (1, .int .i64 symbol_1)] ?_ ?_
  · rcases Decidable.em (symbol_1 < 0) with c4 | c4
    · refine F_know (i := 11) rfl (dec_t c4) ?_
      refine F_gskip rfl rfl rfl rfl rfl rfl rfl ?_
      refine F_gskip rfl rfl rfl rfl rfl rfl rfl ?_
      refine F_gskip rfl rfl rfl rfl rfl rfl rfl ?_
      refine F_gskip rfl rfl rfl rfl rfl rfl rfl ?_
      refine F_gskip rfl rfl rfl rfl rfl rfl rfl ?_
      refine F_gskip rfl rfl rfl rfl rfl rfl rfl ?_
      refine F_gskip rfl rfl rfl rfl rfl rfl rfl ?_
      refine F_gskip rfl rfl rfl rfl rfl rfl rfl ?_
      refine F_val rfl rfl rfl (O_pickT rfl rfl rfl) ?_
      refine F_know (i := 20) rfl (dec_or_t (q := (e_0_table_lens.length : Int) ≤ symbol_1) c4) ?_
      exact F_grpE (fun a ha => Is.cons ha (Is.cons ha (Is.cons ha (Is.nil ha) rfl) rfl) rfl)
    · refine F_know (i := 11) rfl (dec_f c4) ?_
      refine F_gval rfl rfl rfl rfl rfl rfl (O_move rfl rfl) ?_
      refine F_gval rfl rfl rfl rfl rfl rfl (O_move rfl rfl) ?_
      refine F_gval rfl rfl rfl rfl rfl rfl (O_nilCheck rfl rfl) ?_
      refine F_gval rfl rfl rfl rfl rfl rfl (O_fieldB rfl rfl field94_0) ?_
      refine F_gval rfl rfl rfl rfl rfl rfl (O_fieldB rfl rfl field91_0) ?_
      refine F_gval rfl rfl rfl rfl rfl rfl (O_loadB rfl rfl flat22 (HS0.cells_rd (i := 0) rfl) (cell_seg (j := 0) [] [.slice A_e_0_table_lens e_0_table_lens.length c_e_0_table_lens] (([.slice A_e_0_table_words e_0_table_words.length c_e_0_table_words] : List Value) ++ rowC (Eint .i64) e_0_table_counts ++ rowC (Eint .i64) e_0_table_first) (by simp only [List.append_assoc, List.cons_append, List.nil_append, List.append_nil]) rfl rfl)) ?_
      refine F_gval rfl rfl rfl rfl rfl rfl (O_len rfl rfl Try.underlying22) ?_
      refine F_gval rfl rfl rfl rfl rfl rfl (O_ge rfl rfl rfl) ?_
      refine F_val rfl rfl rfl (O_pickF rfl rfl rfl) ?_
      refine F_know (i := 20) rfl (dec_or_f (q := (e_0_table_lens.length : Int) ≤ symbol_1) c4) ?_
      exact F_grpE (fun a ha => Is.cons ha (Is.cons ha (Is.cons ha (Is.nil ha) rfl) rfl) rfl)
  · skip
    refine F_nil ?_
    refine L_condP rfl (fun c5 => ?_) (fun c5 => ?_)
    · have H := of_pos H c5
      refine L_seq ?_
      refine L_region ?_
      refine F_val rfl rfl rfl (O_assign rfl rfl) ?_
      refine F_nil ?_
      refine L_ret (fun a ha => (post_ret1 ha rfl rfl ?_))
      obtain rfl := Option.some.inj H
      exact ⟨rfl, HS0.sel [] rfl⟩
    · have H := of_neg H c5
      refine L_skip ?_
      refine L_seq ?_
      refine L_region ?_
      refine F_val rfl rfl rfl (O_move rfl rfl) ?_
      refine F_val rfl rfl rfl (O_nilCheck rfl rfl) ?_
      refine F_val rfl rfl rfl (O_fieldB rfl rfl field94_0) ?_
      refine F_val rfl rfl rfl (O_fieldB rfl rfl field91_0) ?_
      refine F_val rfl rfl rfl (O_loadB rfl rfl flat22 (HS0.cells_rd (i := 0) rfl) (cell_seg (j := 0) [] [.slice A_e_0_table_lens e_0_table_lens.length c_e_0_table_lens] (([.slice A_e_0_table_words e_0_table_words.length c_e_0_table_words] : List Value) ++ rowC (Eint .i64) e_0_table_counts ++ rowC (Eint .i64) e_0_table_first) (by simp only [List.append_assoc, List.cons_append, List.nil_append, List.append_nil]) rfl rfl)) ?_
      refine F_val rfl rfl rfl (O_move rfl rfl) ?_
      obtain ⟨⟨g6, g7⟩, H⟩ := of_gd H
      refine F_val rfl rfl rfl (O_idx rfl rfl rfl Try.underlying22 size3 g6 g7 (Cells.isA (HS0.cells_rd (i := 1) rfl) (rowC_ne (E := (Eint .i64)) g6 g7 (by decide)))) ?_
      refine F_val rfl rfl rfl (O_loadC rfl rfl flat3 (HS0.cells_rd (i := 1) rfl) (int_cell g6 g7)) ?_
      refine F_val rfl rfl rfl (O_assign rfl rfl) ?_
      refine F_nil ?_
      refine L_ret (fun a ha => (post_ret1 ha rfl rfl ?_))
      obtain rfl := Option.some.inj H
      exact ⟨rfl, HS0.sel [] rfl⟩

/-! function 69: valise/bits.Reverse -/
theorem bits_Reverse.calls {S0 : Nat → Prop} {w0 : World} {v_0 : Int} {n_1 : Int} {r : Int × Int} (HS0 : Hp S0 w0 w0 []) (h : bits_Reverse.f v_0 n_1 = some r) :
    Calls Try.prog 69 ([.int .u32 v_0, .int .i64 n_1] : List Value).toArray w0 (fun e w => e = .returned (.tuple #[.int .u32 r.1, .int .i64 r.2]) ∧ Hp S0 w0 w []) := by
  have H : (((if (n_1 < 0) ∨ (32 < n_1) then (some true) else (gd (¬ (IntKind.u64.wrap n_1) < 0) (some (decide (shr .u64 (IntKind.u64.wrap v_0) (IntKind.u64.wrap n_1) ≠ 0))))).bind fun b6 => if b6 = true then (some (0, 1)) else ((bits_Reverse.l1 FU v_0 0 0 n_1).bind fun out_42 => some (out_42, 0))) : Option (Int × Int)) = some r := h
  refine calls_start Try.func69 rfl rfl ?_
  refine L_seq ?_
  refine L_region ?_
  refine F_val rfl rfl rfl (O_assign rfl rfl) ?_
  refine F_val rfl rfl rfl (O_assign rfl rfl) ?_
  refine F_nil ?_
  refine L_seq ?_
  refine L_seq ?_
  refine L_region ?_
  refine F_val rfl rfl rfl (O_move rfl rfl) ?_
  refine F_val rfl rfl rfl (O_lt rfl rfl rfl) ?_
  refine F_val rfl rfl rfl (O_move rfl rfl) ?_
  refine F_grp 3 [(12, .bool (decide ((n_1 < 0) ∨ (32 < n_1)))), (0, .int .u32 v_0), (1, .int .i64 n_1)] ?_ ?_
  · rcases Decidable.em (n_1 < 0) with c4 | c4
    · refine F_know (i := 9) rfl (dec_t c4) ?_
      refine F_gskip rfl rfl rfl rfl rfl rfl rfl ?_
      refine F_gskip rfl rfl rfl rfl rfl rfl rfl ?_
      refine F_val rfl rfl rfl (O_pickT rfl rfl rfl) ?_
      refine F_know (i := 12) rfl (dec_or_t (q := 32 < n_1) c4) ?_
      exact F_grpE (fun a ha => Is.cons ha (Is.cons ha (Is.cons ha (Is.nil ha) rfl) rfl) rfl)
    · refine F_know (i := 9) rfl (dec_f c4) ?_
      refine F_gval rfl rfl rfl rfl rfl rfl (O_move rfl rfl) ?_
      refine F_gval rfl rfl rfl rfl rfl rfl (O_gt rfl rfl rfl) ?_
      refine F_val rfl rfl rfl (O_pickF rfl rfl rfl) ?_
      refine F_know (i := 12) rfl (dec_or_f (q := 32 < n_1) c4) ?_
      exact F_grpE (fun a ha => Is.cons ha (Is.cons ha (Is.cons ha (Is.nil ha) rfl) rfl) rfl)
  · skip
    refine F_val rfl rfl rfl (O_move rfl rfl) ?_
    obtain ⟨b6, Hb6, H⟩ := of_bind H
    refine F_grp 7 [(20, .bool b6), (0, .int .u32 v_0), (1, .int .i64 n_1)] ?_ ?_
    · rcases Decidable.em ((n_1 < 0) ∨ (32 < n_1)) with c10 | c10
      · refine F_know (i := 13) rfl (dec_t c10) ?_
        have H := of_pos Hb6 c10
        refine F_gskip rfl rfl rfl rfl rfl rfl rfl ?_
        refine F_gskip rfl rfl rfl rfl rfl rfl rfl ?_
        refine F_gskip rfl rfl rfl rfl rfl rfl rfl ?_
        refine F_gskip rfl rfl rfl rfl rfl rfl rfl ?_
        refine F_gskip rfl rfl rfl rfl rfl rfl rfl ?_
        refine F_gskip rfl rfl rfl rfl rfl rfl rfl ?_
        refine F_val rfl rfl rfl (O_pickT rfl rfl rfl) ?_
        refine F_know (i := 20) rfl (congrArg Value.bool (Option.some.inj H)) ?_
        exact F_grpE (fun a ha => Is.cons ha (Is.cons ha (Is.cons ha (Is.nil ha) rfl) rfl) rfl)
      · refine F_know (i := 13) rfl (dec_f c10) ?_
        have H := of_neg Hb6 c10
        refine F_gval rfl rfl rfl rfl rfl rfl (O_move rfl rfl) ?_
        refine F_gval rfl rfl rfl rfl rfl rfl (O_conv rfl rfl ⟨_, Try.underlying52⟩ Try.underlying101) ?_
        refine F_gval rfl rfl rfl rfl rfl rfl (O_move rfl rfl) ?_
        refine F_gval rfl rfl rfl rfl rfl rfl (O_conv rfl rfl ⟨_, Try.underlying3⟩ Try.underlying39) ?_
        obtain ⟨g11, H⟩ := of_gd H
        refine F_gval rfl rfl rfl rfl rfl rfl (O_shr rfl rfl rfl g11) ?_
        refine F_gval rfl rfl rfl rfl rfl rfl (O_ne rfl rfl rfl) ?_
        refine F_val rfl rfl rfl (O_pickF rfl rfl rfl) ?_
        refine F_know (i := 20) rfl (congrArg Value.bool (Option.some.inj H)) ?_
        exact F_grpE (fun a ha => Is.cons ha (Is.cons ha (Is.cons ha (Is.nil ha) rfl) rfl) rfl)
    · skip
      refine F_nil ?_
      refine L_cond rfl (fun c12 => ?_) (fun c12 => ?_)
      · have H := of_pos H c12
        refine L_seq ?_
        refine L_region ?_
        refine F_val rfl rfl rfl (O_assign rfl rfl) ?_
        refine F_val rfl rfl rfl (O_assign rfl rfl) ?_
        refine F_nil ?_
        refine L_ret (fun a ha => (post_ret2 ha rfl rfl rfl ?_))
        obtain rfl := Option.some.inj H
        exact ⟨rfl, HS0.sel [] rfl⟩
      · have H := of_neg H (by rw [c12]; exact Bool.false_ne_true)
        refine L_skip ?_
        refine L_seq ?_
        refine L_region ?_
        refine F_val rfl rfl rfl (O_assign rfl rfl) ?_
        refine F_nil ?_
        refine L_seq ?_
        refine L_seq ?_
        refine L_region ?_
        refine F_val rfl rfl rfl (O_move rfl rfl) ?_
        refine F_val rfl rfl rfl (O_move rfl rfl) ?_
        refine F_nil ?_
        obtain ⟨yj13, Hyj13, H⟩ := of_bind H
        refine L_join (fun a w => ∃ (out_42 : Int), yj13 = out_42 ∧ Is Try.f69.ntmps a [(6, .int .u32 out_42)] ∧ Hp S0 w0 w []) (fun Qj13 hNj13 hOj13 => ?_) (fun a w hR => ?_)
        · skip
          have H := Hyj13
          refine L_blk (fun Qb43 hNb43 hXb43 hOb43 => ?_)
          refine L_lp (fun k a w => ∃ (v_60 : Int), ∃ (out_61 : Int), ∃ (t62 : Int), Is Try.f69.ntmps a [(0, .int .u32 v_60), (6, .int .u32 out_61), (21, .int .i64 n_1), (22, .int .i64 t62)] ∧ Hp S0 w0 w [] ∧ bits_Reverse.l1 k v_60 out_61 t62 n_1 = some yj13) FU (fun a ha => ⟨_, _, _, Is.cons ha (Is.cons ha (Is.cons ha (Is.cons ha (Is.nil ha) rfl) rfl) rfl) rfl, HS0.sel [] rfl, H⟩) (fun kp59 a w63 hI Qp59 hNp59 hOp59 => ?_)
          obtain ⟨v_60, out_61, t62, ha, HS64, HAp59⟩ := hI
          cases kp59 with
          | zero => cases (show (none : Option _) = some _ from HAp59)
          | succ kp59 =>
            have H := (bits_Reverse.l1.eq_2 ..).symm.trans HAp59
            refine wpLF_app ?_ ha
            refine L_seq ?_
            refine L_region ?_
            refine F_val rfl rfl rfl (O_lt rfl rfl rfl) ?_
            refine F_nil ?_
            refine L_seq ?_
            refine L_condP rfl (fun c65 => ?_) (fun c65 => ?_)
            · have H := of_pos H c65
              refine L_skip ?_
              refine L_seq ?_
              refine L_blk (fun Q66 hN66 hX66 hO66 => ?_)
              refine L_seq ?_
              refine L_region ?_
              refine F_val rfl rfl rfl (O_move rfl rfl) ?_
              refine F_val rfl rfl rfl (O_shl rfl rfl rfl (by decide)) ?_
              refine F_val rfl rfl rfl (O_move rfl rfl) ?_
              refine F_val rfl rfl rfl (O_and rfl rfl rfl) ?_
              refine F_val rfl rfl rfl (O_or rfl rfl rfl) ?_
              obtain ⟨x67, h68, H⟩ := of_bnd H
              refine F_val rfl rfl rfl (O_assign' rfl rfl (congrArg (Value.int .u32) h68)) ?_
              refine F_nil ?_
              refine L_region ?_
              refine F_val rfl rfl rfl (O_move rfl rfl) ?_
              refine F_val rfl rfl rfl (O_shr rfl rfl rfl (by decide)) ?_
              obtain ⟨x69, h70, H⟩ := of_bnd H
              refine F_val rfl rfl rfl (O_assign' rfl rfl (congrArg (Value.int .u32) h70)) ?_
              refine F_nil ?_
              refine L_endB hN66 ?_
              refine L_region ?_
              refine F_val rfl rfl rfl (O_add rfl rfl rfl) ?_
              refine F_val rfl rfl rfl (O_move rfl rfl) ?_
              refine F_nil ?_
              refine L_nil (fun a ha => hNp59 _ a _ (Nat.lt_succ_self _) ⟨_, _, _, Is.cons ha (Is.cons ha (Is.cons ha (Is.cons ha (Is.nil ha) rfl) rfl) rfl) rfl, HS64.sel [] rfl, H⟩)
            · have H := of_neg H c65
              refine L_exitB (fun a w h => hOp59 (.exit 0) a w rfl (hXb43 a w h)) ?_
              refine L_nil (fun a ha => hNj13 a _ ⟨_, (Option.some.inj H).symm, Is.cons ha (Is.nil ha) rfl, HS64.sel [] rfl⟩)
        · obtain ⟨out_42, ej, ha, HS72⟩ := hR
          obtain rfl := ej.symm
          refine wpLF_app ?_ ha
          refine L_seq ?_
          refine L_region ?_
          refine F_val rfl rfl rfl (O_move rfl rfl) ?_
          refine F_val rfl rfl rfl (O_assign rfl rfl) ?_
          refine F_val rfl rfl rfl (O_assign rfl rfl) ?_
          refine F_nil ?_
          refine L_ret (fun a ha => (post_ret2 ha rfl rfl rfl ?_))
          obtain rfl := Option.some.inj H
          exact ⟨rfl, HS72.sel [] rfl⟩

/-! function 66: (*valise/bits.Writer).lay -/
theorem bits_Writer_lay.calls {S0 : Nat → Prop} {w0 : World} {g_w_0 : Nat} {A_w_0_bytes : Option Addr} {c_w_0_bytes : Nat} {w_0_bytes : List Int} {w_0_count : Int} {v_1 : Int} {n_2 : Int} {r : List Int × Int} (HS0 : Hp S0 w0 w0 [.box g_w_0 [.slice A_w_0_bytes w_0_bytes.length c_w_0_bytes, .int .i64 w_0_count] 98, .own A_w_0_bytes c_w_0_bytes (rowC (Eint .u8) w_0_bytes) 5 (Eint .u8).sz]) (h : bits_Writer_lay.f w_0_bytes w_0_count v_1 n_2 = some r) :
    Calls Try.prog 66 ([.pointer (some ⟨g_w_0, 0, none⟩), .int .u64 v_1, .int .i64 n_2] : List Value).toArray w0 (fun e w => ∃ (A_w_0_bytes' : Option Addr), ∃ (c_w_0_bytes' : Nat), e = .returned (.tuple #[]) ∧ Hp S0 w0 w [.box g_w_0 [.slice A_w_0_bytes' r.1.length c_w_0_bytes', .int .i64 r.2] 98, .own A_w_0_bytes' c_w_0_bytes' (rowC (Eint .u8) r.1) 5 (Eint .u8).sz]) := by
  have H : (((bits_Writer_lay.l1 FU w_0_bytes w_0_count v_1 n_2 ).bind fun (l206, y207) => some (l206, y207)) : Option (List Int × Int)) = some r := h
  refine calls_start Try.func66 rfl rfl ?_
  obtain ⟨yj1, Hyj1, H⟩ := of_bind H
  refine L_join (fun a w => ∃ (l206 : List Int), ∃ (y207 : Int), ∃ (A204 : Option Addr), ∃ (c205 : Nat), yj1 = (l206, y207) ∧ Is Try.f66.ntmps a [] ∧ Hp S0 w0 w [.box g_w_0 [.slice A204 l206.length c205, .int .i64 y207] 98, .own A204 c205 (rowC (Eint .u8) l206) 5 (Eint .u8).sz]) (fun Qj1 hNj1 hOj1 => ?_) (fun a w hR => ?_)
  · skip
    have H := Hyj1
    refine L_blk (fun Qb208 hNb208 hXb208 hOb208 => ?_)
    refine L_lp (fun k a w => ∃ (l342 : List Int), ∃ (y343 : Int), ∃ (v_344 : Int), ∃ (n_345 : Int), ∃ (A340 : Option Addr), ∃ (c341 : Nat), Is Try.f66.ntmps a [(0, .pointer (some ⟨g_w_0, 0, none⟩)), (1, .int .u64 v_344), (2, .int .i64 n_345)] ∧ Hp S0 w0 w [.box g_w_0 [.slice A340 l342.length c341, .int .i64 y343] 98, .own A340 c341 (rowC (Eint .u8) l342) 5 (Eint .u8).sz] ∧ bits_Writer_lay.l1 k l342 y343 v_344 n_345  = some yj1) FU (fun a ha => ⟨_, _, _, _, _, _, Is.cons ha (Is.cons ha (Is.cons ha (Is.nil ha) rfl) rfl) rfl, HS0.sel [0, 1] rfl, H⟩) (fun kp339 a w346 hI Qp339 hNp339 hOp339 => ?_)
    obtain ⟨l342, y343, v_344, n_345, A340, c341, ha, HS347, HAp339⟩ := hI
    cases kp339 with
    | zero => cases (show (none : Option _) = some _ from HAp339)
    | succ kp339 =>
      have H := (bits_Writer_lay.l1.eq_2 ..).symm.trans HAp339
      refine wpLF_app ?_ ha
      refine L_seq ?_
      refine L_seq ?_
      refine L_region ?_
      refine F_val rfl rfl rfl (O_move rfl rfl) ?_
      refine F_val rfl rfl rfl (O_gt rfl rfl rfl) ?_
      refine F_nil ?_
      refine L_condP rfl (fun c348 => ?_) (fun c348 => ?_)
      · have H := of_pos H c348
        refine L_skip ?_
        refine L_blk (fun Q349 hN349 hX349 hO349 => ?_)
        refine L_seq ?_
        refine L_region ?_
        refine F_val rfl rfl rfl (O_move rfl rfl) ?_
        refine F_val rfl rfl rfl (O_nilCheck rfl rfl) ?_
        refine F_val rfl rfl rfl (O_fieldB rfl rfl field98_1) ?_
        refine F_val rfl rfl rfl (O_loadB rfl rfl flat3 (HS347.cells_box (i := 0) rfl) rfl) ?_
        refine F_val rfl rfl rfl (O_rem rfl rfl rfl (by decide)) ?_
        obtain ⟨x350, h351, H⟩ := of_bnd H
        refine F_val rfl rfl rfl (O_assign' rfl rfl (congrArg (Value.int .i64) h351)) ?_
        refine F_nil ?_
        refine L_seq ?_
        refine L_seq ?_
        refine L_region ?_
        refine F_val rfl rfl rfl (O_move rfl rfl) ?_
        refine F_val rfl rfl rfl (O_eq rfl rfl rfl) ?_
        refine F_nil ?_
        obtain ⟨yj352, Hyj352, H⟩ := of_bind H
        refine L_join (fun a w => ∃ (l370 : List Int), ∃ (A368 : Option Addr), ∃ (c369 : Nat), yj352 = l370 ∧ Is Try.f66.ntmps a [(0, .pointer (some ⟨g_w_0, 0, none⟩)), (1, .int .u64 v_344), (2, .int .i64 n_345), (6, .int .i64 x350)] ∧ Hp S0 w0 w [.box g_w_0 [.slice A368 l370.length c369, .int .i64 y343] 98, .own A368 c369 (rowC (Eint .u8) l370) 5 (Eint .u8).sz]) (fun Qj352 hNj352 hOj352 => ?_) (fun a w hR => ?_)
        · skip
          have H := Hyj352
          refine L_condP rfl (fun c371 => ?_) (fun c371 => ?_)
          · have H := of_pos H c371
            refine L_region ?_
            refine F_val rfl rfl rfl (O_move rfl rfl) ?_
            refine F_val rfl rfl rfl (O_move rfl rfl) ?_
            refine F_val rfl rfl rfl (O_nilCheck rfl rfl) ?_
            refine F_val rfl rfl rfl (O_fieldB rfl rfl field98_0) ?_
            refine F_val rfl rfl rfl (O_loadB rfl rfl flat59 (HS347.cells_box (i := 0) rfl) rfl) ?_
            refine F_litE (E := (Eint .u8)) (e := 5) [(0, .int .u8 0)] [0] rfl rfl rfl rfl rfl rfl rfl (by decide) (fun w => by kernel_rfl) HS347 (fun w372 A374 c375 HS373 => ?_)
            have HS373 : Hp S0 w0 w372 [.box g_w_0 [.slice A340 l342.length c341, .int .i64 y343] 98, .own A340 c341 (rowC (Eint .u8) l342) 5 (Eint .u8).sz, .own A374 c375 (rowC (Eint .u8) [0]) 5 (Eint .u8).sz] := HS373
            obtain ⟨l379, h380, H⟩ := of_bnd H
            obtain ⟨g381, H⟩ := of_gd H
            refine F_appE (E := (Eint .u8)) (xs := l342) (ys := [0]) (i := 1) rfl rfl rfl rfl Try.underlying59 info5 rfl (by decide) (by decide) rfl rfl HS373 rfl (HS373.cells_own (i := 2) rfl) h380 g381 (fun w377 A382 c383 HS378 => ?_)
            have HS378 : Hp S0 w0 w377 [.box g_w_0 [.slice A340 l342.length c341, .int .i64 y343] 98, .own A382 c383 (rowC (Eint .u8) l379) 5 (Eint .u8).sz, .own A374 c375 (rowC (Eint .u8) [0]) 5 (Eint .u8).sz] := HS378
            refine F_val rfl rfl rfl (O_nilCheck rfl rfl) ?_
            refine F_val rfl rfl rfl (O_fieldB rfl rfl field98_0) ?_
            refine F_stB 0 ([.slice A382 l379.length c383, .int .i64 y343]) rfl rfl rfl rfl rfl size59 HS378 rfl rfl rfl rfl rfl (fun w384 HS385 => ?_)
            have HS385 : Hp S0 w0 w384 [.box g_w_0 [.slice A382 l379.length c383, .int .i64 y343] 98, .own A382 c383 (rowC (Eint .u8) l379) 5 (Eint .u8).sz, .own A374 c375 (rowC (Eint .u8) [0]) 5 (Eint .u8).sz] := HS385
            refine F_nil ?_
            refine L_nil (fun a ha => hNj352 a _ ⟨_, _, _, (Option.some.inj H).symm, Is.cons ha (Is.cons ha (Is.cons ha (Is.cons ha (Is.nil ha) rfl) rfl) rfl) rfl, HS385.sel [0, 1] rfl⟩)
          · have H := of_neg H c371
            refine L_skip ?_
            refine L_nil (fun a ha => hNj352 a _ ⟨_, _, _, (Option.some.inj H).symm, Is.cons ha (Is.cons ha (Is.cons ha (Is.cons ha (Is.nil ha) rfl) rfl) rfl) rfl, HS347.sel [0, 1] rfl⟩)
        · obtain ⟨l370, A368, c369, ej, ha, HS387⟩ := hR
          obtain rfl := ej.symm
          refine wpLF_app ?_ ha
          refine L_seq ?_
          refine L_region ?_
          refine F_val rfl rfl rfl (O_move rfl rfl) ?_
          refine F_val rfl rfl rfl (O_sub rfl rfl rfl) ?_
          refine F_val rfl rfl rfl (O_move rfl rfl) ?_
          refine F_val rfl rfl rfl (O_min rfl rfl rfl) ?_
          obtain ⟨x388, h389, H⟩ := of_bnd H
          refine F_val rfl rfl rfl (O_assign' rfl rfl (congrArg (Value.int .i64) h389)) ?_
          refine F_nil ?_
          refine L_seq ?_
          refine L_region ?_
          refine F_val rfl rfl rfl (O_move rfl rfl) ?_
          refine F_val rfl rfl rfl (O_move rfl rfl) ?_
          refine F_val rfl rfl rfl (O_conv rfl rfl ⟨_, Try.underlying3⟩ Try.underlying39) ?_
          obtain ⟨g390, H⟩ := of_gd H
          refine F_val rfl rfl rfl (O_shl rfl rfl rfl g390) ?_
          refine F_val rfl rfl rfl (O_sub rfl rfl rfl) ?_
          refine F_val rfl rfl rfl (O_and rfl rfl rfl) ?_
          obtain ⟨x391, h392, H⟩ := of_bnd H
          refine F_val rfl rfl rfl (O_assign' rfl rfl (congrArg (Value.int .u64) h392)) ?_
          refine F_nil ?_
          refine L_seq ?_
          refine L_tail 19 mix (by kernel_rfl) (fun w393 hw394 => ?_)
          have HS395 := HS387.keep hw394
          refine S_val rfl rfl rfl (O_move rfl rfl) ?_
          refine S_val rfl rfl rfl (O_nilCheck rfl rfl) ?_
          refine S_val rfl rfl rfl (O_fieldB rfl rfl field98_0) ?_
          refine S_val rfl rfl rfl (O_loadB rfl rfl flat59 (HS395.cells_box (i := 0) rfl) rfl) ?_
          refine S_val rfl rfl rfl (O_move rfl rfl) ?_
          refine S_val rfl rfl rfl (O_nilCheck rfl rfl) ?_
          refine S_val rfl rfl rfl (O_fieldB rfl rfl field98_0) ?_
          refine S_val rfl rfl rfl (O_loadB rfl rfl flat59 (HS395.cells_box (i := 0) rfl) rfl) ?_
          refine S_val rfl rfl rfl (O_len rfl rfl Try.underlying59) ?_
          refine S_val rfl rfl rfl (O_sub rfl rfl rfl) ?_
          obtain ⟨⟨g396, g397⟩, H⟩ := of_gd H
          refine S_val rfl rfl rfl (O_idx rfl rfl rfl Try.underlying59 size5 g396 g397 (Cells.isA (HS395.cells_own (i := 1) rfl) (rowC_ne (E := (Eint .u8)) g396 g397 (by decide)))) ?_
          refine S_val rfl rfl rfl (O_loadC rfl rfl flat5 (HS395.cells_own (i := 1) rfl) (int_cell g396 g397)) ?_
          refine S_val rfl rfl rfl (O_move rfl rfl) ?_
          refine S_val rfl rfl rfl (O_move rfl rfl) ?_
          refine S_val rfl rfl rfl (O_conv rfl rfl ⟨_, Try.underlying3⟩ Try.underlying39) ?_
          obtain ⟨g398, H⟩ := of_gd H
          refine S_val rfl rfl rfl (O_shl rfl rfl rfl g398) ?_
          refine S_val rfl rfl rfl (O_conv rfl rfl ⟨_, Try.underlying101⟩ Try.underlying5) ?_
          refine S_val rfl rfl rfl (O_or rfl rfl rfl) ?_
          refine S_val rfl rfl rfl (O_idx rfl rfl rfl Try.underlying59 size5 g396 g397 (Cells.isA (HS395.cells_own (i := 1) rfl) (rowC_ne (E := (Eint .u8)) g396 g397 (by decide)))) ?_
          refine S_nil ?_
          obtain ⟨l401, h402, H⟩ := of_bnd H
          refine F_setE (E := (Eint .u8)) (i := 1) (a := bor .u8 (rd l370 (IntKind.i64.wrap ((l370.length : Int) - 1))) (IntKind.u8.wrap (shl .u64 x391 (IntKind.u64.wrap x350)))) (q := IntKind.i64.wrap ((l370.length : Int) - 1)) rfl rfl rfl rfl rfl rfl size5 HS395 rfl (by decide) g396 g397 h402 (fun w399 HS400 => ?_)
          have e403 : l370.length = l401.length := by rw [← h402, List.length_set]
          have HS400 : Hp S0 w0 w399 [.box g_w_0 [.slice A368 l401.length c369, .int .i64 y343] 98, .own A368 c369 (rowC (Eint .u8) l401) 5 (Eint .u8).sz] := (by rw [← e403]; exact HS400)
          refine F_nil ?_
          refine L_seq ?_
          refine L_region ?_
          refine F_val rfl rfl rfl (O_move rfl rfl) ?_
          refine F_val rfl rfl rfl (O_move rfl rfl) ?_
          refine F_val rfl rfl rfl (O_conv rfl rfl ⟨_, Try.underlying3⟩ Try.underlying39) ?_
          refine F_val rfl rfl rfl (O_shr rfl rfl rfl g390) ?_
          obtain ⟨x404, h405, H⟩ := of_bnd H
          refine F_val rfl rfl rfl (O_assign' rfl rfl (congrArg (Value.int .u64) h405)) ?_
          refine F_nil ?_
          refine L_seq ?_
          refine L_region ?_
          refine F_val rfl rfl rfl (O_move rfl rfl) ?_
          refine F_val rfl rfl rfl (O_move rfl rfl) ?_
          refine F_val rfl rfl rfl (O_sub rfl rfl rfl) ?_
          obtain ⟨x406, h407, H⟩ := of_bnd H
          refine F_val rfl rfl rfl (O_assign' rfl rfl (congrArg (Value.int .i64) h407)) ?_
          refine F_nil ?_
          refine L_region ?_
          refine F_val rfl rfl rfl (O_move rfl rfl) ?_
          refine F_val rfl rfl rfl (O_nilCheck rfl rfl) ?_
          refine F_val rfl rfl rfl (O_fieldB rfl rfl field98_1) ?_
          refine F_val rfl rfl rfl (O_loadB rfl rfl flat3 (HS400.cells_box (i := 0) rfl) rfl) ?_
          refine F_val rfl rfl rfl (O_move rfl rfl) ?_
          refine F_val rfl rfl rfl (O_add rfl rfl rfl) ?_
          refine F_val rfl rfl rfl (O_nilCheck rfl rfl) ?_
          refine F_val rfl rfl rfl (O_fieldB rfl rfl field98_1) ?_
          refine F_stB 0 ([.slice A368 l401.length c369, .int .i64 (IntKind.i64.wrap (y343 + x388))]) rfl rfl rfl rfl rfl size3 HS400 rfl rfl rfl rfl rfl (fun w408 HS409 => ?_)
          have HS409 : Hp S0 w0 w408 [.box g_w_0 [.slice A368 l401.length c369, .int .i64 (IntKind.i64.wrap (y343 + x388))] 98, .own A368 c369 (rowC (Eint .u8) l401) 5 (Eint .u8).sz] := HS409
          refine F_nil ?_
          refine L_endB hN349 ?_
          refine L_nil (fun a ha => hNp339 _ a _ (Nat.lt_succ_self _) ⟨_, _, _, _, _, _, Is.cons ha (Is.cons ha (Is.cons ha (Is.nil ha) rfl) rfl) rfl, HS409.sel [0, 1] rfl, H⟩)
      · have H := of_neg H c348
        refine L_exitB (fun a w h => hOp339 (.exit 0) a w rfl (hXb208 a w h)) ?_
        refine L_nil (fun a ha => hNj1 a _ ⟨_, _, _, _, (Option.some.inj H).symm, Is.nil ha, HS347.sel [0, 1] rfl⟩)
  · obtain ⟨l206, y207, A204, c205, rfl, ha, HS411⟩ := hR
    refine wpLF_app ?_ ha
    refine L_nil (fun a ha => (post_end0 ha rfl ?_))
    obtain rfl := Option.some.inj H
    exact ⟨_, _, rfl, HS411.sel [0, 1] rfl⟩

/-! function 34: (*valise/bits.Writer).Put -/
theorem bits_Writer_Put.calls {S0 : Nat → Prop} {w0 : World} {g_w_0 : Nat} {A_w_0_bytes : Option Addr} {c_w_0_bytes : Nat} {w_0_bytes : List Int} {w_0_count : Int} {v_1 : Int} {n_2 : Int} {r : Int × List Int × Int} (HS0 : Hp S0 w0 w0 [.box g_w_0 [.slice A_w_0_bytes w_0_bytes.length c_w_0_bytes, .int .i64 w_0_count] 98, .own A_w_0_bytes c_w_0_bytes (rowC (Eint .u8) w_0_bytes) 5 (Eint .u8).sz]) (h : bits_Writer_Put.f w_0_bytes w_0_count v_1 n_2 = some r) :
    Calls Try.prog 34 ([.pointer (some ⟨g_w_0, 0, none⟩), .int .u32 v_1, .int .i64 n_2] : List Value).toArray w0 (fun e w => ∃ (A_w_0_bytes' : Option Addr), ∃ (c_w_0_bytes' : Nat), e = .returned (.int .i64 r.1) ∧ Hp S0 w0 w [.box g_w_0 [.slice A_w_0_bytes' r.2.1.length c_w_0_bytes', .int .i64 r.2.2] 98, .own A_w_0_bytes' c_w_0_bytes' (rowC (Eint .u8) r.2.1) 5 (Eint .u8).sz]) := by
  have H : (((if (n_2 < 0) ∨ (32 < n_2) then (some true) else (gd (¬ (IntKind.u64.wrap n_2) < 0) (some (decide (shr .u64 (IntKind.u64.wrap v_1) (IntKind.u64.wrap n_2) ≠ 0))))).bind fun b6 => if (b6 = true) ∨ (268435456 < IntKind.i64.wrap (w_0_count + n_2)) then (some (1, w_0_bytes, w_0_count)) else ((bits_Writer_lay.f w_0_bytes w_0_count (IntKind.u64.wrap v_1) n_2).bind fun (z21, z22) => some (0, z21, z22))) : Option (Int × List Int × Int)) = some r := h
  refine calls_start Try.func34 rfl rfl ?_
  refine L_seq ?_
  refine L_region ?_
  refine F_val rfl rfl rfl (O_assign rfl rfl) ?_
  refine F_nil ?_
  refine L_seq ?_
  refine L_seq ?_
  refine L_region ?_
  refine F_val rfl rfl rfl (O_move rfl rfl) ?_
  refine F_val rfl rfl rfl (O_peq rfl rfl rfl Try.underlying47) ?_
  refine F_val rfl rfl rfl (O_move rfl rfl) ?_
  refine F_gval rfl rfl rfl rfl rfl rfl (O_move rfl rfl) ?_
  refine F_gval rfl rfl rfl rfl rfl rfl (O_lt rfl rfl rfl) ?_
  refine F_val rfl rfl rfl (O_pickF rfl rfl rfl) ?_
  refine F_val rfl rfl rfl (O_move rfl rfl) ?_
  refine F_grp 3 [(16, .bool (decide ((n_2 < 0) ∨ (32 < n_2)))), (0, .pointer (some ⟨g_w_0, 0, none⟩)), (1, .int .u32 v_1), (2, .int .i64 n_2)] ?_ ?_
  · rcases Decidable.em (n_2 < 0) with c4 | c4
    · refine F_know (i := 13) rfl (dec_t c4) ?_
      refine F_gskip rfl rfl rfl rfl rfl rfl rfl ?_
      refine F_gskip rfl rfl rfl rfl rfl rfl rfl ?_
      refine F_val rfl rfl rfl (O_pickT rfl rfl rfl) ?_
      refine F_know (i := 16) rfl (dec_or_t (q := 32 < n_2) c4) ?_
      exact F_grpE (fun a ha => Is.cons ha (Is.cons ha (Is.cons ha (Is.cons ha (Is.nil ha) rfl) rfl) rfl) rfl)
    · refine F_know (i := 13) rfl (dec_f c4) ?_
      refine F_gval rfl rfl rfl rfl rfl rfl (O_move rfl rfl) ?_
      refine F_gval rfl rfl rfl rfl rfl rfl (O_gt rfl rfl rfl) ?_
      refine F_val rfl rfl rfl (O_pickF rfl rfl rfl) ?_
      refine F_know (i := 16) rfl (dec_or_f (q := 32 < n_2) c4) ?_
      exact F_grpE (fun a ha => Is.cons ha (Is.cons ha (Is.cons ha (Is.cons ha (Is.nil ha) rfl) rfl) rfl) rfl)
  · skip
    refine F_val rfl rfl rfl (O_move rfl rfl) ?_
    obtain ⟨b6, Hb6, H⟩ := of_bind H
    refine F_grp 7 [(24, .bool b6), (0, .pointer (some ⟨g_w_0, 0, none⟩)), (1, .int .u32 v_1), (2, .int .i64 n_2)] ?_ ?_
    · rcases Decidable.em ((n_2 < 0) ∨ (32 < n_2)) with c10 | c10
      · refine F_know (i := 17) rfl (dec_t c10) ?_
        have H := of_pos Hb6 c10
        refine F_gskip rfl rfl rfl rfl rfl rfl rfl ?_
        refine F_gskip rfl rfl rfl rfl rfl rfl rfl ?_
        refine F_gskip rfl rfl rfl rfl rfl rfl rfl ?_
        refine F_gskip rfl rfl rfl rfl rfl rfl rfl ?_
        refine F_gskip rfl rfl rfl rfl rfl rfl rfl ?_
        refine F_gskip rfl rfl rfl rfl rfl rfl rfl ?_
        refine F_val rfl rfl rfl (O_pickT rfl rfl rfl) ?_
        refine F_know (i := 24) rfl (congrArg Value.bool (Option.some.inj H)) ?_
        exact F_grpE (fun a ha => Is.cons ha (Is.cons ha (Is.cons ha (Is.cons ha (Is.nil ha) rfl) rfl) rfl) rfl)
      · refine F_know (i := 17) rfl (dec_f c10) ?_
        have H := of_neg Hb6 c10
        refine F_gval rfl rfl rfl rfl rfl rfl (O_move rfl rfl) ?_
        refine F_gval rfl rfl rfl rfl rfl rfl (O_conv rfl rfl ⟨_, Try.underlying52⟩ Try.underlying101) ?_
        refine F_gval rfl rfl rfl rfl rfl rfl (O_move rfl rfl) ?_
        refine F_gval rfl rfl rfl rfl rfl rfl (O_conv rfl rfl ⟨_, Try.underlying3⟩ Try.underlying39) ?_
        obtain ⟨g11, H⟩ := of_gd H
        refine F_gval rfl rfl rfl rfl rfl rfl (O_shr rfl rfl rfl g11) ?_
        refine F_gval rfl rfl rfl rfl rfl rfl (O_ne rfl rfl rfl) ?_
        refine F_val rfl rfl rfl (O_pickF rfl rfl rfl) ?_
        refine F_know (i := 24) rfl (congrArg Value.bool (Option.some.inj H)) ?_
        exact F_grpE (fun a ha => Is.cons ha (Is.cons ha (Is.cons ha (Is.cons ha (Is.nil ha) rfl) rfl) rfl) rfl)
    · skip
      refine F_val rfl rfl rfl (O_move rfl rfl) ?_
      refine F_grp 8 [(33, .bool (decide ((b6 = true) ∨ (268435456 < IntKind.i64.wrap (w_0_count + n_2))))), (0, .pointer (some ⟨g_w_0, 0, none⟩)), (1, .int .u32 v_1), (2, .int .i64 n_2)] ?_ ?_
      · rcases Decidable.em (b6 = true) with c15 | c15
        · refine F_know (i := 25) rfl (congrArg Value.bool c15) ?_
          refine F_gskip rfl rfl rfl rfl rfl rfl rfl ?_
          refine F_gskip rfl rfl rfl rfl rfl rfl rfl ?_
          refine F_gskip rfl rfl rfl rfl rfl rfl rfl ?_
          refine F_gskip rfl rfl rfl rfl rfl rfl rfl ?_
          refine F_gskip rfl rfl rfl rfl rfl rfl rfl ?_
          refine F_gskip rfl rfl rfl rfl rfl rfl rfl ?_
          refine F_gskip rfl rfl rfl rfl rfl rfl rfl ?_
          refine F_val rfl rfl rfl (O_pickT rfl rfl rfl) ?_
          refine F_know (i := 33) rfl (dec_or_t (q := 268435456 < IntKind.i64.wrap (w_0_count + n_2)) c15) ?_
          exact F_grpE (fun a ha => Is.cons ha (Is.cons ha (Is.cons ha (Is.cons ha (Is.nil ha) rfl) rfl) rfl) rfl)
        · refine F_know (i := 25) rfl (congrArg Value.bool (Bool.eq_false_iff.mpr c15)) ?_
          refine F_gval rfl rfl rfl rfl rfl rfl (O_move rfl rfl) ?_
          refine F_gval rfl rfl rfl rfl rfl rfl (O_nilCheck rfl rfl) ?_
          refine F_gval rfl rfl rfl rfl rfl rfl (O_fieldB rfl rfl field98_1) ?_
          refine F_gval rfl rfl rfl rfl rfl rfl (O_loadB rfl rfl flat3 (HS0.cells_box (i := 0) rfl) rfl) ?_
          refine F_gval rfl rfl rfl rfl rfl rfl (O_move rfl rfl) ?_
          refine F_gval rfl rfl rfl rfl rfl rfl (O_add rfl rfl rfl) ?_
          refine F_gval rfl rfl rfl rfl rfl rfl (O_gt rfl rfl rfl) ?_
          refine F_val rfl rfl rfl (O_pickF rfl rfl rfl) ?_
          refine F_know (i := 33) rfl (dec_or_f (q := 268435456 < IntKind.i64.wrap (w_0_count + n_2)) c15) ?_
          exact F_grpE (fun a ha => Is.cons ha (Is.cons ha (Is.cons ha (Is.cons ha (Is.nil ha) rfl) rfl) rfl) rfl)
      · skip
        refine F_nil ?_
        refine L_condP rfl (fun c16 => ?_) (fun c16 => ?_)
        · have H := of_pos H c16
          refine L_seq ?_
          refine L_region ?_
          refine F_val rfl rfl rfl (O_assign rfl rfl) ?_
          refine F_nil ?_
          refine L_ret (fun a ha => (post_ret1 ha rfl rfl ?_))
          obtain rfl := Option.some.inj H
          exact ⟨_, _, rfl, HS0.sel [0, 1] rfl⟩
        · have H := of_neg H c16
          refine L_skip ?_
          refine L_seq ?_
          refine L_region ?_
          refine F_val rfl rfl rfl (O_move rfl rfl) ?_
          refine F_val rfl rfl rfl (O_move rfl rfl) ?_
          refine F_val rfl rfl rfl (O_conv rfl rfl ⟨_, Try.underlying52⟩ Try.underlying101) ?_
          refine F_val rfl rfl rfl (O_move rfl rfl) ?_
          obtain ⟨⟨z21, z22⟩, h20, H⟩ := of_bind H
          refine F_call (xs := [.tmp 34, .tmp 36, .tmp 37]) rfl rfl rfl rfl Try.func66 nm66 rfl rfl ((bits_Writer_lay.calls (HS0.give [0, 1] rfl (Lent.nil)) h20).mono (fun e w hc => ?_))
          obtain ⟨A25, c26, rfl, HSo⟩ := hc
          refine ⟨.tuple #[], rfl, ?_⟩
          have HS24 : Hp S0 w0 w [.box g_w_0 [.slice A25 z21.length c26, .int .i64 z22] 98, .own A25 c26 (rowC (Eint .u8) z21) 5 (Eint .u8).sz] := (HS0.back [0, 1] HSo rfl).sel [2, 3] rfl
          refine F_nil ?_
          refine L_seq ?_
          refine L_region ?_
          refine F_val rfl rfl rfl (O_assign rfl rfl) ?_
          refine F_nil ?_
          refine L_ret (fun a ha => (post_ret1 ha rfl rfl ?_))
          obtain rfl := Option.some.inj H
          exact ⟨_, _, rfl, HS24.sel [0, 1] rfl⟩

/-! function 36: (*valise/code.Encoder).Put -/
theorem code_Encoder_Put.calls {S0 : Nat → Prop} {w0 : World} {g_e_0 : Nat} {A_e_0_table_lens : Option Addr} {c_e_0_table_lens : Nat} {A_e_0_table_words : Option Addr} {c_e_0_table_words : Nat} {g_w_1 : Nat} {A_w_1_bytes : Option Addr} {c_w_1_bytes : Nat} {e_0_table_lens : List Int} {e_0_table_words : List Int} {e_0_table_counts : List Int} {e_0_table_first : List Int} {w_1_bytes : List Int} {w_1_count : Int} {symbol_2 : Int} {r : Int × List Int × Int} (HS0 : Hp S0 w0 w0 [.box g_w_1 [.slice A_w_1_bytes w_1_bytes.length c_w_1_bytes, .int .i64 w_1_count] 98, .own A_w_1_bytes c_w_1_bytes (rowC (Eint .u8) w_1_bytes) 5 (Eint .u8).sz, .rd (some ⟨g_e_0, 0, none⟩) (([.slice A_e_0_table_lens e_0_table_lens.length c_e_0_table_lens, .slice A_e_0_table_words e_0_table_words.length c_e_0_table_words] : List Value) ++ rowC (Eint .i64) e_0_table_counts ++ rowC (Eint .i64) e_0_table_first), .rd A_e_0_table_lens (rowC (Eint .i64) e_0_table_lens), .rd A_e_0_table_words (rowC (Eint .i64) e_0_table_words)]) (h : code_Encoder_Put.f e_0_table_lens e_0_table_words e_0_table_counts e_0_table_first w_1_bytes w_1_count symbol_2 = some r) :
    Calls Try.prog 36 ([.pointer (some ⟨g_e_0, 0, none⟩), .pointer (some ⟨g_w_1, 0, none⟩), .int .i64 symbol_2] : List Value).toArray w0 (fun e w => ∃ (A_w_1_bytes' : Option Addr), ∃ (c_w_1_bytes' : Nat), e = .returned (.int .i64 r.1) ∧ Hp S0 w0 w [.box g_w_1 [.slice A_w_1_bytes' r.2.1.length c_w_1_bytes', .int .i64 r.2.2] 98, .own A_w_1_bytes' c_w_1_bytes' (rowC (Eint .u8) r.2.1) 5 (Eint .u8).sz]) := by
  have H : (((code_Encoder_Len.f e_0_table_lens e_0_table_words e_0_table_counts e_0_table_first symbol_2).bind fun z3 => if z3 = 0 then (some (56, w_1_bytes, w_1_count)) else (gd ((0 : Int) ≤ symbol_2 ∧ symbol_2 < (e_0_table_words.length : Int)) ((bits_Reverse.f (IntKind.u32.wrap (rd e_0_table_words symbol_2)) z3).bind fun (z12, z13) => if z13 ≠ 0 then (some (z13, w_1_bytes, w_1_count)) else ((bits_Writer_Put.f w_1_bytes w_1_count z12 z3).bind fun (z22, z23, z24) => some (z22, z23, z24))))) : Option (Int × List Int × Int)) = some r := h
  refine calls_start Try.func36 rfl rfl ?_
  refine L_seq ?_
  refine L_region ?_
  refine F_val rfl rfl rfl (O_assign rfl rfl) ?_
  refine F_nil ?_
  refine L_seq ?_
  refine L_seq ?_
  refine L_region ?_
  refine F_val rfl rfl rfl (O_move rfl rfl) ?_
  refine F_val rfl rfl rfl (O_peq rfl rfl rfl Try.underlying41) ?_
  refine F_val rfl rfl rfl (O_move rfl rfl) ?_
  refine F_gval rfl rfl rfl rfl rfl rfl (O_move rfl rfl) ?_
  refine F_gval rfl rfl rfl rfl rfl rfl (O_peq rfl rfl rfl Try.underlying47) ?_
  refine F_val rfl rfl rfl (O_pickF rfl rfl rfl) ?_
  refine F_nil ?_
  refine L_cond rfl (fun hx => by cases hx) (fun _ => ?_)
  refine L_skip ?_
  refine L_seq ?_
  refine L_region ?_
  refine F_val rfl rfl rfl (O_move rfl rfl) ?_
  refine F_val rfl rfl rfl (O_move rfl rfl) ?_
  obtain ⟨z3, h2, H⟩ := of_bind H
  refine F_qcall (v := .int .i64 z3) (xs := [.tmp 16, .tmp 17]) rfl rfl rfl rfl Try.func38 nm38 rfl rfl ((code_Encoder_Len.calls (HS0.give [] rfl (Lent.rd HS0 (Lent.rd HS0 (Lent.rd HS0 (Lent.nil) (i := 4) rfl ((HS0.cells_rd (i := 4) rfl).self)) (i := 3) rfl ((HS0.cells_rd (i := 3) rfl).self)) (i := 2) rfl (HS0.cells_rd (i := 2) rfl).self)) h2).mono (fun e w hc => ?_)) (fun w4 hw5 => ?_)
  · obtain ⟨rfl, h⟩ := hc
    exact ⟨rfl, h.chg0⟩
  have HS6 := HS0.keep hw5
  refine F_val rfl rfl rfl (O_assign rfl rfl) ?_
  refine F_nil ?_
  refine L_seq ?_
  refine L_seq ?_
  refine L_region ?_
  refine F_val rfl rfl rfl (O_move rfl rfl) ?_
  refine F_val rfl rfl rfl (O_eq rfl rfl rfl) ?_
  refine F_nil ?_
  refine L_condP rfl (fun c7 => ?_) (fun c7 => ?_)
  · have H := of_pos H c7
    refine L_seq ?_
    refine L_region ?_
    refine F_val rfl rfl rfl (O_assign rfl rfl) ?_
    refine F_nil ?_
    refine L_ret (fun a ha => (post_ret1 ha rfl rfl ?_))
    obtain rfl := Option.some.inj H
    exact ⟨_, _, rfl, HS6.sel [0, 1] rfl⟩
  · have H := of_neg H c7
    refine L_skip ?_
    refine L_seq ?_
    refine L_region ?_
    refine F_val rfl rfl rfl (O_move rfl rfl) ?_
    refine F_val rfl rfl rfl (O_nilCheck rfl rfl) ?_
    refine F_val rfl rfl rfl (O_fieldB rfl rfl field94_0) ?_
    refine F_val rfl rfl rfl (O_fieldB rfl rfl field91_1) ?_
    refine F_val rfl rfl rfl (O_loadB rfl rfl flat22 (HS6.cells_rd (i := 2) rfl) (cell_seg (j := 0) [.slice A_e_0_table_lens e_0_table_lens.length c_e_0_table_lens] [.slice A_e_0_table_words e_0_table_words.length c_e_0_table_words] (rowC (Eint .i64) e_0_table_counts ++ rowC (Eint .i64) e_0_table_first) (by simp only [List.append_assoc, List.cons_append, List.nil_append, List.append_nil]) rfl rfl)) ?_
    refine F_val rfl rfl rfl (O_move rfl rfl) ?_
    obtain ⟨⟨g8, g9⟩, H⟩ := of_gd H
    refine F_val rfl rfl rfl (O_idx rfl rfl rfl Try.underlying22 size3 g8 g9 (Cells.isA (HS6.cells_rd (i := 4) rfl) (rowC_ne (E := (Eint .i64)) g8 g9 (by decide)))) ?_
    refine F_val rfl rfl rfl (O_loadC rfl rfl flat3 (HS6.cells_rd (i := 4) rfl) (int_cell g8 g9)) ?_
    refine F_val rfl rfl rfl (O_conv rfl rfl ⟨_, Try.underlying3⟩ Try.underlying52) ?_
    refine F_val rfl rfl rfl (O_move rfl rfl) ?_
    obtain ⟨⟨z12, z13⟩, h11, H⟩ := of_bind H
    refine F_qcall (v := .tuple #[.int .u32 z12, .int .i64 z13]) (xs := [.tmp 30, .tmp 31]) rfl rfl rfl rfl Try.func69 nm69 rfl rfl ((bits_Reverse.calls (HS6.give [] rfl (Lent.nil)) h11).mono (fun e w hc => ?_)) (fun w14 hw15 => ?_)
    · obtain ⟨rfl, h⟩ := hc
      exact ⟨rfl, h.chg0⟩
    have HS16 := HS6.keep hw15
    refine F_val rfl rfl rfl (O_move rfl rfl) ?_
    refine F_val rfl rfl rfl (O_extract (v := .int .u32 z12) rfl rfl rfl) ?_
    refine F_val rfl rfl rfl (O_extract (v := .int .i64 z13) rfl rfl rfl) ?_
    refine F_val rfl rfl rfl (O_assign rfl rfl) ?_
    refine F_val rfl rfl rfl (O_assign rfl rfl) ?_
    refine F_nil ?_
    refine L_seq ?_
    refine L_seq ?_
    refine L_region ?_
    refine F_val rfl rfl rfl (O_move rfl rfl) ?_
    refine F_val rfl rfl rfl (O_ne rfl rfl rfl) ?_
    refine F_nil ?_
    refine L_condP rfl (fun c17 => ?_) (fun c17 => ?_)
    · have H := of_pos H c17
      refine L_seq ?_
      refine L_region ?_
      refine F_val rfl rfl rfl (O_move rfl rfl) ?_
      refine F_val rfl rfl rfl (O_assign rfl rfl) ?_
      refine F_nil ?_
      refine L_ret (fun a ha => (post_ret1 ha rfl rfl ?_))
      obtain rfl := Option.some.inj H
      exact ⟨_, _, rfl, HS16.sel [0, 1] rfl⟩
    · have H := of_neg H c17
      refine L_skip ?_
      refine L_seq ?_
      refine L_region ?_
      refine F_val rfl rfl rfl (O_move rfl rfl) ?_
      refine F_val rfl rfl rfl (O_move rfl rfl) ?_
      refine F_val rfl rfl rfl (O_move rfl rfl) ?_
      obtain ⟨⟨z22, z23, z24⟩, h21, H⟩ := of_bind H
      refine F_call (xs := [.tmp 38, .tmp 39, .tmp 40]) rfl rfl rfl rfl Try.func34 nm34 rfl rfl ((bits_Writer_Put.calls (HS16.give [0, 1] rfl (Lent.nil)) h21).mono (fun e w hc => ?_))
      obtain ⟨A27, c28, rfl, HSo⟩ := hc
      refine ⟨.int .i64 z22, rfl, ?_⟩
      have HS26 : Hp S0 w0 w [.box g_w_1 [.slice A27 z23.length c28, .int .i64 z24] 98, .own A27 c28 (rowC (Eint .u8) z23) 5 (Eint .u8).sz, .rd (some ⟨g_e_0, 0, none⟩) (([.slice A_e_0_table_lens e_0_table_lens.length c_e_0_table_lens, .slice A_e_0_table_words e_0_table_words.length c_e_0_table_words] : List Value) ++ rowC (Eint .i64) e_0_table_counts ++ rowC (Eint .i64) e_0_table_first), .rd A_e_0_table_lens (rowC (Eint .i64) e_0_table_lens), .rd A_e_0_table_words (rowC (Eint .i64) e_0_table_words)] := (HS16.back [0, 1] HSo rfl).sel [5, 6, 2, 3, 4] rfl
      refine F_val rfl rfl rfl (O_assign rfl rfl) ?_
      refine F_nil ?_
      refine L_ret (fun a ha => (post_ret1 ha rfl rfl ?_))
      obtain rfl := Option.some.inj H
      exact ⟨_, _, rfl, HS26.sel [0, 1] rfl⟩

/-! function 43: (*valise/bits.Writer).Bytes -/
theorem bits_Writer_Bytes.calls {S0 : Nat → Prop} {w0 : World} {g_w_0 : Nat} {A_w_0_bytes : Option Addr} {c_w_0_bytes : Nat} {w_0_bytes : List Int} {w_0_count : Int} {r : List Int} (HS0 : Hp S0 w0 w0 [.rd (some ⟨g_w_0, 0, none⟩) [.slice A_w_0_bytes w_0_bytes.length c_w_0_bytes, .int .i64 w_0_count], .rd A_w_0_bytes (rowC (Eint .u8) w_0_bytes)]) (h : bits_Writer_Bytes.f w_0_bytes w_0_count = some r) :
    Calls Try.prog 43 ([.pointer (some ⟨g_w_0, 0, none⟩)] : List Value).toArray w0 (fun e w => ∃ (A1 : Option Addr), ∃ (c1 : Nat), e = .returned (.slice A1 r.length c1) ∧ Hp S0 w0 w [.own A1 c1 (rowC (Eint .u8) r) 5 (Eint .u8).sz]) := by
  have H : ((if (w_0_bytes.length : Int) = 0 then (some ([] : List Int)) else (gd ((0 : Int) ≤ (w_0_bytes.length : Int) ∧ (w_0_bytes.length : Int) * 1 ≤ 281474976710656) (bnd (List.replicate ((w_0_bytes.length : Int) : Int).toNat (0 : Int)) fun l8 => bnd (cpy l8 w_0_bytes) fun l15 => some l15))) : Option (List Int)) = some r := h
  refine calls_start Try.func43 rfl rfl ?_
  refine L_seq ?_
  refine L_region ?_
  refine F_val rfl rfl rfl (O_assign rfl rfl) ?_
  refine F_nil ?_
  refine L_seq ?_
  refine L_seq ?_
  refine L_region ?_
  refine F_val rfl rfl rfl (O_move rfl rfl) ?_
  refine F_val rfl rfl rfl (O_peq rfl rfl rfl Try.underlying47) ?_
  refine F_val rfl rfl rfl (O_move rfl rfl) ?_
  refine F_gval rfl rfl rfl rfl rfl rfl (O_move rfl rfl) ?_
  refine F_gval rfl rfl rfl rfl rfl rfl (O_nilCheck rfl rfl) ?_
  refine F_gval rfl rfl rfl rfl rfl rfl (O_fieldB rfl rfl field98_0) ?_
  refine F_gval rfl rfl rfl rfl rfl rfl (O_loadB rfl rfl flat59 (HS0.cells_rd (i := 0) rfl) rfl) ?_
  refine F_gval rfl rfl rfl rfl rfl rfl (O_len rfl rfl Try.underlying59) ?_
  refine F_gval rfl rfl rfl rfl rfl rfl (O_eq rfl rfl rfl) ?_
  refine F_val rfl rfl rfl (O_pickF rfl rfl rfl) ?_
  refine F_nil ?_
  refine L_condP rfl (fun c1 => ?_) (fun c1 => ?_)
  · have H := of_pos H c1
    refine L_seq ?_
    refine L_region ?_
    refine F_val rfl rfl rfl (O_assign rfl rfl) ?_
    refine F_nil ?_
    have HS2 := HS0.addNil 5 (Eint .u8).sz
    refine L_ret (fun a ha => (post_ret1 ha rfl rfl ?_))
    obtain rfl := Option.some.inj H
    exact ⟨_, _, rfl, HS2.sel [2] rfl⟩
  · have H := of_neg H c1
    refine L_skip ?_
    refine L_seq ?_
    refine L_region ?_
    refine F_val rfl rfl rfl (O_move rfl rfl) ?_
    refine F_val rfl rfl rfl (O_nilCheck rfl rfl) ?_
    refine F_val rfl rfl rfl (O_fieldB rfl rfl field98_0) ?_
    refine F_val rfl rfl rfl (O_loadB rfl rfl flat59 (HS0.cells_rd (i := 0) rfl) rfl) ?_
    refine F_val rfl rfl rfl (O_len rfl rfl Try.underlying59) ?_
    obtain ⟨⟨g6, g7⟩, H⟩ := of_gd H
    obtain ⟨l8, h9, H⟩ := of_bnd H
    refine F_makeE (E := (Eint .u8)) rfl rfl rfl rfl rfl rfl Try.underlying59 info5 rfl (by decide) (by decide) g6 g7 HS0 h9 (fun w4 A10 c11 HS5 => ?_)
    have HS5 : Hp S0 w0 w4 [.rd (some ⟨g_w_0, 0, none⟩) [.slice A_w_0_bytes w_0_bytes.length c_w_0_bytes, .int .i64 w_0_count], .rd A_w_0_bytes (rowC (Eint .u8) w_0_bytes), .own A10 c11 (rowC (Eint .u8) l8) 5 (Eint .u8).sz] := HS5
    refine F_val rfl rfl rfl (O_assign rfl rfl) ?_
    refine F_nil ?_
    refine L_seq ?_
    refine L_region ?_
    refine F_val rfl rfl rfl (O_move rfl rfl) ?_
    refine F_val rfl rfl rfl (O_move rfl rfl) ?_
    refine F_val rfl rfl rfl (O_nilCheck rfl rfl) ?_
    refine F_val rfl rfl rfl (O_fieldB rfl rfl field98_0) ?_
    refine F_val rfl rfl rfl (O_loadB rfl rfl flat59 (HS5.cells_rd (i := 0) rfl) rfl) ?_
    obtain ⟨l15, h16, H⟩ := of_bnd H
    refine F_copyE (E := (Eint .u8)) (xs := l8) (ys := w_0_bytes) (i := 2) rfl rfl rfl rfl Try.underlying59 size5 rfl rfl HS5 rfl (HS5.cells_rd (i := 1) rfl) h16 (fun w13 HS14 => ?_)
    have e17 : l8.length = l15.length := by rw [← h16, cpy_length]
    refine F_know (i := 3) rfl (congrArg (fun n => Value.slice A10 n c11) e17) ?_
    have HS14 : Hp S0 w0 w13 [.rd (some ⟨g_w_0, 0, none⟩) [.slice A_w_0_bytes w_0_bytes.length c_w_0_bytes, .int .i64 w_0_count], .rd A_w_0_bytes (rowC (Eint .u8) w_0_bytes), .own A10 c11 (rowC (Eint .u8) l15) 5 (Eint .u8).sz] := HS14
    refine F_nil ?_
    refine L_seq ?_
    refine L_region ?_
    refine F_val rfl rfl rfl (O_move rfl rfl) ?_
    refine F_val rfl rfl rfl (O_assign rfl rfl) ?_
    refine F_nil ?_
    refine L_ret (fun a ha => (post_ret1 ha rfl rfl ?_))
    obtain rfl := Option.some.inj H
    exact ⟨_, _, rfl, HS14.sel [2] rfl⟩

/-! function 47: valise/bits.NewReader -/
theorem bits_NewReader.calls {S0 : Nat → Prop} {w0 : World} {A_data_0 : Option Addr} {c_data_0 : Nat} {l_data_0 : List Int} {r : Option (List Int × Int)} (HS0 : Hp S0 w0 w0 [.rd A_data_0 (rowC (Eint .u8) l_data_0)]) (hc_data_0 : l_data_0.length ≤ c_data_0) (h : bits_NewReader.f l_data_0 = some r) :
    Calls Try.prog 47 ([.slice A_data_0 l_data_0.length c_data_0] : List Value).toArray w0 (fun e w => ∃ (g1 : Nat), ∃ (A1_0 : Option Addr), ∃ (c1_0 : Nat), e = .returned (oV r g1) ∧ Hp S0 w0 w [oR r (fun x => .box g1 [.slice A1_0 x.1.length c1_0, .int .i64 x.2] 112), oR r (fun x => .own A1_0 c1_0 (rowC (Eint .u8) x.1) 5 (Eint .u8).sz)]) := by
  have H : ((if 33554432 < (l_data_0.length : Int) then (some none) else (gd ((0 : Int) ≤ (l_data_0.length : Int) ∧ (l_data_0.length : Int) * 1 ≤ 281474976710656) (bnd (List.replicate ((l_data_0.length : Int) : Int).toNat (0 : Int)) fun l6 => bnd (cpy l6 l_data_0) fun l13 => some (some (l13, 0))))) : Option (Option (List Int × Int))) = some r := h
  refine calls_start Try.func47 rfl rfl ?_
  refine L_seq ?_
  refine L_region ?_
  refine F_val rfl rfl rfl (O_assign rfl rfl) ?_
  refine F_nil ?_
  refine L_seq ?_
  refine L_seq ?_
  refine L_region ?_
  refine F_val rfl rfl rfl (O_move rfl rfl) ?_
  refine F_val rfl rfl rfl (O_len rfl rfl Try.underlying59) ?_
  refine F_val rfl rfl rfl (O_gt rfl rfl rfl) ?_
  refine F_nil ?_
  refine L_condP rfl (fun c1 => ?_) (fun c1 => ?_)
  · have H := of_pos H c1
    refine L_seq ?_
    refine L_region ?_
    refine F_val rfl rfl rfl (O_assign rfl rfl) ?_
    refine F_nil ?_
    refine L_ret (fun a ha => (post_ret1 ha rfl rfl ?_))
    obtain rfl := Option.some.inj H
    exact ⟨0, none, 0, rfl, HS0.sel [1000, 1001] rfl⟩
  · have H := of_neg H c1
    refine L_skip ?_
    refine L_seq ?_
    refine L_region ?_
    refine F_val rfl rfl rfl (O_move rfl rfl) ?_
    refine F_val rfl rfl rfl (O_len rfl rfl Try.underlying59) ?_
    obtain ⟨⟨g4, g5⟩, H⟩ := of_gd H
    obtain ⟨l6, h7, H⟩ := of_bnd H
    refine F_makeE (E := (Eint .u8)) rfl rfl rfl rfl rfl rfl Try.underlying59 info5 rfl (by decide) (by decide) g4 g5 HS0 h7 (fun w2 A8 c9 HS3 => ?_)
    have HS3 : Hp S0 w0 w2 [.rd A_data_0 (rowC (Eint .u8) l_data_0), .own A8 c9 (rowC (Eint .u8) l6) 5 (Eint .u8).sz] := HS3
    refine F_val rfl rfl rfl (O_assign rfl rfl) ?_
    refine F_nil ?_
    refine L_seq ?_
    refine L_region ?_
    refine F_val rfl rfl rfl (O_move rfl rfl) ?_
    refine F_val rfl rfl rfl (O_move rfl rfl) ?_
    obtain ⟨l13, h14, H⟩ := of_bnd H
    refine F_copyE (E := (Eint .u8)) (xs := l6) (ys := l_data_0) (i := 1) rfl rfl rfl rfl Try.underlying59 size5 rfl rfl HS3 rfl (HS3.cells_rd (i := 0) rfl) h14 (fun w11 HS12 => ?_)
    have e15 : l6.length = l13.length := by rw [← h14, cpy_length]
    refine F_know (i := 3) rfl (congrArg (fun n => Value.slice A8 n c9) e15) ?_
    have HS12 : Hp S0 w0 w11 [.rd A_data_0 (rowC (Eint .u8) l_data_0), .own A8 c9 (rowC (Eint .u8) l13) 5 (Eint .u8).sz] := HS12
    refine F_nil ?_
    refine L_seq ?_
    refine L_region ?_
    refine F_val rfl rfl rfl (O_move rfl rfl) ?_
    refine F_val rfl rfl rfl (O_build (vs := [(0, .slice A8 l13.length c9)]) (v := .agg #[.slice A8 l13.length c9, .int .i64 0]) rfl rfl rfl (fun w => by kernel_rfl)) ?_
    refine F_box (C := [.slice A8 l13.length c9, .int .i64 0]) rfl rfl rfl rfl rfl rfl HS12 (fun w16 g18 HS17 => ?_)
    have HS17 : Hp S0 w0 w16 [.rd A_data_0 (rowC (Eint .u8) l_data_0), .own A8 c9 (rowC (Eint .u8) l13) 5 (Eint .u8).sz, .box g18 [.slice A8 l13.length c9, .int .i64 0] 112] := HS17
    refine F_val rfl rfl rfl (O_assign rfl rfl) ?_
    refine F_nil ?_
    refine L_ret (fun a ha => (post_ret1 ha rfl rfl ?_))
    obtain rfl := Option.some.inj H
    exact ⟨_, _, _, rfl, HS17.sel [2, 1] rfl⟩

/-! function 75: (*valise/bits.Reader).ahead -/
theorem bits_Reader_ahead.calls {S0 : Nat → Prop} {w0 : World} {g_r_0 : Nat} {A_r_0_data : Option Addr} {c_r_0_data : Nat} {r_0_data : List Int} {r_0_at : Int} {n_1 : Int} {r : Int} (HS0 : Hp S0 w0 w0 [.rd (some ⟨g_r_0, 0, none⟩) [.slice A_r_0_data r_0_data.length c_r_0_data, .int .i64 r_0_at], .rd A_r_0_data (rowC (Eint .u8) r_0_data)]) (h : bits_Reader_ahead.f r_0_data r_0_at n_1 = some r) :
    Calls Try.prog 75 ([.pointer (some ⟨g_r_0, 0, none⟩), .int .i64 n_1] : List Value).toArray w0 (fun e w => e = .returned (.int .u32 r) ∧ Hp S0 w0 w []) := by
  have H : (((bits_Reader_ahead.l1 FU 0 0 r_0_at r_0_data n_1).bind fun v_81 => some (IntKind.u32.wrap v_81)) : Option (Int)) = some r := h
  refine calls_start Try.func75 rfl rfl ?_
  refine L_seq ?_
  refine L_region ?_
  refine F_val rfl rfl rfl (O_assign rfl rfl) ?_
  refine F_nil ?_
  refine L_seq ?_
  refine L_region ?_
  refine F_val rfl rfl rfl (O_assign rfl rfl) ?_
  refine F_nil ?_
  refine L_seq ?_
  refine L_region ?_
  refine F_val rfl rfl rfl (O_assign rfl rfl) ?_
  refine F_nil ?_
  refine L_seq ?_
  refine L_seq ?_
  refine L_region ?_
  refine F_val rfl rfl rfl (O_move rfl rfl) ?_
  refine F_val rfl rfl rfl (O_nilCheck rfl rfl) ?_
  refine F_val rfl rfl rfl (O_fieldB rfl rfl field112_1) ?_
  refine F_val rfl rfl rfl (O_loadB rfl rfl flat3 (HS0.cells_rd (i := 0) rfl) rfl) ?_
  refine F_val rfl rfl rfl (O_assign rfl rfl) ?_
  refine F_nil ?_
  obtain ⟨yj1, Hyj1, H⟩ := of_bind H
  refine L_join (fun a w => ∃ (v_81 : Int), yj1 = v_81 ∧ Is Try.f75.ntmps a [(5, .int .u64 v_81)] ∧ Hp S0 w0 w [.rd (some ⟨g_r_0, 0, none⟩) [.slice A_r_0_data r_0_data.length c_r_0_data, .int .i64 r_0_at], .rd A_r_0_data (rowC (Eint .u8) r_0_data)]) (fun Qj1 hNj1 hOj1 => ?_) (fun a w hR => ?_)
  · skip
    have H := Hyj1
    refine L_blk (fun Qb82 hNb82 hXb82 hOb82 => ?_)
    refine L_lp (fun k a w => ∃ (v_133 : Int), ∃ (got_134 : Int), ∃ (at_135 : Int), Is Try.f75.ntmps a [(0, .pointer (some ⟨g_r_0, 0, none⟩)), (1, .int .i64 n_1), (5, .int .u64 v_133), (6, .int .i64 got_134), (7, .int .i64 at_135)] ∧ Hp S0 w0 w [.rd (some ⟨g_r_0, 0, none⟩) [.slice A_r_0_data r_0_data.length c_r_0_data, .int .i64 r_0_at], .rd A_r_0_data (rowC (Eint .u8) r_0_data)] ∧ bits_Reader_ahead.l1 k v_133 got_134 at_135 r_0_data n_1 = some yj1) FU (fun a ha => ⟨_, _, _, Is.cons ha (Is.cons ha (Is.cons ha (Is.cons ha (Is.cons ha (Is.nil ha) rfl) rfl) rfl) rfl) rfl, HS0.sel [0, 1] rfl, H⟩) (fun kp132 a w136 hI Qp132 hNp132 hOp132 => ?_)
    obtain ⟨v_133, got_134, at_135, ha, HS137, HAp132⟩ := hI
    cases kp132 with
    | zero => cases (show (none : Option _) = some _ from HAp132)
    | succ kp132 =>
      have H := (bits_Reader_ahead.l1.eq_2 ..).symm.trans HAp132
      refine wpLF_app ?_ ha
      refine L_seq ?_
      refine L_seq ?_
      refine L_region ?_
      refine F_val rfl rfl rfl (O_move rfl rfl) ?_
      refine F_val rfl rfl rfl (O_move rfl rfl) ?_
      refine F_val rfl rfl rfl (O_lt rfl rfl rfl) ?_
      refine F_val rfl rfl rfl (O_move rfl rfl) ?_
      refine F_grp 9 [(27, .bool (decide ((got_134 < n_1) ∧ (at_135 < IntKind.i64.wrap (8 * (r_0_data.length : Int)))))), (0, .pointer (some ⟨g_r_0, 0, none⟩)), (1, .int .i64 n_1), (5, .int .u64 v_133), (6, .int .i64 got_134), (7, .int .i64 at_135)] ?_ ?_
      · rcases Decidable.em (got_134 < n_1) with c141 | c141
        · refine F_know (i := 18) rfl (dec_t c141) ?_
          refine F_gval rfl rfl rfl rfl rfl rfl (O_move rfl rfl) ?_
          refine F_gval rfl rfl rfl rfl rfl rfl (O_move rfl rfl) ?_
          refine F_gval rfl rfl rfl rfl rfl rfl (O_nilCheck rfl rfl) ?_
          refine F_gval rfl rfl rfl rfl rfl rfl (O_fieldB rfl rfl field112_0) ?_
          refine F_gval rfl rfl rfl rfl rfl rfl (O_loadB rfl rfl flat59 (HS137.cells_rd (i := 0) rfl) rfl) ?_
          refine F_gval rfl rfl rfl rfl rfl rfl (O_len rfl rfl Try.underlying59) ?_
          refine F_gval rfl rfl rfl rfl rfl rfl (O_mul rfl rfl rfl) ?_
          refine F_gval rfl rfl rfl rfl rfl rfl (O_lt rfl rfl rfl) ?_
          refine F_val rfl rfl rfl (O_pickT rfl rfl rfl) ?_
          refine F_know (i := 27) rfl (dec_and_t (q := at_135 < IntKind.i64.wrap (8 * (r_0_data.length : Int))) c141) ?_
          exact F_grpE (fun a ha => Is.cons ha (Is.cons ha (Is.cons ha (Is.cons ha (Is.cons ha (Is.cons ha (Is.nil ha) rfl) rfl) rfl) rfl) rfl) rfl)
        · refine F_know (i := 18) rfl (dec_f c141) ?_
          refine F_gskip rfl rfl rfl rfl rfl rfl rfl ?_
          refine F_gskip rfl rfl rfl rfl rfl rfl rfl ?_
          refine F_gskip rfl rfl rfl rfl rfl rfl rfl ?_
          refine F_gskip rfl rfl rfl rfl rfl rfl rfl ?_
          refine F_gskip rfl rfl rfl rfl rfl rfl rfl ?_
          refine F_gskip rfl rfl rfl rfl rfl rfl rfl ?_
          refine F_gskip rfl rfl rfl rfl rfl rfl rfl ?_
          refine F_gskip rfl rfl rfl rfl rfl rfl rfl ?_
          refine F_val rfl rfl rfl (O_pickF rfl rfl rfl) ?_
          refine F_know (i := 27) rfl (dec_and_f (q := at_135 < IntKind.i64.wrap (8 * (r_0_data.length : Int))) c141) ?_
          exact F_grpE (fun a ha => Is.cons ha (Is.cons ha (Is.cons ha (Is.cons ha (Is.cons ha (Is.cons ha (Is.nil ha) rfl) rfl) rfl) rfl) rfl) rfl)
      · skip
        refine F_nil ?_
        refine L_condP rfl (fun c142 => ?_) (fun c142 => ?_)
        · have H := of_pos H c142
          refine L_skip ?_
          refine L_blk (fun Q143 hN143 hX143 hO143 => ?_)
          refine L_seq ?_
          refine L_region ?_
          refine F_val rfl rfl rfl (O_move rfl rfl) ?_
          refine F_val rfl rfl rfl (O_rem rfl rfl rfl (by decide)) ?_
          obtain ⟨x144, h145, H⟩ := of_bnd H
          refine F_val rfl rfl rfl (O_assign' rfl rfl (congrArg (Value.int .i64) h145)) ?_
          refine F_nil ?_
          refine L_seq ?_
          refine L_region ?_
          refine F_val rfl rfl rfl (O_move rfl rfl) ?_
          refine F_val rfl rfl rfl (O_sub rfl rfl rfl) ?_
          refine F_val rfl rfl rfl (O_move rfl rfl) ?_
          refine F_val rfl rfl rfl (O_move rfl rfl) ?_
          refine F_val rfl rfl rfl (O_sub rfl rfl rfl) ?_
          refine F_val rfl rfl rfl (O_min rfl rfl rfl) ?_
          obtain ⟨x146, h147, H⟩ := of_bnd H
          refine F_val rfl rfl rfl (O_assign' rfl rfl (congrArg (Value.int .i64) h147)) ?_
          refine F_nil ?_
          refine L_seq ?_
          refine L_region ?_
          refine F_val rfl rfl rfl (O_move rfl rfl) ?_
          refine F_val rfl rfl rfl (O_nilCheck rfl rfl) ?_
          refine F_val rfl rfl rfl (O_fieldB rfl rfl field112_0) ?_
          refine F_val rfl rfl rfl (O_loadB rfl rfl flat59 (HS137.cells_rd (i := 0) rfl) rfl) ?_
          refine F_val rfl rfl rfl (O_move rfl rfl) ?_
          refine F_val rfl rfl rfl (O_quo rfl rfl rfl (by decide)) ?_
          obtain ⟨⟨g148, g149⟩, H⟩ := of_gd H
          refine F_val rfl rfl rfl (O_idx rfl rfl rfl Try.underlying59 size5 g148 g149 (Cells.isA (HS137.cells_rd (i := 1) rfl) (rowC_ne (E := (Eint .u8)) g148 g149 (by decide)))) ?_
          refine F_val rfl rfl rfl (O_loadC rfl rfl flat5 (HS137.cells_rd (i := 1) rfl) (int_cell g148 g149)) ?_
          refine F_val rfl rfl rfl (O_move rfl rfl) ?_
          refine F_val rfl rfl rfl (O_conv rfl rfl ⟨_, Try.underlying3⟩ Try.underlying39) ?_
          obtain ⟨g150, H⟩ := of_gd H
          refine F_val rfl rfl rfl (O_shr rfl rfl rfl g150) ?_
          refine F_val rfl rfl rfl (O_conv rfl rfl ⟨_, Try.underlying5⟩ Try.underlying101) ?_
          refine F_val rfl rfl rfl (O_move rfl rfl) ?_
          refine F_val rfl rfl rfl (O_conv rfl rfl ⟨_, Try.underlying3⟩ Try.underlying39) ?_
          obtain ⟨g151, H⟩ := of_gd H
          refine F_val rfl rfl rfl (O_shl rfl rfl rfl g151) ?_
          refine F_val rfl rfl rfl (O_sub rfl rfl rfl) ?_
          refine F_val rfl rfl rfl (O_and rfl rfl rfl) ?_
          obtain ⟨x152, h153, H⟩ := of_bnd H
          refine F_val rfl rfl rfl (O_assign' rfl rfl (congrArg (Value.int .u64) h153)) ?_
          refine F_nil ?_
          refine L_seq ?_
          refine L_region ?_
          refine F_val rfl rfl rfl (O_move rfl rfl) ?_
          refine F_val rfl rfl rfl (O_move rfl rfl) ?_
          refine F_val rfl rfl rfl (O_move rfl rfl) ?_
          refine F_val rfl rfl rfl (O_conv rfl rfl ⟨_, Try.underlying3⟩ Try.underlying39) ?_
          obtain ⟨g154, H⟩ := of_gd H
          refine F_val rfl rfl rfl (O_shl rfl rfl rfl g154) ?_
          refine F_val rfl rfl rfl (O_or rfl rfl rfl) ?_
          obtain ⟨x155, h156, H⟩ := of_bnd H
          refine F_val rfl rfl rfl (O_assign' rfl rfl (congrArg (Value.int .u64) h156)) ?_
          refine F_nil ?_
          refine L_seq ?_
          refine L_region ?_
          refine F_val rfl rfl rfl (O_move rfl rfl) ?_
          refine F_val rfl rfl rfl (O_move rfl rfl) ?_
          refine F_val rfl rfl rfl (O_add rfl rfl rfl) ?_
          obtain ⟨x157, h158, H⟩ := of_bnd H
          refine F_val rfl rfl rfl (O_assign' rfl rfl (congrArg (Value.int .i64) h158)) ?_
          refine F_nil ?_
          refine L_region ?_
          refine F_val rfl rfl rfl (O_move rfl rfl) ?_
          refine F_val rfl rfl rfl (O_move rfl rfl) ?_
          refine F_val rfl rfl rfl (O_add rfl rfl rfl) ?_
          obtain ⟨x159, h160, H⟩ := of_bnd H
          refine F_val rfl rfl rfl (O_assign' rfl rfl (congrArg (Value.int .i64) h160)) ?_
          refine F_nil ?_
          refine L_endB hN143 ?_
          refine L_nil (fun a ha => hNp132 _ a _ (Nat.lt_succ_self _) ⟨_, _, _, Is.cons ha (Is.cons ha (Is.cons ha (Is.cons ha (Is.cons ha (Is.nil ha) rfl) rfl) rfl) rfl) rfl, HS137.sel [0, 1] rfl, H⟩)
        · have H := of_neg H c142
          refine L_exitB (fun a w h => hOp132 (.exit 0) a w rfl (hXb82 a w h)) ?_
          refine L_nil (fun a ha => hNj1 a _ ⟨_, (Option.some.inj H).symm, Is.cons ha (Is.nil ha) rfl, HS137.sel [0, 1] rfl⟩)
  · obtain ⟨v_81, ej, ha, HS162⟩ := hR
    obtain rfl := ej.symm
    refine wpLF_app ?_ ha
    refine L_seq ?_
    refine L_region ?_
    refine F_val rfl rfl rfl (O_move rfl rfl) ?_
    refine F_val rfl rfl rfl (O_conv rfl rfl ⟨_, Try.underlying101⟩ Try.underlying52) ?_
    refine F_val rfl rfl rfl (O_assign rfl rfl) ?_
    refine F_nil ?_
    refine L_ret (fun a ha => (post_ret1 ha rfl rfl ?_))
    obtain rfl := Option.some.inj H
    exact ⟨rfl, HS162.sel [] rfl⟩

/-! function 70: (*valise/bits.Reader).Left -/
theorem bits_Reader_Left.calls {S0 : Nat → Prop} {w0 : World} {g_r_0 : Nat} {A_r_0_data : Option Addr} {c_r_0_data : Nat} {r_0_data : List Int} {r_0_at : Int} {r : Int} (HS0 : Hp S0 w0 w0 [.rd (some ⟨g_r_0, 0, none⟩) [.slice A_r_0_data r_0_data.length c_r_0_data, .int .i64 r_0_at], .rd A_r_0_data (rowC (Eint .u8) r_0_data)]) (h : bits_Reader_Left.f r_0_data r_0_at = some r) :
    Calls Try.prog 70 ([.pointer (some ⟨g_r_0, 0, none⟩)] : List Value).toArray w0 (fun e w => e = .returned (.int .i64 r) ∧ Hp S0 w0 w []) := by
  have H : ((some (IntKind.i64.wrap ((IntKind.i64.wrap (8 * (r_0_data.length : Int))) - r_0_at))) : Option (Int)) = some r := h
  refine calls_start Try.func70 rfl rfl ?_
  refine L_seq ?_
  refine L_region ?_
  refine F_val rfl rfl rfl (O_assign rfl rfl) ?_
  refine F_nil ?_
  refine L_seq ?_
  refine L_seq ?_
  refine L_region ?_
  refine F_val rfl rfl rfl (O_move rfl rfl) ?_
  refine F_val rfl rfl rfl (O_peq rfl rfl rfl Try.underlying68) ?_
  refine F_nil ?_
  refine L_cond rfl (fun hx => by cases hx) (fun _ => ?_)
  refine L_skip ?_
  refine L_seq ?_
  refine L_quiet mix (by kernel_rfl) ?_
  refine Q_val rfl rfl rfl (fun wq hq => O_move rfl rfl) ?_
  refine Q_val rfl rfl rfl (fun wq hq => O_nilCheck rfl rfl) ?_
  refine Q_val rfl rfl rfl (fun wq hq => O_fieldB rfl rfl field112_0) ?_
  refine Q_val rfl rfl rfl (fun wq hq => O_loadB rfl rfl flat59 ((HS0.keep hq).cells_rd (i := 0) rfl) rfl) ?_
  refine Q_val rfl rfl rfl (fun wq hq => O_len rfl rfl Try.underlying59) ?_
  refine Q_val rfl rfl rfl (fun wq hq => O_mul rfl rfl rfl) ?_
  refine Q_val rfl rfl rfl (fun wq hq => O_move rfl rfl) ?_
  refine Q_val rfl rfl rfl (fun wq hq => O_nilCheck rfl rfl) ?_
  refine Q_val rfl rfl rfl (fun wq hq => O_fieldB rfl rfl field112_1) ?_
  refine Q_val rfl rfl rfl (fun wq hq => O_loadB rfl rfl flat3 ((HS0.keep hq).cells_rd (i := 0) rfl) rfl) ?_
  refine Q_val rfl rfl rfl (fun wq hq => O_sub rfl rfl rfl) ?_
  refine Q_val rfl rfl rfl (fun wq hq => O_assign rfl rfl) ?_
  refine Q_nil (fun w1 hw2 => ?_)
  have HS3 := HS0.keep hw2
  refine L_ret (fun a ha => (post_ret1 ha rfl rfl ?_))
  obtain rfl := Option.some.inj H
  exact ⟨rfl, HS3.sel [] rfl⟩

/-! function 71: (*valise/bits.Reader).Peek -/
theorem bits_Reader_Peek.calls {S0 : Nat → Prop} {w0 : World} {g_r_0 : Nat} {A_r_0_data : Option Addr} {c_r_0_data : Nat} {r_0_data : List Int} {r_0_at : Int} {n_1 : Int} {r : Int × Int} (HS0 : Hp S0 w0 w0 [.rd (some ⟨g_r_0, 0, none⟩) [.slice A_r_0_data r_0_data.length c_r_0_data, .int .i64 r_0_at], .rd A_r_0_data (rowC (Eint .u8) r_0_data)]) (h : bits_Reader_Peek.f r_0_data r_0_at n_1 = some r) :
    Calls Try.prog 71 ([.pointer (some ⟨g_r_0, 0, none⟩), .int .i64 n_1] : List Value).toArray w0 (fun e w => e = .returned (.tuple #[.int .u32 r.1, .int .i64 r.2]) ∧ Hp S0 w0 w []) := by
  have H : ((if (n_1 < 0) ∨ (32 < n_1) then (some (0, 0)) else ((bits_Reader_ahead.f r_0_data r_0_at n_1).bind fun z8 => (bits_Reader_Left.f r_0_data r_0_at).bind fun z14 => some (z8, min n_1 z14))) : Option (Int × Int)) = some r := h
  refine calls_start Try.func71 rfl rfl ?_
  refine L_seq ?_
  refine L_region ?_
  refine F_val rfl rfl rfl (O_assign rfl rfl) ?_
  refine F_val rfl rfl rfl (O_assign rfl rfl) ?_
  refine F_nil ?_
  refine L_seq ?_
  refine L_seq ?_
  refine L_region ?_
  refine F_val rfl rfl rfl (O_move rfl rfl) ?_
  refine F_val rfl rfl rfl (O_peq rfl rfl rfl Try.underlying68) ?_
  refine F_val rfl rfl rfl (O_move rfl rfl) ?_
  refine F_gval rfl rfl rfl rfl rfl rfl (O_move rfl rfl) ?_
  refine F_gval rfl rfl rfl rfl rfl rfl (O_lt rfl rfl rfl) ?_
  refine F_val rfl rfl rfl (O_pickF rfl rfl rfl) ?_
  refine F_val rfl rfl rfl (O_move rfl rfl) ?_
  refine F_grp 3 [(15, .bool (decide ((n_1 < 0) ∨ (32 < n_1)))), (0, .pointer (some ⟨g_r_0, 0, none⟩)), (1, .int .i64 n_1)] ?_ ?_
  · rcases Decidable.em (n_1 < 0) with c4 | c4
    · refine F_know (i := 12) rfl (dec_t c4) ?_
      refine F_gskip rfl rfl rfl rfl rfl rfl rfl ?_
      refine F_gskip rfl rfl rfl rfl rfl rfl rfl ?_
      refine F_val rfl rfl rfl (O_pickT rfl rfl rfl) ?_
      refine F_know (i := 15) rfl (dec_or_t (q := 32 < n_1) c4) ?_
      exact F_grpE (fun a ha => Is.cons ha (Is.cons ha (Is.cons ha (Is.nil ha) rfl) rfl) rfl)
    · refine F_know (i := 12) rfl (dec_f c4) ?_
      refine F_gval rfl rfl rfl rfl rfl rfl (O_move rfl rfl) ?_
      refine F_gval rfl rfl rfl rfl rfl rfl (O_gt rfl rfl rfl) ?_
      refine F_val rfl rfl rfl (O_pickF rfl rfl rfl) ?_
      refine F_know (i := 15) rfl (dec_or_f (q := 32 < n_1) c4) ?_
      exact F_grpE (fun a ha => Is.cons ha (Is.cons ha (Is.cons ha (Is.nil ha) rfl) rfl) rfl)
  · skip
    refine F_nil ?_
    refine L_condP rfl (fun c5 => ?_) (fun c5 => ?_)
    · have H := of_pos H c5
      refine L_seq ?_
      refine L_region ?_
      refine F_val rfl rfl rfl (O_assign rfl rfl) ?_
      refine F_val rfl rfl rfl (O_assign rfl rfl) ?_
      refine F_nil ?_
      refine L_ret (fun a ha => (post_ret2 ha rfl rfl rfl ?_))
      obtain rfl := Option.some.inj H
      exact ⟨rfl, HS0.sel [] rfl⟩
    · have H := of_neg H c5
      refine L_skip ?_
      refine L_seq ?_
      refine L_region ?_
      refine F_val rfl rfl rfl (O_move rfl rfl) ?_
      refine F_val rfl rfl rfl (O_move rfl rfl) ?_
      obtain ⟨z8, h7, H⟩ := of_bind H
      refine F_qcall (v := .int .u32 z8) (xs := [.tmp 16, .tmp 17]) rfl rfl rfl rfl Try.func75 nm75 rfl rfl ((bits_Reader_ahead.calls (HS0.give [] rfl (Lent.rd HS0 (Lent.rd HS0 (Lent.nil) (i := 1) rfl ((HS0.cells_rd (i := 1) rfl).self)) (i := 0) rfl (HS0.cells_rd (i := 0) rfl).self)) h7).mono (fun e w hc => ?_)) (fun w9 hw10 => ?_)
      · obtain ⟨rfl, h⟩ := hc
        exact ⟨rfl, h.chg0⟩
      have HS11 := HS0.keep hw10
      refine F_val rfl rfl rfl (O_move rfl rfl) ?_
      refine F_val rfl rfl rfl (O_move rfl rfl) ?_
      obtain ⟨z14, h13, H⟩ := of_bind H
      refine F_qcall (v := .int .i64 z14) (xs := [.tmp 20]) rfl rfl rfl rfl Try.func70 nm70 rfl rfl ((bits_Reader_Left.calls (HS11.give [] rfl (Lent.rd HS11 (Lent.rd HS11 (Lent.nil) (i := 1) rfl ((HS11.cells_rd (i := 1) rfl).self)) (i := 0) rfl (HS11.cells_rd (i := 0) rfl).self)) h13).mono (fun e w hc => ?_)) (fun w15 hw16 => ?_)
      · obtain ⟨rfl, h⟩ := hc
        exact ⟨rfl, h.chg0⟩
      have HS17 := HS11.keep hw16
      refine F_val rfl rfl rfl (O_min rfl rfl rfl) ?_
      refine F_val rfl rfl rfl (O_assign rfl rfl) ?_
      refine F_val rfl rfl rfl (O_assign rfl rfl) ?_
      refine F_nil ?_
      refine L_ret (fun a ha => (post_ret2 ha rfl rfl rfl ?_))
      obtain rfl := Option.some.inj H
      exact ⟨rfl, HS17.sel [] rfl⟩

/-! function 72: (*valise/code.Decoder).none -/
theorem code_Decoder_none.calls {S0 : Nat → Prop} {w0 : World} {g_d_0 : Nat} {A_d_0_table_lens : Option Addr} {c_d_0_table_lens : Nat} {A_d_0_table_words : Option Addr} {c_d_0_table_words : Nat} {A_d_0_symbols : Option Addr} {c_d_0_symbols : Nat} {d_0_table_lens : List Int} {d_0_table_words : List Int} {d_0_table_counts : List Int} {d_0_table_first : List Int} {d_0_symbols : List Int} {word_1 : Int} {l_2 : Int} {r : Bool} (HS0 : Hp S0 w0 w0 [.rd (some ⟨g_d_0, 0, none⟩) (([.slice A_d_0_table_lens d_0_table_lens.length c_d_0_table_lens, .slice A_d_0_table_words d_0_table_words.length c_d_0_table_words] : List Value) ++ rowC (Eint .i64) d_0_table_counts ++ rowC (Eint .i64) d_0_table_first ++ ([.slice A_d_0_symbols d_0_symbols.length c_d_0_symbols] : List Value)), .rd A_d_0_table_lens (rowC (Eint .i64) d_0_table_lens), .rd A_d_0_table_words (rowC (Eint .i64) d_0_table_words), .rd A_d_0_symbols (rowC (Eint .i64) d_0_symbols)]) (h : code_Decoder_none.f d_0_table_lens d_0_table_words d_0_table_counts d_0_table_first d_0_symbols word_1 l_2 = some r) :
    Calls Try.prog 72 ([.pointer (some ⟨g_d_0, 0, none⟩), .int .i64 word_1, .int .i64 l_2] : List Value).toArray w0 (fun e w => e = .returned (.bool r) ∧ Hp S0 w0 w []) := by
  have H : (((if 0 < l_2 then (gd (d_0_table_counts.length = 16) (gd (d_0_table_first.length = 16) (some (decide ((d_0_symbols.length : Int) = 1))))) else (some false)).bind fun b3 => some (decide ((b3 = true) ∧ (0 < word_1)))) : Option (Bool)) = some r := h
  refine calls_start Try.func72 rfl rfl ?_
  refine L_seq ?_
  refine L_region ?_
  refine F_val rfl rfl rfl (O_assign rfl rfl) ?_
  refine F_nil ?_
  refine L_seq ?_
  refine L_region ?_
  refine F_val rfl rfl rfl (O_move rfl rfl) ?_
  refine F_val rfl rfl rfl (O_gt rfl rfl rfl) ?_
  refine F_val rfl rfl rfl (O_move rfl rfl) ?_
  obtain ⟨b3, Hb3, H⟩ := of_bind H
  refine F_grp 7 [(16, .bool b3), (1, .int .i64 word_1)] ?_ ?_
  · rcases Decidable.em (0 < l_2) with c7 | c7
    · refine F_know (i := 9) rfl (dec_t c7) ?_
      have H := of_pos Hb3 c7
      refine F_gval rfl rfl rfl rfl rfl rfl (O_move rfl rfl) ?_
      refine F_gval rfl rfl rfl rfl rfl rfl (O_nilCheck rfl rfl) ?_
      refine F_gval rfl rfl rfl rfl rfl rfl (O_fieldB rfl rfl field108_1) ?_
      obtain ⟨g8, H⟩ := of_gd H
      obtain ⟨g9, H⟩ := of_gd H
      refine F_gval rfl rfl rfl rfl rfl rfl (O_loadB rfl rfl flat22 (HS0.cells_rd (i := 0) rfl) (cell_seg (j := 0) (([.slice A_d_0_table_lens d_0_table_lens.length c_d_0_table_lens, .slice A_d_0_table_words d_0_table_words.length c_d_0_table_words] : List Value) ++ rowC (Eint .i64) d_0_table_counts ++ rowC (Eint .i64) d_0_table_first) [.slice A_d_0_symbols d_0_symbols.length c_d_0_symbols] [] (by simp only [List.append_assoc, List.cons_append, List.nil_append, List.append_nil]) (app_len (app_len rfl (row_len g8) rfl) (row_len g9) rfl) rfl)) ?_
      refine F_gval rfl rfl rfl rfl rfl rfl (O_len rfl rfl Try.underlying22) ?_
      refine F_gval rfl rfl rfl rfl rfl rfl (O_eq rfl rfl rfl) ?_
      refine F_val rfl rfl rfl (O_pickT rfl rfl rfl) ?_
      refine F_know (i := 16) rfl (congrArg Value.bool (Option.some.inj H)) ?_
      exact F_grpE (fun a ha => Is.cons ha (Is.cons ha (Is.nil ha) rfl) rfl)
    · refine F_know (i := 9) rfl (dec_f c7) ?_
      have H := of_neg Hb3 c7
      refine F_gskip rfl rfl rfl rfl rfl rfl rfl ?_
      refine F_gskip rfl rfl rfl rfl rfl rfl rfl ?_
      refine F_gskip rfl rfl rfl rfl rfl rfl rfl ?_
      refine F_gskip rfl rfl rfl rfl rfl rfl rfl ?_
      refine F_gskip rfl rfl rfl rfl rfl rfl rfl ?_
      refine F_gskip rfl rfl rfl rfl rfl rfl rfl ?_
      refine F_val rfl rfl rfl (O_pickF rfl rfl rfl) ?_
      refine F_know (i := 16) rfl (congrArg Value.bool (Option.some.inj H)) ?_
      exact F_grpE (fun a ha => Is.cons ha (Is.cons ha (Is.nil ha) rfl) rfl)
  · skip
    refine F_val rfl rfl rfl (O_move rfl rfl) ?_
    refine F_grp 3 [(20, .bool (decide ((b3 = true) ∧ (0 < word_1))))] ?_ ?_
    · rcases Decidable.em (b3 = true) with c13 | c13
      · refine F_know (i := 17) rfl (congrArg Value.bool c13) ?_
        refine F_gval rfl rfl rfl rfl rfl rfl (O_move rfl rfl) ?_
        refine F_gval rfl rfl rfl rfl rfl rfl (O_gt rfl rfl rfl) ?_
        refine F_val rfl rfl rfl (O_pickT rfl rfl rfl) ?_
        refine F_know (i := 20) rfl (dec_and_t (q := 0 < word_1) c13) ?_
        exact F_grpE (fun a ha => Is.cons ha (Is.nil ha) rfl)
      · refine F_know (i := 17) rfl (congrArg Value.bool (Bool.eq_false_iff.mpr c13)) ?_
        refine F_gskip rfl rfl rfl rfl rfl rfl rfl ?_
        refine F_gskip rfl rfl rfl rfl rfl rfl rfl ?_
        refine F_val rfl rfl rfl (O_pickF rfl rfl rfl) ?_
        refine F_know (i := 20) rfl (dec_and_f (q := 0 < word_1) c13) ?_
        exact F_grpE (fun a ha => Is.cons ha (Is.nil ha) rfl)
    · skip
      refine F_val rfl rfl rfl (O_assign rfl rfl) ?_
      refine F_nil ?_
      refine L_ret (fun a ha => (post_ret1 ha rfl rfl ?_))
      obtain rfl := Option.some.inj H
      exact ⟨rfl, HS0.sel [] rfl⟩

/-! function 49: (*valise/bits.Reader).Skip -/
theorem bits_Reader_Skip.calls {S0 : Nat → Prop} {w0 : World} {g_r_0 : Nat} {A_r_0_data : Option Addr} {c_r_0_data : Nat} {r_0_data : List Int} {r_0_at : Int} {n_1 : Int} {r : Int × List Int × Int} (HS0 : Hp S0 w0 w0 [.box g_r_0 [.slice A_r_0_data r_0_data.length c_r_0_data, .int .i64 r_0_at] 112, .own A_r_0_data c_r_0_data (rowC (Eint .u8) r_0_data) 5 (Eint .u8).sz]) (h : bits_Reader_Skip.f r_0_data r_0_at n_1 = some r) :
    Calls Try.prog 49 ([.pointer (some ⟨g_r_0, 0, none⟩), .int .i64 n_1] : List Value).toArray w0 (fun e w => ∃ (A_r_0_data' : Option Addr), ∃ (c_r_0_data' : Nat), e = .returned (.int .i64 r.1) ∧ Hp S0 w0 w [.box g_r_0 [.slice A_r_0_data' r.2.1.length c_r_0_data', .int .i64 r.2.2] 112, .own A_r_0_data' c_r_0_data' (rowC (Eint .u8) r.2.1) 5 (Eint .u8).sz]) := by
  have H : ((if n_1 < 0 then (some (1, r_0_data, r_0_at)) else ((bits_Reader_Left.f r_0_data r_0_at).bind fun z4 => if z4 < n_1 then (some (30, r_0_data, r_0_at)) else (some (0, r_0_data, IntKind.i64.wrap (r_0_at + n_1))))) : Option (Int × List Int × Int)) = some r := h
  refine calls_start Try.func49 rfl rfl ?_
  refine L_seq ?_
  refine L_region ?_
  refine F_val rfl rfl rfl (O_assign rfl rfl) ?_
  refine F_nil ?_
  refine L_seq ?_
  refine L_seq ?_
  refine L_region ?_
  refine F_val rfl rfl rfl (O_move rfl rfl) ?_
  refine F_val rfl rfl rfl (O_peq rfl rfl rfl Try.underlying68) ?_
  refine F_val rfl rfl rfl (O_move rfl rfl) ?_
  refine F_gval rfl rfl rfl rfl rfl rfl (O_move rfl rfl) ?_
  refine F_gval rfl rfl rfl rfl rfl rfl (O_lt rfl rfl rfl) ?_
  refine F_val rfl rfl rfl (O_pickF rfl rfl rfl) ?_
  refine F_nil ?_
  refine L_condP rfl (fun c1 => ?_) (fun c1 => ?_)
  · have H := of_pos H c1
    refine L_seq ?_
    refine L_region ?_
    refine F_val rfl rfl rfl (O_assign rfl rfl) ?_
    refine F_nil ?_
    refine L_ret (fun a ha => (post_ret1 ha rfl rfl ?_))
    obtain rfl := Option.some.inj H
    exact ⟨_, _, rfl, HS0.sel [0, 1] rfl⟩
  · have H := of_neg H c1
    refine L_skip ?_
    refine L_seq ?_
    refine L_seq ?_
    refine L_region ?_
    refine F_val rfl rfl rfl (O_move rfl rfl) ?_
    refine F_val rfl rfl rfl (O_move rfl rfl) ?_
    obtain ⟨z4, h3, H⟩ := of_bind H
    refine F_qcall (v := .int .i64 z4) (xs := [.tmp 12]) rfl rfl rfl rfl Try.func70 nm70 rfl rfl ((bits_Reader_Left.calls (HS0.give [] rfl (Lent.box HS0 (Lent.own HS0 (Lent.nil) (i := 1) rfl rfl ((HS0.cells_own (i := 1) rfl).self)) (i := 0) rfl rfl (HS0.cells_box (i := 0) rfl).self)) h3).mono (fun e w hc => ?_)) (fun w5 hw6 => ?_)
    · obtain ⟨rfl, h⟩ := hc
      exact ⟨rfl, h.chg0⟩
    have HS7 := HS0.keep hw6
    refine F_val rfl rfl rfl (O_gt rfl rfl rfl) ?_
    refine F_nil ?_
    refine L_condP rfl (fun c8 => ?_) (fun c8 => ?_)
    · have H := of_pos H c8
      refine L_seq ?_
      refine L_region ?_
      refine F_val rfl rfl rfl (O_assign rfl rfl) ?_
      refine F_nil ?_
      refine L_ret (fun a ha => (post_ret1 ha rfl rfl ?_))
      obtain rfl := Option.some.inj H
      exact ⟨_, _, rfl, HS7.sel [0, 1] rfl⟩
    · have H := of_neg H c8
      refine L_skip ?_
      refine L_seq ?_
      refine L_region ?_
      refine F_val rfl rfl rfl (O_move rfl rfl) ?_
      refine F_val rfl rfl rfl (O_nilCheck rfl rfl) ?_
      refine F_val rfl rfl rfl (O_fieldB rfl rfl field112_1) ?_
      refine F_val rfl rfl rfl (O_loadB rfl rfl flat3 (HS7.cells_box (i := 0) rfl) rfl) ?_
      refine F_val rfl rfl rfl (O_move rfl rfl) ?_
      refine F_val rfl rfl rfl (O_add rfl rfl rfl) ?_
      refine F_val rfl rfl rfl (O_nilCheck rfl rfl) ?_
      refine F_val rfl rfl rfl (O_fieldB rfl rfl field112_1) ?_
      refine F_stB 0 ([.slice A_r_0_data r_0_data.length c_r_0_data, .int .i64 (IntKind.i64.wrap (r_0_at + n_1))]) rfl rfl rfl rfl rfl size3 HS7 rfl rfl rfl rfl rfl (fun w9 HS10 => ?_)
      have HS10 : Hp S0 w0 w9 [.box g_r_0 [.slice A_r_0_data r_0_data.length c_r_0_data, .int .i64 (IntKind.i64.wrap (r_0_at + n_1))] 112, .own A_r_0_data c_r_0_data (rowC (Eint .u8) r_0_data) 5 (Eint .u8).sz] := HS10
      refine F_nil ?_
      refine L_seq ?_
      refine L_region ?_
      refine F_val rfl rfl rfl (O_assign rfl rfl) ?_
      refine F_nil ?_
      refine L_ret (fun a ha => (post_ret1 ha rfl rfl ?_))
      obtain rfl := Option.some.inj H
      exact ⟨_, _, rfl, HS10.sel [0, 1] rfl⟩

/-! function 51: (*valise/code.Decoder).Next -/
theorem code_Decoder_Next.calls {S0 : Nat → Prop} {w0 : World} {g_d_0 : Nat} {A_d_0_table_lens : Option Addr} {c_d_0_table_lens : Nat} {A_d_0_table_words : Option Addr} {c_d_0_table_words : Nat} {A_d_0_symbols : Option Addr} {c_d_0_symbols : Nat} {g_r_1 : Nat} {A_r_1_data : Option Addr} {c_r_1_data : Nat} {d_0_table_lens : List Int} {d_0_table_words : List Int} {d_0_table_counts : List Int} {d_0_table_first : List Int} {d_0_symbols : List Int} {r_1_data : List Int} {r_1_at : Int} {r : Int × Int × List Int × Int} (HS0 : Hp S0 w0 w0 [.box g_r_1 [.slice A_r_1_data r_1_data.length c_r_1_data, .int .i64 r_1_at] 112, .own A_r_1_data c_r_1_data (rowC (Eint .u8) r_1_data) 5 (Eint .u8).sz, .rd (some ⟨g_d_0, 0, none⟩) (([.slice A_d_0_table_lens d_0_table_lens.length c_d_0_table_lens, .slice A_d_0_table_words d_0_table_words.length c_d_0_table_words] : List Value) ++ rowC (Eint .i64) d_0_table_counts ++ rowC (Eint .i64) d_0_table_first ++ ([.slice A_d_0_symbols d_0_symbols.length c_d_0_symbols] : List Value)), .rd A_d_0_table_lens (rowC (Eint .i64) d_0_table_lens), .rd A_d_0_table_words (rowC (Eint .i64) d_0_table_words), .rd A_d_0_symbols (rowC (Eint .i64) d_0_symbols)]) (h : code_Decoder_Next.f d_0_table_lens d_0_table_words d_0_table_counts d_0_table_first d_0_symbols r_1_data r_1_at = some r) :
    Calls Try.prog 51 ([.pointer (some ⟨g_d_0, 0, none⟩), .pointer (some ⟨g_r_1, 0, none⟩)] : List Value).toArray w0 (fun e w => ∃ (A_r_1_data' : Option Addr), ∃ (c_r_1_data' : Nat), e = .returned (.tuple #[.int .i64 r.1, .int .i64 r.2.1]) ∧ Hp S0 w0 w [.box g_r_1 [.slice A_r_1_data' r.2.2.1.length c_r_1_data', .int .i64 r.2.2.2] 112, .own A_r_1_data' c_r_1_data' (rowC (Eint .u8) r.2.2.1) 5 (Eint .u8).sz]) := by
  have H : (((bits_Reader_Peek.f r_1_data r_1_at 15).bind fun (z3, z4) => (code_Decoder_Next.l1 FU 0 0 1 d_0_table_lens d_0_table_words d_0_table_counts d_0_table_first d_0_symbols r_1_data r_1_at z3 z4).bind fun (yj8 : Sum (Int × Int × List Int × Int) (Unit)) => onR yj8 (fun r => some r) fun () => some (0, 55, r_1_data, r_1_at)) : Option (Int × Int × List Int × Int)) = some r := h
  refine calls_start Try.func51 rfl rfl ?_
  refine L_seq ?_
  refine L_region ?_
  refine F_val rfl rfl rfl (O_assign rfl rfl) ?_
  refine F_val rfl rfl rfl (O_assign rfl rfl) ?_
  refine F_nil ?_
  refine L_seq ?_
  refine L_seq ?_
  refine L_region ?_
  refine F_val rfl rfl rfl (O_move rfl rfl) ?_
  refine F_val rfl rfl rfl (O_peq rfl rfl rfl Try.underlying62) ?_
  refine F_val rfl rfl rfl (O_move rfl rfl) ?_
  refine F_gval rfl rfl rfl rfl rfl rfl (O_move rfl rfl) ?_
  refine F_gval rfl rfl rfl rfl rfl rfl (O_peq rfl rfl rfl Try.underlying68) ?_
  refine F_val rfl rfl rfl (O_pickF rfl rfl rfl) ?_
  refine F_nil ?_
  refine L_cond rfl (fun hx => by cases hx) (fun _ => ?_)
  refine L_skip ?_
  refine L_seq ?_
  refine L_region ?_
  refine F_val rfl rfl rfl (O_move rfl rfl) ?_
  obtain ⟨⟨z3, z4⟩, h2, H⟩ := of_bind H
  refine F_qcall (v := .tuple #[.int .u32 z3, .int .i64 z4]) (xs := [.tmp 20, .const (.int .i64 15)]) rfl rfl rfl rfl Try.func71 nm71 rfl rfl ((bits_Reader_Peek.calls (HS0.give [] rfl (Lent.box HS0 (Lent.own HS0 (Lent.nil) (i := 1) rfl rfl ((HS0.cells_own (i := 1) rfl).self)) (i := 0) rfl rfl (HS0.cells_box (i := 0) rfl).self)) h2).mono (fun e w hc => ?_)) (fun w5 hw6 => ?_)
  · obtain ⟨rfl, h⟩ := hc
    exact ⟨rfl, h.chg0⟩
  have HS7 := HS0.keep hw6
  refine F_val rfl rfl rfl (O_move rfl rfl) ?_
  refine F_val rfl rfl rfl (O_extract (v := .int .u32 z3) rfl rfl rfl) ?_
  refine F_val rfl rfl rfl (O_extract (v := .int .i64 z4) rfl rfl rfl) ?_
  refine F_val rfl rfl rfl (O_assign rfl rfl) ?_
  refine F_val rfl rfl rfl (O_assign rfl rfl) ?_
  refine F_nil ?_
  refine L_seq ?_
  refine L_region ?_
  refine F_val rfl rfl rfl (O_assign rfl rfl) ?_
  refine F_val rfl rfl rfl (O_assign rfl rfl) ?_
  refine F_nil ?_
  refine L_seq ?_
  refine L_seq ?_
  refine L_region ?_
  refine F_val rfl rfl rfl (O_assign rfl rfl) ?_
  refine F_nil ?_
  obtain ⟨yj8, Hyj8, H⟩ := of_bind H
  refine L_join (fun a w => yj8 = Sum.inr () ∧ Is Try.f51.ntmps a [] ∧ Hp S0 w0 w [.rd (some ⟨g_d_0, 0, none⟩) (([.slice A_d_0_table_lens d_0_table_lens.length c_d_0_table_lens, .slice A_d_0_table_words d_0_table_words.length c_d_0_table_words] : List Value) ++ rowC (Eint .i64) d_0_table_counts ++ rowC (Eint .i64) d_0_table_first ++ ([.slice A_d_0_symbols d_0_symbols.length c_d_0_symbols] : List Value)), .rd A_d_0_table_lens (rowC (Eint .i64) d_0_table_lens), .rd A_d_0_table_words (rowC (Eint .i64) d_0_table_words), .rd A_d_0_symbols (rowC (Eint .i64) d_0_symbols), .box g_r_1 [.slice A_r_1_data r_1_data.length c_r_1_data, .int .i64 r_1_at] 112, .own A_r_1_data c_r_1_data (rowC (Eint .u8) r_1_data) 5 (Eint .u8).sz]) (fun Qj8 hNj8 hOj8 => ?_) (fun a w hR => ?_)
  · have HOj8 := H
    have H := Hyj8
    refine L_blk (fun Qb163 hNb163 hXb163 hOb163 => ?_)
    refine L_lp (fun k a w => ∃ (word_263 : Int), ∃ (shorter_264 : Int), ∃ (l_265 : Int), Is Try.f51.ntmps a [(0, .pointer (some ⟨g_d_0, 0, none⟩)), (1, .pointer (some ⟨g_r_1, 0, none⟩)), (6, .int .u32 z3), (7, .int .i64 z4), (8, .int .i64 word_263), (9, .int .i64 shorter_264), (10, .int .i64 l_265)] ∧ Hp S0 w0 w [.rd (some ⟨g_d_0, 0, none⟩) (([.slice A_d_0_table_lens d_0_table_lens.length c_d_0_table_lens, .slice A_d_0_table_words d_0_table_words.length c_d_0_table_words] : List Value) ++ rowC (Eint .i64) d_0_table_counts ++ rowC (Eint .i64) d_0_table_first ++ ([.slice A_d_0_symbols d_0_symbols.length c_d_0_symbols] : List Value)), .rd A_d_0_table_lens (rowC (Eint .i64) d_0_table_lens), .rd A_d_0_table_words (rowC (Eint .i64) d_0_table_words), .rd A_d_0_symbols (rowC (Eint .i64) d_0_symbols), .box g_r_1 [.slice A_r_1_data r_1_data.length c_r_1_data, .int .i64 r_1_at] 112, .own A_r_1_data c_r_1_data (rowC (Eint .u8) r_1_data) 5 (Eint .u8).sz] ∧ code_Decoder_Next.l1 k word_263 shorter_264 l_265 d_0_table_lens d_0_table_words d_0_table_counts d_0_table_first d_0_symbols r_1_data r_1_at z3 z4 = some yj8) FU (fun a ha => ⟨_, _, _, Is.cons ha (Is.cons ha (Is.cons ha (Is.cons ha (Is.cons ha (Is.cons ha (Is.cons ha (Is.nil ha) rfl) rfl) rfl) rfl) rfl) rfl) rfl, HS7.sel [2, 3, 4, 5, 0, 1] rfl, H⟩) (fun kp262 a w266 hI Qp262 hNp262 hOp262 => ?_)
    obtain ⟨word_263, shorter_264, l_265, ha, HS267, HAp262⟩ := hI
    cases kp262 with
    | zero => cases (show (none : Option _) = some _ from HAp262)
    | succ kp262 =>
      have H := (code_Decoder_Next.l1.eq_2 ..).symm.trans HAp262
      refine wpLF_app ?_ ha
      refine L_seq ?_
      refine L_seq ?_
      refine L_region ?_
      refine F_val rfl rfl rfl (O_move rfl rfl) ?_
      refine F_val rfl rfl rfl (O_le rfl rfl rfl) ?_
      refine F_nil ?_
      refine L_condP rfl (fun c268 => ?_) (fun c268 => ?_)
      · have H := of_pos H c268
        refine L_skip ?_
        refine L_seq ?_
        refine L_blk (fun Q269 hN269 hX269 hO269 => ?_)
        refine L_seq ?_
        refine L_seq ?_
        refine L_region ?_
        refine F_val rfl rfl rfl (O_move rfl rfl) ?_
        refine F_val rfl rfl rfl (O_move rfl rfl) ?_
        refine F_val rfl rfl rfl (O_gt rfl rfl rfl) ?_
        refine F_nil ?_
        refine L_condP rfl (fun c270 => ?_) (fun c270 => ?_)
        · have H := of_pos H c270
          refine L_seq ?_
          refine L_seq ?_
          refine L_region ?_
          refine F_val rfl rfl rfl (O_move rfl rfl) ?_
          refine F_val rfl rfl rfl (O_move rfl rfl) ?_
          refine F_val rfl rfl rfl (O_move rfl rfl) ?_
          refine F_val rfl rfl rfl (O_sub rfl rfl rfl) ?_
          obtain ⟨z273, h272, H⟩ := of_bind H
          refine F_qcall (v := .bool z273) (xs := [.tmp 31, .tmp 32, .tmp 34]) rfl rfl rfl rfl Try.func72 nm72 rfl rfl ((code_Decoder_none.calls (HS267.give [] rfl (Lent.rd HS267 (Lent.rd HS267 (Lent.rd HS267 (Lent.rd HS267 (Lent.nil) (i := 3) rfl ((HS267.cells_rd (i := 3) rfl).self)) (i := 2) rfl ((HS267.cells_rd (i := 2) rfl).self)) (i := 1) rfl ((HS267.cells_rd (i := 1) rfl).self)) (i := 0) rfl (HS267.cells_rd (i := 0) rfl).self)) h272).mono (fun e w hc => ?_)) (fun w274 hw275 => ?_)
          · obtain ⟨rfl, h⟩ := hc
            exact ⟨rfl, h.chg0⟩
          have HS276 := HS267.keep hw275
          refine F_nil ?_
          refine L_cond rfl (fun c277 => ?_) (fun c277 => ?_)
          · have H := of_pos H c277
            refine L_seq ?_
            refine L_region ?_
            refine F_val rfl rfl rfl (O_assign rfl rfl) ?_
            refine F_val rfl rfl rfl (O_assign rfl rfl) ?_
            refine F_nil ?_
            refine L_ret (fun a ha => (hO269 .ret a _ rfl (hOp262 .ret a _ rfl (hOb163 .ret a _ rfl (hOj8 .ret a _ rfl (post_ret2 ha rfl rfl rfl ?_))))))
            obtain rfl := Option.some.inj H
            obtain rfl := Option.some.inj (show (some (0, 55, r_1_data, r_1_at) : Option (Int × Int × List Int × Int)) = some _ from HOj8)
            exact ⟨_, _, rfl, HS276.sel [4, 5] rfl⟩
          · have H := of_neg H (by rw [c277]; exact Bool.false_ne_true)
            refine L_skip ?_
            refine L_seq ?_
            refine L_region ?_
            refine F_val rfl rfl rfl (O_assign rfl rfl) ?_
            refine F_val rfl rfl rfl (O_assign rfl rfl) ?_
            refine F_nil ?_
            refine L_ret (fun a ha => (hO269 .ret a _ rfl (hOp262 .ret a _ rfl (hOb163 .ret a _ rfl (hOj8 .ret a _ rfl (post_ret2 ha rfl rfl rfl ?_))))))
            obtain rfl := Option.some.inj H
            obtain rfl := Option.some.inj (show (some (0, 54, r_1_data, r_1_at) : Option (Int × Int × List Int × Int)) = some _ from HOj8)
            exact ⟨_, _, rfl, HS276.sel [4, 5] rfl⟩
        · have H := of_neg H c270
          refine L_skip ?_
          refine L_seq ?_
          refine L_region ?_
          refine F_val rfl rfl rfl (O_move rfl rfl) ?_
          refine F_val rfl rfl rfl (O_shl rfl rfl rfl (by decide)) ?_
          refine F_val rfl rfl rfl (O_move rfl rfl) ?_
          refine F_val rfl rfl rfl (O_move rfl rfl) ?_
          refine F_val rfl rfl rfl (O_sub rfl rfl rfl) ?_
          obtain ⟨g278, H⟩ := of_gd H
          refine F_val rfl rfl rfl (O_shr rfl rfl rfl g278) ?_
          refine F_val rfl rfl rfl (O_and rfl rfl rfl) ?_
          refine F_val rfl rfl rfl (O_conv rfl rfl ⟨_, Try.underlying52⟩ Try.underlying3) ?_
          refine F_val rfl rfl rfl (O_or rfl rfl rfl) ?_
          obtain ⟨x279, h280, H⟩ := of_bnd H
          refine F_val rfl rfl rfl (O_assign' rfl rfl (congrArg (Value.int .i64) h280)) ?_
          refine F_nil ?_
          refine L_seq ?_
          refine L_region ?_
          refine F_val rfl rfl rfl (O_move rfl rfl) ?_
          refine F_val rfl rfl rfl (O_move rfl rfl) ?_
          refine F_val rfl rfl rfl (O_move rfl rfl) ?_
          refine F_val rfl rfl rfl (O_nilCheck rfl rfl) ?_
          refine F_val rfl rfl rfl (O_fieldB rfl rfl field108_0) ?_
          refine F_val rfl rfl rfl (O_fieldB rfl rfl field91_3) ?_
          obtain ⟨⟨g281, g282⟩, H⟩ := of_gd H
          refine F_val rfl rfl rfl (O_idxA rfl rfl rfl Try.underlying82 size3 g281 g282) ?_
          obtain ⟨g283, H⟩ := of_gd H
          obtain ⟨g284, H⟩ := of_gd H
          refine F_val rfl rfl rfl (O_loadB rfl rfl flat3 (HS267.cells_rd (i := 0) rfl) (arr_cell (i := (l_265 : Int).toNat * 1) (([.slice A_d_0_table_lens d_0_table_lens.length c_d_0_table_lens, .slice A_d_0_table_words d_0_table_words.length c_d_0_table_words] : List Value) ++ rowC (Eint .i64) d_0_table_counts) (rowC (Eint .i64) d_0_table_first) [.slice A_d_0_symbols d_0_symbols.length c_d_0_symbols] (by simp only [List.append_assoc, List.cons_append, List.nil_append, List.append_nil]) (app_len rfl (row_len g284) rfl) (int_cell g281 (arr_lt g283 g282)))) ?_
          refine F_val rfl rfl rfl (O_sub rfl rfl rfl) ?_
          obtain ⟨x285, h286, H⟩ := of_bnd H
          refine F_val rfl rfl rfl (O_assign' rfl rfl (congrArg (Value.int .i64) h286)) ?_
          refine F_nil ?_
          refine L_seq ?_
          refine L_seq ?_
          refine L_region ?_
          refine F_val rfl rfl rfl (O_move rfl rfl) ?_
          refine F_val rfl rfl rfl (O_ge rfl rfl rfl) ?_
          refine F_val rfl rfl rfl (O_move rfl rfl) ?_
          refine F_grp 10 [(66, .bool (decide ((0 ≤ x285) ∧ (x285 < rd d_0_table_counts l_265)))), (0, .pointer (some ⟨g_d_0, 0, none⟩)), (1, .pointer (some ⟨g_r_1, 0, none⟩)), (6, .int .u32 z3), (7, .int .i64 z4), (8, .int .i64 x279), (9, .int .i64 shorter_264), (10, .int .i64 l_265), (11, .int .i64 x285)] ?_ ?_
          · rcases Decidable.em (0 ≤ x285) with c290 | c290
            · refine F_know (i := 56) rfl (dec_t c290) ?_
              refine F_gval rfl rfl rfl rfl rfl rfl (O_move rfl rfl) ?_
              refine F_gval rfl rfl rfl rfl rfl rfl (O_move rfl rfl) ?_
              refine F_gval rfl rfl rfl rfl rfl rfl (O_move rfl rfl) ?_
              refine F_gval rfl rfl rfl rfl rfl rfl (O_nilCheck rfl rfl) ?_
              refine F_gval rfl rfl rfl rfl rfl rfl (O_fieldB rfl rfl field108_0) ?_
              refine F_gval rfl rfl rfl rfl rfl rfl (O_fieldB rfl rfl field91_2) ?_
              refine F_gval rfl rfl rfl rfl rfl rfl (O_idxA rfl rfl rfl Try.underlying82 size3 g281 g282) ?_
              refine F_gval rfl rfl rfl rfl rfl rfl (O_loadB rfl rfl flat3 (HS267.cells_rd (i := 0) rfl) (arr_cell (i := (l_265 : Int).toNat * 1) [.slice A_d_0_table_lens d_0_table_lens.length c_d_0_table_lens, .slice A_d_0_table_words d_0_table_words.length c_d_0_table_words] (rowC (Eint .i64) d_0_table_counts) (rowC (Eint .i64) d_0_table_first ++ ([.slice A_d_0_symbols d_0_symbols.length c_d_0_symbols] : List Value)) (by simp only [List.append_assoc, List.cons_append, List.nil_append, List.append_nil]) rfl (int_cell g281 (arr_lt g284 g282)))) ?_
              refine F_gval rfl rfl rfl rfl rfl rfl (O_lt rfl rfl rfl) ?_
              refine F_val rfl rfl rfl (O_pickT rfl rfl rfl) ?_
              refine F_know (i := 66) rfl (dec_and_t (q := x285 < rd d_0_table_counts l_265) c290) ?_
              exact F_grpE (fun a ha => Is.cons ha (Is.cons ha (Is.cons ha (Is.cons ha (Is.cons ha (Is.cons ha (Is.cons ha (Is.cons ha (Is.cons ha (Is.nil ha) rfl) rfl) rfl) rfl) rfl) rfl) rfl) rfl) rfl)
            · refine F_know (i := 56) rfl (dec_f c290) ?_
              refine F_gskip rfl rfl rfl rfl rfl rfl rfl ?_
              refine F_gskip rfl rfl rfl rfl rfl rfl rfl ?_
              refine F_gskip rfl rfl rfl rfl rfl rfl rfl ?_
              refine F_gskip rfl rfl rfl rfl rfl rfl rfl ?_
              refine F_gskip rfl rfl rfl rfl rfl rfl rfl ?_
              refine F_gskip rfl rfl rfl rfl rfl rfl rfl ?_
              refine F_gskip rfl rfl rfl rfl rfl rfl rfl ?_
              refine F_gskip rfl rfl rfl rfl rfl rfl rfl ?_
              refine F_gskip rfl rfl rfl rfl rfl rfl rfl ?_
              refine F_val rfl rfl rfl (O_pickF rfl rfl rfl) ?_
              refine F_know (i := 66) rfl (dec_and_f (q := x285 < rd d_0_table_counts l_265) c290) ?_
              exact F_grpE (fun a ha => Is.cons ha (Is.cons ha (Is.cons ha (Is.cons ha (Is.cons ha (Is.cons ha (Is.cons ha (Is.cons ha (Is.cons ha (Is.nil ha) rfl) rfl) rfl) rfl) rfl) rfl) rfl) rfl) rfl)
          · skip
            refine F_nil ?_
            refine L_condP rfl (fun c291 => ?_) (fun c291 => ?_)
            · have H := of_pos H c291
              refine L_seq ?_
              refine L_seq ?_
              refine L_region ?_
              refine F_val rfl rfl rfl (O_move rfl rfl) ?_
              refine F_val rfl rfl rfl (O_move rfl rfl) ?_
              obtain ⟨⟨z296, z297, z298⟩, h295, H⟩ := of_bind H
              refine F_call (xs := [.tmp 67, .tmp 68]) rfl rfl rfl rfl Try.func49 nm49 rfl rfl ((bits_Reader_Skip.calls (HS267.give [4, 5] rfl (Lent.nil)) h295).mono (fun e w hc => ?_))
              obtain ⟨A301, c302, rfl, HSo⟩ := hc
              refine ⟨.int .i64 z296, rfl, ?_⟩
              have HS300 : Hp S0 w0 w [.rd (some ⟨g_d_0, 0, none⟩) (([.slice A_d_0_table_lens d_0_table_lens.length c_d_0_table_lens, .slice A_d_0_table_words d_0_table_words.length c_d_0_table_words] : List Value) ++ rowC (Eint .i64) d_0_table_counts ++ rowC (Eint .i64) d_0_table_first ++ ([.slice A_d_0_symbols d_0_symbols.length c_d_0_symbols] : List Value)), .rd A_d_0_table_lens (rowC (Eint .i64) d_0_table_lens), .rd A_d_0_table_words (rowC (Eint .i64) d_0_table_words), .rd A_d_0_symbols (rowC (Eint .i64) d_0_symbols), .box g_r_1 [.slice A301 z297.length c302, .int .i64 z298] 112, .own A301 c302 (rowC (Eint .u8) z297) 5 (Eint .u8).sz] := (HS267.back [4, 5] HSo rfl).sel [0, 1, 2, 3, 6, 7] rfl
              refine F_val rfl rfl rfl (O_assign rfl rfl) ?_
              refine F_nil ?_
              refine L_seq ?_
              refine L_region ?_
              refine F_val rfl rfl rfl (O_move rfl rfl) ?_
              refine F_val rfl rfl rfl (O_ne rfl rfl rfl) ?_
              refine F_nil ?_
              refine L_condP rfl (fun c303 => ?_) (fun c303 => ?_)
              · have H := of_pos H c303
                refine L_seq ?_
                refine L_region ?_
                refine F_val rfl rfl rfl (O_move rfl rfl) ?_
                refine F_val rfl rfl rfl (O_assign rfl rfl) ?_
                refine F_val rfl rfl rfl (O_assign rfl rfl) ?_
                refine F_nil ?_
                refine L_ret (fun a ha => (hO269 .ret a _ rfl (hOp262 .ret a _ rfl (hOb163 .ret a _ rfl (hOj8 .ret a _ rfl (post_ret2 ha rfl rfl rfl ?_))))))
                obtain rfl := Option.some.inj H
                obtain rfl := Option.some.inj (show (some (0, z296, z297, z298) : Option (Int × Int × List Int × Int)) = some _ from HOj8)
                exact ⟨_, _, rfl, HS300.sel [4, 5] rfl⟩
              · have H := of_neg H c303
                refine L_skip ?_
                refine L_seq ?_
                refine L_region ?_
                refine F_val rfl rfl rfl (O_move rfl rfl) ?_
                refine F_val rfl rfl rfl (O_nilCheck rfl rfl) ?_
                refine F_val rfl rfl rfl (O_fieldB rfl rfl field108_1) ?_
                refine F_val rfl rfl rfl (O_loadB rfl rfl flat22 (HS300.cells_rd (i := 0) rfl) (cell_seg (j := 0) (([.slice A_d_0_table_lens d_0_table_lens.length c_d_0_table_lens, .slice A_d_0_table_words d_0_table_words.length c_d_0_table_words] : List Value) ++ rowC (Eint .i64) d_0_table_counts ++ rowC (Eint .i64) d_0_table_first) [.slice A_d_0_symbols d_0_symbols.length c_d_0_symbols] [] (by simp only [List.append_assoc, List.cons_append, List.nil_append, List.append_nil]) (app_len (app_len rfl (row_len g284) rfl) (row_len g283) rfl) rfl)) ?_
                refine F_val rfl rfl rfl (O_move rfl rfl) ?_
                refine F_val rfl rfl rfl (O_move rfl rfl) ?_
                refine F_val rfl rfl rfl (O_add rfl rfl rfl) ?_
                obtain ⟨⟨g304, g305⟩, H⟩ := of_gd H
                refine F_val rfl rfl rfl (O_idx rfl rfl rfl Try.underlying22 size3 g304 g305 (Cells.isA (HS300.cells_rd (i := 3) rfl) (rowC_ne (E := (Eint .i64)) g304 g305 (by decide)))) ?_
                refine F_val rfl rfl rfl (O_loadC rfl rfl flat3 (HS300.cells_rd (i := 3) rfl) (int_cell g304 g305)) ?_
                refine F_val rfl rfl rfl (O_assign rfl rfl) ?_
                refine F_val rfl rfl rfl (O_assign rfl rfl) ?_
                refine F_nil ?_
                refine L_ret (fun a ha => (hO269 .ret a _ rfl (hOp262 .ret a _ rfl (hOb163 .ret a _ rfl (hOj8 .ret a _ rfl (post_ret2 ha rfl rfl rfl ?_))))))
                obtain rfl := Option.some.inj H
                obtain rfl := Option.some.inj (show (some (rd d_0_symbols (IntKind.i64.wrap (shorter_264 + x285)), 0, z297, z298) : Option (Int × Int × List Int × Int)) = some _ from HOj8)
                exact ⟨_, _, rfl, HS300.sel [4, 5] rfl⟩
            · have H := of_neg H c291
              refine L_skip ?_
              refine L_seq ?_
              refine L_seq ?_
              refine L_region ?_
              refine F_val rfl rfl rfl (O_move rfl rfl) ?_
              refine F_val rfl rfl rfl (O_move rfl rfl) ?_
              refine F_val rfl rfl rfl (O_move rfl rfl) ?_
              obtain ⟨z308, h307, H⟩ := of_bind H
              refine F_qcall (v := .bool z308) (xs := [.tmp 82, .tmp 83, .tmp 84]) rfl rfl rfl rfl Try.func72 nm72 rfl rfl ((code_Decoder_none.calls (HS267.give [] rfl (Lent.rd HS267 (Lent.rd HS267 (Lent.rd HS267 (Lent.rd HS267 (Lent.nil) (i := 3) rfl ((HS267.cells_rd (i := 3) rfl).self)) (i := 2) rfl ((HS267.cells_rd (i := 2) rfl).self)) (i := 1) rfl ((HS267.cells_rd (i := 1) rfl).self)) (i := 0) rfl (HS267.cells_rd (i := 0) rfl).self)) h307).mono (fun e w hc => ?_)) (fun w309 hw310 => ?_)
              · obtain ⟨rfl, h⟩ := hc
                exact ⟨rfl, h.chg0⟩
              have HS311 := HS267.keep hw310
              refine F_nil ?_
              refine L_cond rfl (fun c312 => ?_) (fun c312 => ?_)
              · have H := of_pos H c312
                refine L_seq ?_
                refine L_region ?_
                refine F_val rfl rfl rfl (O_assign rfl rfl) ?_
                refine F_val rfl rfl rfl (O_assign rfl rfl) ?_
                refine F_nil ?_
                refine L_ret (fun a ha => (hO269 .ret a _ rfl (hOp262 .ret a _ rfl (hOb163 .ret a _ rfl (hOj8 .ret a _ rfl (post_ret2 ha rfl rfl rfl ?_))))))
                obtain rfl := Option.some.inj H
                obtain rfl := Option.some.inj (show (some (0, 55, r_1_data, r_1_at) : Option (Int × Int × List Int × Int)) = some _ from HOj8)
                exact ⟨_, _, rfl, HS311.sel [4, 5] rfl⟩
              · have H := of_neg H (by rw [c312]; exact Bool.false_ne_true)
                refine L_skip ?_
                refine L_region ?_
                refine F_val rfl rfl rfl (O_move rfl rfl) ?_
                refine F_val rfl rfl rfl (O_move rfl rfl) ?_
                refine F_val rfl rfl rfl (O_move rfl rfl) ?_
                refine F_val rfl rfl rfl (O_nilCheck rfl rfl) ?_
                refine F_val rfl rfl rfl (O_fieldB rfl rfl field108_0) ?_
                refine F_val rfl rfl rfl (O_fieldB rfl rfl field91_2) ?_
                refine F_val rfl rfl rfl (O_idxA rfl rfl rfl Try.underlying82 size3 g281 g282) ?_
                refine F_val rfl rfl rfl (O_loadB rfl rfl flat3 (HS311.cells_rd (i := 0) rfl) (arr_cell (i := (l_265 : Int).toNat * 1) [.slice A_d_0_table_lens d_0_table_lens.length c_d_0_table_lens, .slice A_d_0_table_words d_0_table_words.length c_d_0_table_words] (rowC (Eint .i64) d_0_table_counts) (rowC (Eint .i64) d_0_table_first ++ ([.slice A_d_0_symbols d_0_symbols.length c_d_0_symbols] : List Value)) (by simp only [List.append_assoc, List.cons_append, List.nil_append, List.append_nil]) rfl (int_cell g281 (arr_lt g284 g282)))) ?_
                refine F_val rfl rfl rfl (O_add rfl rfl rfl) ?_
                obtain ⟨x313, h314, H⟩ := of_bnd H
                refine F_val rfl rfl rfl (O_assign' rfl rfl (congrArg (Value.int .i64) h314)) ?_
                refine F_nil ?_
                refine L_endB hN269 ?_
                refine L_region ?_
                refine F_val rfl rfl rfl (O_move rfl rfl) ?_
                refine F_val rfl rfl rfl (O_add rfl rfl rfl) ?_
                obtain ⟨x315, h316, H⟩ := of_bnd H
                refine F_val rfl rfl rfl (O_assign' rfl rfl (congrArg (Value.int .i64) h316)) ?_
                refine F_nil ?_
                refine L_nil (fun a ha => hNp262 _ a _ (Nat.lt_succ_self _) ⟨_, _, _, Is.cons ha (Is.cons ha (Is.cons ha (Is.cons ha (Is.cons ha (Is.cons ha (Is.cons ha (Is.nil ha) rfl) rfl) rfl) rfl) rfl) rfl) rfl, HS311.sel [0, 1, 2, 3, 4, 5] rfl, H⟩)
      · have H := of_neg H c268
        refine L_exitB (fun a w h => hOp262 (.exit 0) a w rfl (hXb163 a w h)) ?_
        refine L_nil (fun a ha => hNj8 a _ ⟨(Option.some.inj H).symm, Is.nil ha, HS267.sel [0, 1, 2, 3, 4, 5] rfl⟩)
  · obtain ⟨rfl, ha, HS318⟩ := hR
    refine wpLF_app ?_ ha
    have H := (onR_inr _ _ _).symm.trans H
    refine L_seq ?_
    refine L_region ?_
    refine F_val rfl rfl rfl (O_assign rfl rfl) ?_
    refine F_val rfl rfl rfl (O_assign rfl rfl) ?_
    refine F_nil ?_
    refine L_ret (fun a ha => (post_ret2 ha rfl rfl rfl ?_))
    obtain rfl := Option.some.inj H
    exact ⟨_, _, rfl, HS318.sel [4, 5] rfl⟩

/-! function 56: valise/valiselaw5.reads -/
theorem valiselaw5_reads.calls {S0 : Nat → Prop} {w0 : World} {g_d_0 : Nat} {A_d_0_table_lens : Option Addr} {c_d_0_table_lens : Nat} {A_d_0_table_words : Option Addr} {c_d_0_table_words : Nat} {A_d_0_symbols : Option Addr} {c_d_0_symbols : Nat} {g_r_1 : Nat} {A_r_1_data : Option Addr} {c_r_1_data : Nat} {g_c_2 : Nat} {A_c_2_table_lens : Option Addr} {c_c_2_table_lens : Nat} {A_c_2_table_words : Option Addr} {c_c_2_table_words : Nat} {d_0_table_lens : List Int} {d_0_table_words : List Int} {d_0_table_counts : List Int} {d_0_table_first : List Int} {d_0_symbols : List Int} {r_1_data : List Int} {r_1_at : Int} {c_2_table_lens : List Int} {c_2_table_words : List Int} {c_2_table_counts : List Int} {c_2_table_first : List Int} {symbol_3 : Int} {r : Bool × List Int × Int} (HS0 : Hp S0 w0 w0 [.box g_r_1 [.slice A_r_1_data r_1_data.length c_r_1_data, .int .i64 r_1_at] 112, .own A_r_1_data c_r_1_data (rowC (Eint .u8) r_1_data) 5 (Eint .u8).sz, .rd (some ⟨g_d_0, 0, none⟩) (([.slice A_d_0_table_lens d_0_table_lens.length c_d_0_table_lens, .slice A_d_0_table_words d_0_table_words.length c_d_0_table_words] : List Value) ++ rowC (Eint .i64) d_0_table_counts ++ rowC (Eint .i64) d_0_table_first ++ ([.slice A_d_0_symbols d_0_symbols.length c_d_0_symbols] : List Value)), .rd A_d_0_table_lens (rowC (Eint .i64) d_0_table_lens), .rd A_d_0_table_words (rowC (Eint .i64) d_0_table_words), .rd A_d_0_symbols (rowC (Eint .i64) d_0_symbols), .rd (some ⟨g_c_2, 0, none⟩) (([.slice A_c_2_table_lens c_2_table_lens.length c_c_2_table_lens, .slice A_c_2_table_words c_2_table_words.length c_c_2_table_words] : List Value) ++ rowC (Eint .i64) c_2_table_counts ++ rowC (Eint .i64) c_2_table_first), .rd A_c_2_table_lens (rowC (Eint .i64) c_2_table_lens), .rd A_c_2_table_words (rowC (Eint .i64) c_2_table_words)]) (h : valiselaw5_reads.f d_0_table_lens d_0_table_words d_0_table_counts d_0_table_first d_0_symbols r_1_data r_1_at c_2_table_lens c_2_table_words c_2_table_counts c_2_table_first symbol_3 = some r) :
    Calls Try.prog 56 ([.pointer (some ⟨g_d_0, 0, none⟩), .pointer (some ⟨g_r_1, 0, none⟩), .pointer (some ⟨g_c_2, 0, none⟩), .int .i64 symbol_3] : List Value).toArray w0 (fun e w => ∃ (A_r_1_data' : Option Addr), ∃ (c_r_1_data' : Nat), e = .returned (.bool r.1) ∧ Hp S0 w0 w [.box g_r_1 [.slice A_r_1_data' r.2.1.length c_r_1_data', .int .i64 r.2.2] 112, .own A_r_1_data' c_r_1_data' (rowC (Eint .u8) r.2.1) 5 (Eint .u8).sz]) := by
  have H : (((code_Encoder_Len.f c_2_table_lens c_2_table_words c_2_table_counts c_2_table_first symbol_3).bind fun z3 => if z3 = 0 then (some (true, r_1_data, r_1_at)) else ((code_Decoder_Next.f d_0_table_lens d_0_table_words d_0_table_counts d_0_table_first d_0_symbols r_1_data r_1_at).bind fun (z12, z13, z14, z15) => some (decide ((z12 = symbol_3) ∧ (z13 = 0)), z14, z15))) : Option (Bool × List Int × Int)) = some r := h
  refine calls_start Try.func56 rfl rfl ?_
  refine L_seq ?_
  refine L_region ?_
  refine F_val rfl rfl rfl (O_assign rfl rfl) ?_
  refine F_nil ?_
  refine L_seq ?_
  refine L_seq ?_
  refine L_region ?_
  refine F_val rfl rfl rfl (O_move rfl rfl) ?_
  refine F_val rfl rfl rfl (O_move rfl rfl) ?_
  obtain ⟨z3, h2, H⟩ := of_bind H
  refine F_qcall (v := .int .i64 z3) (xs := [.tmp 11, .tmp 12]) rfl rfl rfl rfl Try.func38 nm38 rfl rfl ((code_Encoder_Len.calls (HS0.give [] rfl (Lent.rd HS0 (Lent.rd HS0 (Lent.rd HS0 (Lent.nil) (i := 8) rfl ((HS0.cells_rd (i := 8) rfl).self)) (i := 7) rfl ((HS0.cells_rd (i := 7) rfl).self)) (i := 6) rfl (HS0.cells_rd (i := 6) rfl).self)) h2).mono (fun e w hc => ?_)) (fun w4 hw5 => ?_)
  · obtain ⟨rfl, h⟩ := hc
    exact ⟨rfl, h.chg0⟩
  have HS6 := HS0.keep hw5
  refine F_val rfl rfl rfl (O_eq rfl rfl rfl) ?_
  refine F_nil ?_
  refine L_condP rfl (fun c7 => ?_) (fun c7 => ?_)
  · have H := of_pos H c7
    refine L_seq ?_
    refine L_region ?_
    refine F_val rfl rfl rfl (O_assign rfl rfl) ?_
    refine F_nil ?_
    refine L_ret (fun a ha => (post_ret1 ha rfl rfl ?_))
    obtain rfl := Option.some.inj H
    exact ⟨_, _, rfl, HS6.sel [0, 1] rfl⟩
  · have H := of_neg H c7
    refine L_skip ?_
    refine L_seq ?_
    refine L_region ?_
    refine F_val rfl rfl rfl (O_move rfl rfl) ?_
    refine F_val rfl rfl rfl (O_move rfl rfl) ?_
    obtain ⟨⟨z12, z13, z14, z15⟩, h11, H⟩ := of_bind H
    refine F_call (xs := [.tmp 16, .tmp 17]) rfl rfl rfl rfl Try.func51 nm51 rfl rfl ((code_Decoder_Next.calls (HS6.give [0, 1] rfl (Lent.rd HS6 (Lent.rd HS6 (Lent.rd HS6 (Lent.rd HS6 (Lent.nil) (i := 5) rfl ((HS6.cells_rd (i := 5) rfl).self)) (i := 4) rfl ((HS6.cells_rd (i := 4) rfl).self)) (i := 3) rfl ((HS6.cells_rd (i := 3) rfl).self)) (i := 2) rfl (HS6.cells_rd (i := 2) rfl).self)) h11).mono (fun e w hc => ?_))
    obtain ⟨A18, c19, rfl, HSo⟩ := hc
    refine ⟨.tuple #[.int .i64 z12, .int .i64 z13], rfl, ?_⟩
    have HS17 : Hp S0 w0 w [.box g_r_1 [.slice A18 z14.length c19, .int .i64 z15] 112, .own A18 c19 (rowC (Eint .u8) z14) 5 (Eint .u8).sz, .rd (some ⟨g_d_0, 0, none⟩) (([.slice A_d_0_table_lens d_0_table_lens.length c_d_0_table_lens, .slice A_d_0_table_words d_0_table_words.length c_d_0_table_words] : List Value) ++ rowC (Eint .i64) d_0_table_counts ++ rowC (Eint .i64) d_0_table_first ++ ([.slice A_d_0_symbols d_0_symbols.length c_d_0_symbols] : List Value)), .rd A_d_0_table_lens (rowC (Eint .i64) d_0_table_lens), .rd A_d_0_table_words (rowC (Eint .i64) d_0_table_words), .rd A_d_0_symbols (rowC (Eint .i64) d_0_symbols), .rd (some ⟨g_c_2, 0, none⟩) (([.slice A_c_2_table_lens c_2_table_lens.length c_c_2_table_lens, .slice A_c_2_table_words c_2_table_words.length c_c_2_table_words] : List Value) ++ rowC (Eint .i64) c_2_table_counts ++ rowC (Eint .i64) c_2_table_first), .rd A_c_2_table_lens (rowC (Eint .i64) c_2_table_lens), .rd A_c_2_table_words (rowC (Eint .i64) c_2_table_words)] := (HS6.back [0, 1] HSo rfl).sel [9, 10, 2, 3, 4, 5, 6, 7, 8] rfl
    refine F_val rfl rfl rfl (O_move rfl rfl) ?_
    refine F_val rfl rfl rfl (O_extract (v := .int .i64 z12) rfl rfl rfl) ?_
    refine F_val rfl rfl rfl (O_extract (v := .int .i64 z13) rfl rfl rfl) ?_
    refine F_val rfl rfl rfl (O_assign rfl rfl) ?_
    refine F_val rfl rfl rfl (O_assign rfl rfl) ?_
    refine F_nil ?_
    refine L_seq ?_
    refine L_region ?_
    refine F_val rfl rfl rfl (O_move rfl rfl) ?_
    refine F_val rfl rfl rfl (O_move rfl rfl) ?_
    refine F_val rfl rfl rfl (O_eq rfl rfl rfl) ?_
    refine F_val rfl rfl rfl (O_move rfl rfl) ?_
    refine F_grpQ 4 [(28, .bool (decide ((z12 = symbol_3) ∧ (z13 = 0))))] ?_ (fun w26 hw27 => ?_)
    · rcases Decidable.em (z12 = symbol_3) with c29 | c29
      · refine F_know (i := 24) rfl (dec_t c29) ?_
        refine F_gval rfl rfl rfl rfl rfl rfl (O_move rfl rfl) ?_
        refine F_gqcall (v := .int .i64 z13) (xs := [.tmp 25]) rfl rfl rfl rfl rfl rfl rfl Try.func23 nm23 rfl rfl ((valiselaw5_num.calls (HS17.give [] rfl (Lent.nil)) (rfl : valiselaw5_num.f z13 = some z13)).mono (fun e w hc => ?_)) (fun w33 hw34 => ?_)
        · obtain ⟨rfl, h⟩ := hc
          exact ⟨rfl, h.chg0⟩
        have HS35 := HS17.keep hw34
        refine F_gval rfl rfl rfl rfl rfl rfl (O_eq rfl rfl rfl) ?_
        refine F_val rfl rfl rfl (O_pickT rfl rfl rfl) ?_
        refine F_know (i := 28) rfl (dec_and_t (q := z13 = 0) c29) ?_
        exact F_grpQE ((Chg.refl NoB _).trans hw34) (fun a ha => Is.cons ha (Is.nil ha) rfl)
      · refine F_know (i := 24) rfl (dec_f c29) ?_
        refine F_gskip rfl rfl rfl rfl rfl rfl rfl ?_
        refine F_gskip rfl rfl rfl rfl rfl rfl rfl ?_
        refine F_gskip rfl rfl rfl rfl rfl rfl rfl ?_
        refine F_val rfl rfl rfl (O_pickF rfl rfl rfl) ?_
        refine F_know (i := 28) rfl (dec_and_f (q := z13 = 0) c29) ?_
        exact F_grpQE (Chg.refl NoB _) (fun a ha => Is.cons ha (Is.nil ha) rfl)
    · have HS28 := HS17.keep hw27
      refine F_val rfl rfl rfl (O_assign rfl rfl) ?_
      refine F_nil ?_
      refine L_ret (fun a ha => (post_ret1 ha rfl rfl ?_))
      obtain rfl := Option.some.inj H
      exact ⟨_, _, rfl, HS28.sel [0, 1] rfl⟩

/-! function 53: (*valise/bits.Reader).At -/
theorem bits_Reader_At.calls {S0 : Nat → Prop} {w0 : World} {g_r_0 : Nat} {A_r_0_data : Option Addr} {c_r_0_data : Nat} {r_0_data : List Int} {r_0_at : Int} {r : Int} (HS0 : Hp S0 w0 w0 [.rd (some ⟨g_r_0, 0, none⟩) [.slice A_r_0_data r_0_data.length c_r_0_data, .int .i64 r_0_at], .rd A_r_0_data (rowC (Eint .u8) r_0_data)]) (h : bits_Reader_At.f r_0_data r_0_at = some r) :
    Calls Try.prog 53 ([.pointer (some ⟨g_r_0, 0, none⟩)] : List Value).toArray w0 (fun e w => e = .returned (.int .i64 r) ∧ Hp S0 w0 w []) := by
  have H : ((some r_0_at) : Option (Int)) = some r := h
  refine calls_start Try.func53 rfl rfl ?_
  refine L_seq ?_
  refine L_region ?_
  refine F_val rfl rfl rfl (O_assign rfl rfl) ?_
  refine F_nil ?_
  refine L_seq ?_
  refine L_seq ?_
  refine L_region ?_
  refine F_val rfl rfl rfl (O_move rfl rfl) ?_
  refine F_val rfl rfl rfl (O_peq rfl rfl rfl Try.underlying68) ?_
  refine F_nil ?_
  refine L_cond rfl (fun hx => by cases hx) (fun _ => ?_)
  refine L_skip ?_
  refine L_seq ?_
  refine L_region ?_
  refine F_val rfl rfl rfl (O_move rfl rfl) ?_
  refine F_val rfl rfl rfl (O_nilCheck rfl rfl) ?_
  refine F_val rfl rfl rfl (O_fieldB rfl rfl field112_1) ?_
  refine F_val rfl rfl rfl (O_loadB rfl rfl flat3 (HS0.cells_rd (i := 0) rfl) rfl) ?_
  refine F_val rfl rfl rfl (O_assign rfl rfl) ?_
  refine F_nil ?_
  refine L_ret (fun a ha => (post_ret1 ha rfl rfl ?_))
  obtain rfl := Option.some.inj H
  exact ⟨rfl, HS0.sel [] rfl⟩

/-! function 40: (*valise/bits.Writer).Len -/
theorem bits_Writer_Len.calls {S0 : Nat → Prop} {w0 : World} {g_w_0 : Nat} {A_w_0_bytes : Option Addr} {c_w_0_bytes : Nat} {w_0_bytes : List Int} {w_0_count : Int} {r : Int} (HS0 : Hp S0 w0 w0 [.rd (some ⟨g_w_0, 0, none⟩) [.slice A_w_0_bytes w_0_bytes.length c_w_0_bytes, .int .i64 w_0_count], .rd A_w_0_bytes (rowC (Eint .u8) w_0_bytes)]) (h : bits_Writer_Len.f w_0_bytes w_0_count = some r) :
    Calls Try.prog 40 ([.pointer (some ⟨g_w_0, 0, none⟩)] : List Value).toArray w0 (fun e w => e = .returned (.int .i64 r) ∧ Hp S0 w0 w []) := by
  have H : ((some w_0_count) : Option (Int)) = some r := h
  refine calls_start Try.func40 rfl rfl ?_
  refine L_seq ?_
  refine L_region ?_
  refine F_val rfl rfl rfl (O_assign rfl rfl) ?_
  refine F_nil ?_
  refine L_seq ?_
  refine L_seq ?_
  refine L_region ?_
  refine F_val rfl rfl rfl (O_move rfl rfl) ?_
  refine F_val rfl rfl rfl (O_peq rfl rfl rfl Try.underlying47) ?_
  refine F_nil ?_
  refine L_cond rfl (fun hx => by cases hx) (fun _ => ?_)
  refine L_skip ?_
  refine L_seq ?_
  refine L_region ?_
  refine F_val rfl rfl rfl (O_move rfl rfl) ?_
  refine F_val rfl rfl rfl (O_nilCheck rfl rfl) ?_
  refine F_val rfl rfl rfl (O_fieldB rfl rfl field98_1) ?_
  refine F_val rfl rfl rfl (O_loadB rfl rfl flat3 (HS0.cells_rd (i := 0) rfl) rfl) ?_
  refine F_val rfl rfl rfl (O_assign rfl rfl) ?_
  refine F_nil ?_
  refine L_ret (fun a ha => (post_ret1 ha rfl rfl ?_))
  obtain rfl := Option.some.inj H
  exact ⟨rfl, HS0.sel [] rfl⟩

end Go.Proofs.Ytfglehdaimgaeaa
