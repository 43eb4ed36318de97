import Derived.Test.YtfglehdaimgaeaaChecked
import Derived.Test.YtfglehdaimgaeaaGCodeWordsPure
set_option linter.unusedVariables false
set_option linter.unusedSimpArgs false
set_option maxRecDepth 10000
set_option maxHeartbeats 1000000
namespace Go.Proofs.Ytfglehdaimgaeaa
open Go Go.V Go.V.Pu
theorem mix : Try.prog.follows .mixedOrders = true := by kernel_rfl
theorem info3 : (Try.prog.info? 3).map (fun i => (i.zero, i.size, i.bytes)) = some (some (.int .i64 0), 1, 8) := by kernel_rfl
theorem size3 : (Try.prog.info? 3).map (·.size) = some 1 := by kernel_rfl
theorem nm28 : (Try.f28.name == "runtime.NumGoroutine") = false := by kernel_rfl
theorem nm20 : (Try.f20.name == "runtime.NumGoroutine") = false := by kernel_rfl
theorem zero82 : (Try.prog.info? 82).map (·.zero) = some (some (.agg #[.int .i64 0, .int .i64 0, .int .i64 0, .int .i64 0, .int .i64 0, .int .i64 0, .int .i64 0, .int .i64 0, .int .i64 0, .int .i64 0, .int .i64 0, .int .i64 0, .int .i64 0, .int .i64 0, .int .i64 0, .int .i64 0])) := by kernel_rfl
theorem wide82 : Wide Try.prog 82 16 := Wide.of Try.underlying82 rfl (by kernel_rfl)
theorem size82 : (Try.prog.info? 82).map (·.size) = some 16 := by kernel_rfl
theorem flat3 : Flat Try.prog 3 := Flat.of Try.underlying3 rfl
theorem zarr82 (w : World) : (Instr.build 82 #[]).run Try.prog w = .ok (.agg (rowC (Eint .i64) (List.replicate 16 (0 : Int))).toArray) w := by kernel_rfl
theorem nm57 : (Try.f57.name == "runtime.NumGoroutine") = false := by kernel_rfl
theorem nm58 : (Try.f58.name == "runtime.NumGoroutine") = false := by kernel_rfl
theorem nm62 : (Try.f62.name == "runtime.NumGoroutine") = false := by kernel_rfl
theorem nm61 : (Try.f61.name == "runtime.NumGoroutine") = false := by kernel_rfl
theorem nm25 : (Try.f25.name == "runtime.NumGoroutine") = false := by kernel_rfl
theorem nm59 : (Try.f59.name == "runtime.NumGoroutine") = false := by kernel_rfl
theorem nm74 : (Try.f74.name == "runtime.NumGoroutine") = false := by kernel_rfl
theorem nm60 : (Try.f60.name == "runtime.NumGoroutine") = false := by kernel_rfl
theorem nm22 : (Try.f22.name == "runtime.NumGoroutine") = false := by kernel_rfl
theorem nm26 : (Try.f26.name == "runtime.NumGoroutine") = false := by kernel_rfl
theorem nm23 : (Try.f23.name == "runtime.NumGoroutine") = false := by kernel_rfl
theorem nm15 : (Try.f15.name == "runtime.NumGoroutine") = false := by kernel_rfl
theorem nm24 : (Try.f24.name == "runtime.NumGoroutine") = false := by kernel_rfl
theorem nm18 : (Try.f18.name == "runtime.NumGoroutine") = false := by kernel_rfl
theorem nm27 : (Try.f27.name == "runtime.NumGoroutine") = false := by kernel_rfl
theorem nm19 : (Try.f19.name == "runtime.NumGoroutine") = false := by kernel_rfl
/-! function 28: valise/valiselaw5.copied -/
theorem valiselaw5_copied.calls {S0 : Nat → Prop} {w0 : World} {A_l_0 : Option Addr} {c_l_0 : Nat} {l_l_0 : List Int} {r : List Int} (HS0 : Hp S0 w0 w0 [.rd A_l_0 (rowC (Eint .i64) l_l_0)]) (hc_l_0 : l_l_0.length ≤ c_l_0) (h : valiselaw5_copied.f l_l_0 = some r) :
    Calls Try.prog 28 ([.slice A_l_0 l_l_0.length c_l_0] : List Value).toArray w0 (fun e w => ∃ (A1 : Option Addr), ∃ (c1 : Nat), e = .returned (.slice A1 r.length c1) ∧ Hp S0 w0 w [.own A1 c1 (rowC (Eint .i64) r) 3 (Eint .i64).sz]) := by
  have H : ((gd ((0 : Int) ≤ (l_l_0.length : Int) ∧ (l_l_0.length : Int) ≤ (IntKind.i64.wrap ((l_l_0.length : Int) + 4))) (gd ((IntKind.i64.wrap ((l_l_0.length : Int) + 4)) * 8 ≤ 281474976710656) (bnd (List.replicate ((l_l_0.length : Int) : Int).toNat (0 : Int)) fun l6 => bnd (cpy l6 l_l_0) fun l13 => some l13))) : Option (List Int)) = some r := h
  refine calls_start Try.func28 rfl rfl ?_
  refine L_seq ?_
  refine L_region ?_
  refine F_val rfl rfl rfl (O_assign rfl rfl) ?_
  refine F_nil ?_
  refine L_seq ?_
  refine L_region ?_
  refine F_val rfl rfl rfl (O_move rfl rfl) ?_
  refine F_val rfl rfl rfl (O_len rfl rfl Try.underlying22) ?_
  refine F_val rfl rfl rfl (O_move rfl rfl) ?_
  refine F_val rfl rfl rfl (O_len rfl rfl Try.underlying22) ?_
  refine F_val rfl rfl rfl (O_add rfl rfl rfl) ?_
  obtain ⟨⟨g3, g4⟩, H⟩ := of_gd H
  obtain ⟨g5, H⟩ := of_gd H
  obtain ⟨l6, h7, H⟩ := of_bnd H
  refine F_makeCE (E := (Eint .i64)) rfl rfl rfl rfl rfl rfl Try.underlying22 info3 rfl (by decide) (by decide) g3 g4 g5 HS0 h7 (fun w1 A8 c9 HS2 => ?_)
  have HS2 : Hp S0 w0 w1 [.rd A_l_0 (rowC (Eint .i64) l_l_0), .own A8 c9 (rowC (Eint .i64) l6) 3 (Eint .i64).sz] := HS2
  refine F_val rfl rfl rfl (O_assign rfl rfl) ?_
  refine F_nil ?_
  refine L_seq ?_
  refine L_region ?_
  refine F_val rfl rfl rfl (O_move rfl rfl) ?_
  refine F_val rfl rfl rfl (O_move rfl rfl) ?_
  obtain ⟨l13, h14, H⟩ := of_bnd H
  refine F_copyE (E := (Eint .i64)) (xs := l6) (ys := l_l_0) (i := 1) rfl rfl rfl rfl Try.underlying22 size3 rfl rfl HS2 rfl (HS2.cells_rd (i := 0) rfl) h14 (fun w11 HS12 => ?_)
  have e15 : l6.length = l13.length := by rw [← h14, cpy_length]
  refine F_know (i := 3) rfl (congrArg (fun n => Value.slice A8 n c9) e15) ?_
  have HS12 : Hp S0 w0 w11 [.rd A_l_0 (rowC (Eint .i64) l_l_0), .own A8 c9 (rowC (Eint .i64) l13) 3 (Eint .i64).sz] := HS12
  refine F_nil ?_
  refine L_seq ?_
  refine L_region ?_
  refine F_val rfl rfl rfl (O_move rfl rfl) ?_
  refine F_val rfl rfl rfl (O_assign rfl rfl) ?_
  refine F_nil ?_
  refine L_ret (fun a ha => (post_ret1 ha rfl rfl ?_))
  obtain rfl := Option.some.inj H
  exact ⟨_, _, rfl, HS12.sel [1] rfl⟩

/-! function 20: valise/valiselaw5.framed -/
theorem valiselaw5_framed.calls {S0 : Nat → Prop} {w0 : World} {A_l_0 : Option Addr} {c_l_0 : Nat} {l_l_0 : List Int} {r : List Int} (HS0 : Hp S0 w0 w0 [.rd A_l_0 (rowC (Eint .i64) l_l_0)]) (hc_l_0 : l_l_0.length ≤ c_l_0) (h : valiselaw5_framed.f l_l_0 = some r) :
    Calls Try.prog 20 ([.slice A_l_0 l_l_0.length c_l_0] : List Value).toArray w0 (fun e w => ∃ (A1 : Option Addr), ∃ (c1 : Nat), e = .returned (.slice A1 r.length c1) ∧ Hp S0 w0 w [.own A1 c1 (rowC (Eint .i64) r) 3 (Eint .i64).sz]) := by
  have H : (((valiselaw5_copied.f l_l_0).bind fun z5 => bnd (z5 ++ [(-71), (-72), (-73)]) fun l18 => gd ((l18.length : Int) * 8 ≤ 140737488355328) (some l18)) : Option (List Int)) = some r := h
  refine calls_start Try.func20 rfl rfl ?_
  refine L_seq ?_
  refine L_region ?_
  refine F_val rfl rfl rfl (O_assign rfl rfl) ?_
  refine F_nil ?_
  refine L_seq ?_
  refine L_region ?_
  refine F_val rfl rfl rfl (O_move rfl rfl) ?_
  obtain ⟨z5, h4, H⟩ := of_bind H
  refine F_call (xs := [.tmp 4]) rfl rfl rfl rfl Try.func28 nm28 rfl rfl ((valiselaw5_copied.calls (HS0.give [] rfl (Lent.rd HS0 (Lent.nil) (i := 0) rfl ((HS0.cells_rd (i := 0) rfl).self))) hc_l_0 h4).mono (fun e w hc => ?_))
  obtain ⟨A8, c9, rfl, HSo⟩ := hc
  refine ⟨.slice A8 z5.length c9, rfl, ?_⟩
  have HS7 : Hp S0 w0 w [.rd A_l_0 (rowC (Eint .i64) l_l_0), .own A8 c9 (rowC (Eint .i64) z5) 3 (Eint .i64).sz] := (HS0.back [] HSo rfl).sel [0, 1] rfl
  refine F_val rfl rfl rfl (O_assign rfl rfl) ?_
  refine F_nil ?_
  refine L_seq ?_
  refine L_region ?_
  refine F_val rfl rfl rfl (O_move rfl rfl) ?_
  refine F_litE (E := (Eint .i64)) (e := 3) [(0, .int .i64 (-71)), (1, .int .i64 (-72)), (2, .int .i64 (-73))] [(-71), (-72), (-73)] rfl rfl rfl rfl rfl rfl rfl (by decide) (fun w => by kernel_rfl) HS7 (fun w11 A13 c14 HS12 => ?_)
  have HS12 : Hp S0 w0 w11 [.rd A_l_0 (rowC (Eint .i64) l_l_0), .own A8 c9 (rowC (Eint .i64) z5) 3 (Eint .i64).sz, .own A13 c14 (rowC (Eint .i64) [(-71), (-72), (-73)]) 3 (Eint .i64).sz] := HS12
  obtain ⟨l18, h19, H⟩ := of_bnd H
  obtain ⟨g20, H⟩ := of_gd H
  refine F_appE (E := (Eint .i64)) (xs := z5) (ys := [(-71), (-72), (-73)]) (i := 1) rfl rfl rfl rfl Try.underlying22 info3 rfl (by decide) (by decide) rfl rfl HS12 rfl (HS12.cells_own (i := 2) rfl) h19 g20 (fun w16 A21 c22 HS17 => ?_)
  have HS17 : Hp S0 w0 w16 [.rd A_l_0 (rowC (Eint .i64) l_l_0), .own A21 c22 (rowC (Eint .i64) l18) 3 (Eint .i64).sz, .own A13 c14 (rowC (Eint .i64) [(-71), (-72), (-73)]) 3 (Eint .i64).sz] := HS17
  refine F_val rfl rfl rfl (O_assign rfl rfl) ?_
  refine F_nil ?_
  refine L_ret (fun a ha => (post_ret1 ha rfl rfl ?_))
  obtain rfl := Option.some.inj H
  exact ⟨_, _, rfl, HS17.sel [1] rfl⟩

/-! function 57: valise/code.count -/
theorem code_count.calls {S0 : Nat → Prop} {w0 : World} {A_lens_0 : Option Addr} {c_lens_0 : Nat} {l_lens_0 : List Int} {r : List Int × Int} (HS0 : Hp S0 w0 w0 [.rd A_lens_0 (rowC (Eint .i64) l_lens_0)]) (hc_lens_0 : l_lens_0.length ≤ c_lens_0) (h : code_count.f l_lens_0 = some r) :
    Calls Try.prog 57 ([.slice A_lens_0 l_lens_0.length c_lens_0] : List Value).toArray w0 (fun e w => e = .returned (.tuple #[.agg (rowC (Eint .i64) r.1).toArray, .int .i64 r.2]) ∧ Hp S0 w0 w []) := by
  have H : ((if 288 < (l_lens_0.length : Int) then (some ((List.replicate 16 (0 : Int)), 1)) else ((code_count.l1 FU (List.replicate 16 (0 : Int)) 0 l_lens_0).bind fun (yj12 : Sum (List Int × Int) (List Int)) => onR yj12 (fun r => some r) fun y83 => gd (y83.length = 16) (bnd (y83.set (0 : Int).toNat 0) fun l158 => some (l158, 0)))) : Option (List Int × Int)) = some r := h
  refine calls_start Try.func57 rfl rfl ?_
  refine L_seq ?_
  refine L_region ?_
  refine F_alloc (C := rowC (Eint .i64) (List.replicate 16 (0 : Int))) rfl rfl rfl rfl zero82 rfl HS0 (fun w1 g3 HS2 => ?_)
  have HS2 : Hp S0 w0 w1 [.rd A_lens_0 (rowC (Eint .i64) l_lens_0), .box g3 (rowC (Eint .i64) (List.replicate 16 (0 : Int))) 82] := HS2
  refine F_val rfl rfl rfl (O_assign rfl rfl) ?_
  refine F_nil ?_
  refine L_seq ?_
  refine L_region ?_
  refine F_alloc (C := rowC (Eint .i64) (List.replicate 16 (0 : Int))) rfl rfl rfl rfl zero82 rfl HS2 (fun w5 g7 HS6 => ?_)
  have HS6 : Hp S0 w0 w5 [.rd A_lens_0 (rowC (Eint .i64) l_lens_0), .box g3 (rowC (Eint .i64) (List.replicate 16 (0 : Int))) 82, .box g7 (rowC (Eint .i64) (List.replicate 16 (0 : Int))) 82] := HS6
  refine F_nil ?_
  refine L_seq ?_
  refine L_seq ?_
  refine L_region ?_
  refine F_val rfl rfl rfl (O_move rfl rfl) ?_
  refine F_val rfl rfl rfl (O_len rfl rfl Try.underlying22) ?_
  refine F_val rfl rfl rfl (O_gt rfl rfl rfl) ?_
  refine F_nil ?_
  refine L_condP rfl (fun c9 => ?_) (fun c9 => ?_)
  · have H := of_pos H c9
    refine L_seq ?_
    refine L_region ?_
    refine F_val rfl rfl rfl (O_loadSg [] (rowC (Eint .i64) (List.replicate 16 (0 : Int))) [] rfl rfl wide82 (HS6.cells_box (i := 2) rfl) (by simp only [List.append_assoc, List.cons_append, List.nil_append, List.append_nil]) rfl (row_len List.length_replicate) (by decide)) ?_
    refine F_stSg 1 (rowC (Eint .i64) (List.replicate 16 (0 : Int))) [] (rowC (Eint .i64) (List.replicate 16 (0 : Int))) (rowC (Eint .i64) (List.replicate 16 (0 : Int))) [] rfl rfl rfl rfl rfl size82 HS6 rfl rfl ones_row (by simp only [List.append_assoc, List.cons_append, List.nil_append, List.append_nil]) (by simp only [List.append_assoc, List.cons_append, List.nil_append, List.append_nil]) rfl (row_len List.length_replicate) (row_len List.length_replicate) (fun w10 HS11 => ?_)
    have HS11 : Hp S0 w0 w10 [.rd A_lens_0 (rowC (Eint .i64) l_lens_0), .box g3 (rowC (Eint .i64) (List.replicate 16 (0 : Int))) 82, .box g7 (rowC (Eint .i64) (List.replicate 16 (0 : Int))) 82] := HS11
    refine F_val rfl rfl rfl (O_assign rfl rfl) ?_
    refine F_nil ?_
    refine L_ret (fun a ha => (post_retc2 ha rfl rfl wide82 (HS11.cells_box (i := 1) rfl) (row_len List.length_replicate) (by decide) rfl ?_))
    obtain rfl := Option.some.inj H
    exact ⟨rfl, HS11.sel [] rfl⟩
  · have H := of_neg H c9
    refine L_skip ?_
    refine L_seq ?_
    refine L_seq ?_
    refine L_region ?_
    refine F_val rfl rfl rfl (O_move rfl rfl) ?_
    refine F_val rfl rfl rfl (O_len rfl rfl Try.underlying22) ?_
    refine F_val rfl rfl rfl (O_move rfl rfl) ?_
    refine F_nil ?_
    obtain ⟨yj12, Hyj12, H⟩ := of_bind H
    refine L_join (fun a w => ∃ (y83 : List Int), yj12 = Sum.inr y83 ∧ Is Try.f57.ntmps a [(2, .pointer (some ⟨g3, 0, none⟩)), (4, .pointer (some ⟨g7, 0, none⟩))] ∧ Hp S0 w0 w [.rd A_lens_0 (rowC (Eint .i64) l_lens_0), .box g3 (rowC (Eint .i64) (List.replicate 16 (0 : Int))) 82, .box g7 (rowC (Eint .i64) y83) 82]) (fun Qj12 hNj12 hOj12 => ?_) (fun a w hR => ?_)
    · have HOj12 := H
      have H := Hyj12
      refine L_blk (fun Qb84 hNb84 hXb84 hOb84 => ?_)
      refine L_lp (fun k a w => ∃ (y129 : List Int), ∃ (t130 : Int), Is Try.f57.ntmps a [(2, .pointer (some ⟨g3, 0, none⟩)), (4, .pointer (some ⟨g7, 0, none⟩)), (11, .slice A_lens_0 l_lens_0.length c_lens_0), (12, .int .i64 (l_lens_0.length : Int)), (13, .int .i64 t130)] ∧ Hp S0 w0 w [.rd A_lens_0 (rowC (Eint .i64) l_lens_0), .box g3 (rowC (Eint .i64) (List.replicate 16 (0 : Int))) 82, .box g7 (rowC (Eint .i64) y129) 82] ∧ code_count.l1 k y129 t130 l_lens_0 = some yj12) FU (fun a ha => ⟨_, _, Is.cons ha (Is.cons ha (Is.cons ha (Is.cons ha (Is.cons ha (Is.nil ha) rfl) rfl) rfl) rfl) rfl, HS6.sel [0, 1, 2] rfl, H⟩) (fun kp128 a w131 hI Qp128 hNp128 hOp128 => ?_)
      obtain ⟨y129, t130, ha, HS132, HAp128⟩ := hI
      cases kp128 with
      | zero => cases (show (none : Option _) = some _ from HAp128)
      | succ kp128 =>
        have H := (code_count.l1.eq_2 ..).symm.trans HAp128
        refine wpLF_app ?_ ha
        refine L_seq ?_
        refine L_region ?_
        refine F_val rfl rfl rfl (O_lt rfl rfl rfl) ?_
        refine F_nil ?_
        refine L_seq ?_
        refine L_condP rfl (fun c133 => ?_) (fun c133 => ?_)
        · have H := of_pos H c133
          refine L_skip ?_
          refine L_seq ?_
          refine L_blk (fun Q134 hN134 hX134 hO134 => ?_)
          refine L_seq ?_
          refine L_region ?_
          obtain ⟨⟨g135, g136⟩, H⟩ := of_gd H
          refine F_val rfl rfl rfl (O_idx rfl rfl rfl Try.underlying22 size3 g135 g136 (Cells.isA (HS132.cells_rd (i := 0) rfl) (rowC_ne (E := (Eint .i64)) g135 g136 (by decide)))) ?_
          refine F_val rfl rfl rfl (O_loadC rfl rfl flat3 (HS132.cells_rd (i := 0) rfl) (int_cell g135 g136)) ?_
          obtain ⟨x137, h138, H⟩ := of_bnd H
          refine F_val rfl rfl rfl (O_assign' rfl rfl (congrArg (Value.int .i64) h138)) ?_
          refine F_nil ?_
          refine L_seq ?_
          refine L_seq ?_
          refine L_region ?_
          refine F_val rfl rfl rfl (O_move rfl rfl) ?_
          refine F_val rfl rfl rfl (O_lt rfl rfl rfl) ?_
          refine F_val rfl rfl rfl (O_move rfl rfl) ?_
          refine F_grp 3 [(22, .bool (decide ((x137 < 0) ∨ (15 < x137)))), (2, .pointer (some ⟨g3, 0, none⟩)), (4, .pointer (some ⟨g7, 0, none⟩)), (6, .int .i64 x137), (11, .slice A_lens_0 l_lens_0.length c_lens_0), (12, .int .i64 (l_lens_0.length : Int)), (13, .int .i64 t130)] ?_ ?_
          · rcases Decidable.em (x137 < 0) with c142 | c142
            · refine F_know (i := 19) rfl (dec_t c142) ?_
              refine F_gskip rfl rfl rfl rfl rfl rfl rfl ?_
              refine F_gskip rfl rfl rfl rfl rfl rfl rfl ?_
              refine F_val rfl rfl rfl (O_pickT rfl rfl rfl) ?_
              refine F_know (i := 22) rfl (dec_or_t (q := 15 < x137) c142) ?_
              exact F_grpE (fun a ha => Is.cons ha (Is.cons ha (Is.cons ha (Is.cons ha (Is.cons ha (Is.cons ha (Is.cons ha (Is.nil ha) rfl) rfl) rfl) rfl) rfl) rfl) rfl)
            · refine F_know (i := 19) rfl (dec_f c142) ?_
              refine F_gval rfl rfl rfl rfl rfl rfl (O_move rfl rfl) ?_
              refine F_gval rfl rfl rfl rfl rfl rfl (O_gt rfl rfl rfl) ?_
              refine F_val rfl rfl rfl (O_pickF rfl rfl rfl) ?_
              refine F_know (i := 22) rfl (dec_or_f (q := 15 < x137) c142) ?_
              exact F_grpE (fun a ha => Is.cons ha (Is.cons ha (Is.cons ha (Is.cons ha (Is.cons ha (Is.cons ha (Is.cons ha (Is.nil ha) rfl) rfl) rfl) rfl) rfl) rfl) rfl)
          · skip
            refine F_nil ?_
            refine L_condP rfl (fun c143 => ?_) (fun c143 => ?_)
            · have H := of_pos H c143
              refine L_seq ?_
              refine L_region ?_
              refine F_val rfl rfl rfl (O_build (vs := []) (v := .agg (rowC (Eint .i64) (List.replicate 16 (0 : Int))).toArray) rfl rfl rfl zarr82) ?_
              refine F_stSg 1 (rowC (Eint .i64) (List.replicate 16 (0 : Int))) [] (rowC (Eint .i64) (List.replicate 16 (0 : Int))) (rowC (Eint .i64) (List.replicate 16 (0 : Int))) [] rfl rfl rfl rfl rfl size82 HS132 rfl rfl ones_row (by simp only [List.append_assoc, List.cons_append, List.nil_append, List.append_nil]) (by simp only [List.append_assoc, List.cons_append, List.nil_append, List.append_nil]) rfl (row_len List.length_replicate) (row_len List.length_replicate) (fun w144 HS145 => ?_)
              have HS145 : Hp S0 w0 w144 [.rd A_lens_0 (rowC (Eint .i64) l_lens_0), .box g3 (rowC (Eint .i64) (List.replicate 16 (0 : Int))) 82, .box g7 (rowC (Eint .i64) y129) 82] := HS145
              refine F_val rfl rfl rfl (O_assign rfl rfl) ?_
              refine F_nil ?_
              refine L_ret (fun a ha => (hO134 .ret a _ rfl (hOp128 .ret a _ rfl (hOb84 .ret a _ rfl (hOj12 .ret a _ rfl (post_retc2 ha rfl rfl wide82 (HS145.cells_box (i := 1) rfl) (row_len List.length_replicate) (by decide) rfl ?_))))))
              obtain rfl := Option.some.inj H
              obtain rfl := Option.some.inj (show (some ((List.replicate 16 (0 : Int)), 50) : Option (List Int × Int)) = some _ from HOj12)
              exact ⟨rfl, HS145.sel [] rfl⟩
            · have H := of_neg H c143
              refine L_skip ?_
              refine L_region ?_
              refine F_val rfl rfl rfl (O_move rfl rfl) ?_
              obtain ⟨⟨g146, g147⟩, H⟩ := of_gd H
              refine F_val rfl rfl rfl (O_idxA rfl rfl rfl Try.underlying82 size3 g146 g147) ?_
              obtain ⟨g148, H⟩ := of_gd H
              refine F_val rfl rfl rfl (O_loadB rfl rfl flat3 (HS132.cells_box (i := 2) rfl) (at0 (int_cell g146 (arr_lt g148 g147)))) ?_
              refine F_val rfl rfl rfl (O_add rfl rfl rfl) ?_
              refine F_val rfl rfl rfl (O_idxA rfl rfl rfl Try.underlying82 size3 g146 g147) ?_
              obtain ⟨l151, h152, H⟩ := of_bnd H
              refine F_stAr (E := (Eint .i64)) (xs := y129) (q := x137) (a := IntKind.i64.wrap ((rd y129 x137) + 1)) (off := 0) 2 (rowC (Eint .i64) l151) [] [] rfl rfl rfl rfl rfl size3 HS132 rfl rfl (by simp only [List.append_assoc, List.cons_append, List.nil_append, List.append_nil]) rfl g146 (arr_lt g148 g147) h152 (by simp only [List.append_assoc, List.cons_append, List.nil_append, List.append_nil]) (fun w149 HS150 => ?_)
              have hl153 : l151.length = 16 := by rw [← h152, List.length_set]; exact g148
              have HS150 : Hp S0 w0 w149 [.rd A_lens_0 (rowC (Eint .i64) l_lens_0), .box g3 (rowC (Eint .i64) (List.replicate 16 (0 : Int))) 82, .box g7 (rowC (Eint .i64) l151) 82] := HS150
              refine F_nil ?_
              refine L_endB hN134 ?_
              refine L_region ?_
              refine F_val rfl rfl rfl (O_add rfl rfl rfl) ?_
              refine F_val rfl rfl rfl (O_move rfl rfl) ?_
              refine F_nil ?_
              refine L_nil (fun a ha => hNp128 _ a _ (Nat.lt_succ_self _) ⟨_, _, Is.cons ha (Is.cons ha (Is.cons ha (Is.cons ha (Is.cons ha (Is.nil ha) rfl) rfl) rfl) rfl) rfl, HS150.sel [0, 1, 2] rfl, H⟩)
        · have H := of_neg H c133
          refine L_exitB (fun a w h => hOp128 (.exit 0) a w rfl (hXb84 a w h)) ?_
          refine L_nil (fun a ha => hNj12 a _ ⟨_, (Option.some.inj H).symm, Is.cons ha (Is.cons ha (Is.nil ha) rfl) rfl, HS132.sel [0, 1, 2] rfl⟩)
    · obtain ⟨y83, rfl, ha, HS155⟩ := hR
      refine wpLF_app ?_ ha
      have H := (onR_inr _ _ _).symm.trans H
      refine L_seq ?_
      refine L_region ?_
      refine F_val rfl rfl rfl (O_idxA rfl rfl rfl Try.underlying82 size3 (by decide) (by decide)) ?_
      obtain ⟨g160, H⟩ := of_gd H
      obtain ⟨l158, h159, H⟩ := of_bnd H
      refine F_stAr (E := (Eint .i64)) (xs := y83) (q := 0) (a := 0) (off := 0) 2 (rowC (Eint .i64) l158) [] [] rfl rfl rfl rfl rfl size3 HS155 rfl rfl (by simp only [List.append_assoc, List.cons_append, List.nil_append, List.append_nil]) rfl (by decide) (arr_lt g160 (by decide)) h159 (by simp only [List.append_assoc, List.cons_append, List.nil_append, List.append_nil]) (fun w156 HS157 => ?_)
      have hl161 : l158.length = 16 := by rw [← h159, List.length_set]; exact g160
      have HS157 : Hp S0 w0 w156 [.rd A_lens_0 (rowC (Eint .i64) l_lens_0), .box g3 (rowC (Eint .i64) (List.replicate 16 (0 : Int))) 82, .box g7 (rowC (Eint .i64) l158) 82] := HS157
      refine F_nil ?_
      refine L_seq ?_
      refine L_region ?_
      refine F_val rfl rfl rfl (O_loadSg [] (rowC (Eint .i64) l158) [] rfl rfl wide82 (HS157.cells_box (i := 2) rfl) (by simp only [List.append_assoc, List.cons_append, List.nil_append, List.append_nil]) rfl (row_len hl161) (by decide)) ?_
      refine F_stSg 1 (rowC (Eint .i64) l158) [] (rowC (Eint .i64) (List.replicate 16 (0 : Int))) (rowC (Eint .i64) l158) [] rfl rfl rfl rfl rfl size82 HS157 rfl rfl ones_row (by simp only [List.append_assoc, List.cons_append, List.nil_append, List.append_nil]) (by simp only [List.append_assoc, List.cons_append, List.nil_append, List.append_nil]) rfl (row_len List.length_replicate) (row_len hl161) (fun w162 HS163 => ?_)
      have HS163 : Hp S0 w0 w162 [.rd A_lens_0 (rowC (Eint .i64) l_lens_0), .box g3 (rowC (Eint .i64) l158) 82, .box g7 (rowC (Eint .i64) l158) 82] := HS163
      refine F_val rfl rfl rfl (O_assign rfl rfl) ?_
      refine F_nil ?_
      refine L_ret (fun a ha => (post_retc2 ha rfl rfl wide82 (HS163.cells_box (i := 1) rfl) (row_len hl161) (by decide) rfl ?_))
      obtain rfl := Option.some.inj H
      exact ⟨rfl, HS163.sel [] rfl⟩

/-! function 58: valise/code.shape -/
theorem code_shape.calls {S0 : Nat → Prop} {w0 : World} {l_n_0 : List Int} {r : Int} (HS0 : Hp S0 w0 w0 []) (h : code_shape.f l_n_0 = some r) :
    Calls Try.prog 58 ([.agg (rowC (Eint .i64) l_n_0).toArray] : List Value).toArray w0 (fun e w => e = .returned (.int .i64 r) ∧ Hp S0 w0 w []) := by
  have H : (((code_shape.l1 FU 0 0 1 l_n_0).bind fun (words_49, used_50) => if words_49 = 0 then (some 0) else ((if words_49 = 1 then (gd (l_n_0.length = 16) (some (decide (rd l_n_0 1 = 1)))) else (some false)).bind fun b99 => if b99 = true then (some 1) else (if 32768 < used_50 then (some 3) else (if used_50 = 32768 then (some 4) else (some 2))))) : Option (Int)) = some r := h
  refine calls_start Try.func58 rfl rfl ?_
  refine L_seq ?_
  refine L_region ?_
  refine F_box (C := rowC (Eint .i64) l_n_0) rfl rfl rfl rfl rfl rfl HS0 (fun w1 g3 HS2 => ?_)
  have HS2 : Hp S0 w0 w1 [.box g3 (rowC (Eint .i64) l_n_0) 82] := HS2
  refine F_val rfl rfl rfl (O_assign rfl rfl) ?_
  refine F_nil ?_
  refine L_seq ?_
  refine L_region ?_
  refine F_val rfl rfl rfl (O_assign rfl rfl) ?_
  refine F_val rfl rfl rfl (O_assign rfl rfl) ?_
  refine F_nil ?_
  refine L_seq ?_
  refine L_seq ?_
  refine L_region ?_
  refine F_val rfl rfl rfl (O_assign rfl rfl) ?_
  refine F_nil ?_
  obtain ⟨yj5, Hyj5, H⟩ := of_bind H
  refine L_join (fun a w => ∃ (words_49 : Int), ∃ (used_50 : Int), yj5 = (words_49, used_50) ∧ Is Try.f58.ntmps a [(1, .pointer (some ⟨g3, 0, none⟩)), (3, .int .i64 words_49), (4, .int .i64 used_50)] ∧ Hp S0 w0 w [.box g3 (rowC (Eint .i64) l_n_0) 82]) (fun Qj5 hNj5 hOj5 => ?_) (fun a w hR => ?_)
  · skip
    have H := Hyj5
    refine L_blk (fun Qb51 hNb51 hXb51 hOb51 => ?_)
    refine L_lp (fun k a w => ∃ (words_77 : Int), ∃ (used_78 : Int), ∃ (l_79 : Int), Is Try.f58.ntmps a [(1, .pointer (some ⟨g3, 0, none⟩)), (3, .int .i64 words_77), (4, .int .i64 used_78), (5, .int .i64 l_79)] ∧ Hp S0 w0 w [.box g3 (rowC (Eint .i64) l_n_0) 82] ∧ code_shape.l1 k words_77 used_78 l_79 l_n_0 = some yj5) FU (fun a ha => ⟨_, _, _, Is.cons ha (Is.cons ha (Is.cons ha (Is.cons ha (Is.nil ha) rfl) rfl) rfl) rfl, HS2.sel [0] rfl, H⟩) (fun kp76 a w80 hI Qp76 hNp76 hOp76 => ?_)
    obtain ⟨words_77, used_78, l_79, ha, HS81, HAp76⟩ := hI
    cases kp76 with
    | zero => cases (show (none : Option _) = some _ from HAp76)
    | succ kp76 =>
      have H := (code_shape.l1.eq_2 ..).symm.trans HAp76
      refine wpLF_app ?_ ha
      refine L_seq ?_
      refine L_seq ?_
      refine L_region ?_
      refine F_val rfl rfl rfl (O_move rfl rfl) ?_
      refine F_val rfl rfl rfl (O_le rfl rfl rfl) ?_
      refine F_nil ?_
      refine L_condP rfl (fun c82 => ?_) (fun c82 => ?_)
      · have H := of_pos H c82
        refine L_skip ?_
        refine L_seq ?_
        refine L_blk (fun Q83 hN83 hX83 hO83 => ?_)
        refine L_seq ?_
        refine L_region ?_
        refine F_val rfl rfl rfl (O_move rfl rfl) ?_
        refine F_val rfl rfl rfl (O_move rfl rfl) ?_
        obtain ⟨⟨g84, g85⟩, H⟩ := of_gd H
        refine F_val rfl rfl rfl (O_idxA rfl rfl rfl Try.underlying82 size3 g84 g85) ?_
        obtain ⟨g86, H⟩ := of_gd H
        refine F_val rfl rfl rfl (O_loadB rfl rfl flat3 (HS81.cells_box (i := 0) rfl) (at0 (int_cell g84 (arr_lt g86 g85)))) ?_
        refine F_val rfl rfl rfl (O_add rfl rfl rfl) ?_
        obtain ⟨x87, h88, H⟩ := of_bnd H
        refine F_val rfl rfl rfl (O_assign' rfl rfl (congrArg (Value.int .i64) h88)) ?_
        refine F_nil ?_
        refine L_region ?_
        refine F_val rfl rfl rfl (O_move rfl rfl) ?_
        refine F_val rfl rfl rfl (O_move rfl rfl) ?_
        refine F_val rfl rfl rfl (O_idxA rfl rfl rfl Try.underlying82 size3 g84 g85) ?_
        refine F_val rfl rfl rfl (O_loadB rfl rfl flat3 (HS81.cells_box (i := 0) rfl) (at0 (int_cell g84 (arr_lt g86 g85)))) ?_
        refine F_val rfl rfl rfl (O_move rfl rfl) ?_
        refine F_val rfl rfl rfl (O_sub rfl rfl rfl) ?_
        obtain ⟨g89, H⟩ := of_gd H
        refine F_val rfl rfl rfl (O_shl rfl rfl rfl g89) ?_
        refine F_val rfl rfl rfl (O_add rfl rfl rfl) ?_
        obtain ⟨x90, h91, H⟩ := of_bnd H
        refine F_val rfl rfl rfl (O_assign' rfl rfl (congrArg (Value.int .i64) h91)) ?_
        refine F_nil ?_
        refine L_endB hN83 ?_
        refine L_region ?_
        refine F_val rfl rfl rfl (O_move rfl rfl) ?_
        refine F_val rfl rfl rfl (O_add rfl rfl rfl) ?_
        obtain ⟨x92, h93, H⟩ := of_bnd H
        refine F_val rfl rfl rfl (O_assign' rfl rfl (congrArg (Value.int .i64) h93)) ?_
        refine F_nil ?_
        refine L_nil (fun a ha => hNp76 _ a _ (Nat.lt_succ_self _) ⟨_, _, _, Is.cons ha (Is.cons ha (Is.cons ha (Is.cons ha (Is.nil ha) rfl) rfl) rfl) rfl, HS81.sel [0] rfl, H⟩)
      · have H := of_neg H c82
        refine L_exitB (fun a w h => hOp76 (.exit 0) a w rfl (hXb51 a w h)) ?_
        refine L_nil (fun a ha => hNj5 a _ ⟨_, _, (Option.some.inj H).symm, Is.cons ha (Is.cons ha (Is.cons ha (Is.nil ha) rfl) rfl) rfl, HS81.sel [0] rfl⟩)
  · obtain ⟨words_49, used_50, rfl, ha, HS95⟩ := hR
    refine wpLF_app ?_ ha
    refine L_seq ?_
    refine L_blk (fun Q96 hN96 hX96 hO96 => ?_)
    refine L_seq ?_
    refine L_region ?_
    refine F_val rfl rfl rfl (O_move rfl rfl) ?_
    refine F_val rfl rfl rfl (O_eq rfl rfl rfl) ?_
    refine F_val rfl rfl rfl (O_assign rfl rfl) ?_
    refine F_nil ?_
    refine L_condP rfl (fun c97 => ?_) (fun c97 => ?_)
    · have H := of_pos H c97
      refine L_seq ?_
      refine L_region ?_
      refine F_val rfl rfl rfl (O_assign rfl rfl) ?_
      refine F_nil ?_
      refine L_ret (fun a ha => (hO96 .ret a _ rfl (post_ret1 ha rfl rfl ?_)))
      obtain rfl := Option.some.inj H
      exact ⟨rfl, HS95.sel [] rfl⟩
    · have H := of_neg H c97
      refine L_seq ?_
      refine L_region ?_
      refine F_val rfl rfl rfl (O_move rfl rfl) ?_
      refine F_val rfl rfl rfl (O_eq rfl rfl rfl) ?_
      refine F_val rfl rfl rfl (O_move rfl rfl) ?_
      obtain ⟨b99, Hb99, H⟩ := of_bind H
      refine F_grp 4 [(33, .bool b99), (4, .int .i64 used_50)] ?_ ?_
      · rcases Decidable.em (words_49 = 1) with c103 | c103
        · refine F_know (i := 29) rfl (dec_t c103) ?_
          have H := of_pos Hb99 c103
          refine F_gval rfl rfl rfl rfl rfl rfl (O_idxA rfl rfl rfl Try.underlying82 size3 (by decide) (by decide)) ?_
          obtain ⟨g104, H⟩ := of_gd H
          refine F_gval rfl rfl rfl rfl rfl rfl (O_loadB rfl rfl flat3 (HS95.cells_box (i := 0) rfl) (at0 (int_cell (by decide) (arr_lt g104 (by decide))))) ?_
          refine F_gval rfl rfl rfl rfl rfl rfl (O_eq rfl rfl rfl) ?_
          refine F_val rfl rfl rfl (O_pickT rfl rfl rfl) ?_
          refine F_know (i := 33) rfl (congrArg Value.bool (Option.some.inj H)) ?_
          exact F_grpE (fun a ha => Is.cons ha (Is.cons ha (Is.nil ha) rfl) rfl)
        · refine F_know (i := 29) rfl (dec_f c103) ?_
          have H := of_neg Hb99 c103
          refine F_gskip rfl rfl rfl rfl rfl rfl rfl ?_
          refine F_gskip rfl rfl rfl rfl rfl rfl rfl ?_
          refine F_gskip rfl rfl rfl rfl rfl rfl rfl ?_
          refine F_val rfl rfl rfl (O_pickF rfl rfl rfl) ?_
          refine F_know (i := 33) rfl (congrArg Value.bool (Option.some.inj H)) ?_
          exact F_grpE (fun a ha => Is.cons ha (Is.cons ha (Is.nil ha) rfl) rfl)
      · skip
        refine F_val rfl rfl rfl (O_assign rfl rfl) ?_
        refine F_nil ?_
        refine L_cond rfl (fun c105 => ?_) (fun c105 => ?_)
        · have H := of_pos H c105
          refine L_seq ?_
          refine L_region ?_
          refine F_val rfl rfl rfl (O_assign rfl rfl) ?_
          refine F_nil ?_
          refine L_ret (fun a ha => (hO96 .ret a _ rfl (post_ret1 ha rfl rfl ?_)))
          obtain rfl := Option.some.inj H
          exact ⟨rfl, HS95.sel [] rfl⟩
        · have H := of_neg H (by rw [c105]; exact Bool.false_ne_true)
          refine L_seq ?_
          refine L_region ?_
          refine F_val rfl rfl rfl (O_move rfl rfl) ?_
          refine F_val rfl rfl rfl (O_gt rfl rfl rfl) ?_
          refine F_val rfl rfl rfl (O_assign rfl rfl) ?_
          refine F_nil ?_
          refine L_condP rfl (fun c106 => ?_) (fun c106 => ?_)
          · have H := of_pos H c106
            refine L_seq ?_
            refine L_region ?_
            refine F_val rfl rfl rfl (O_assign rfl rfl) ?_
            refine F_nil ?_
            refine L_ret (fun a ha => (hO96 .ret a _ rfl (post_ret1 ha rfl rfl ?_)))
            obtain rfl := Option.some.inj H
            exact ⟨rfl, HS95.sel [] rfl⟩
          · have H := of_neg H c106
            refine L_seq ?_
            refine L_region ?_
            refine F_val rfl rfl rfl (O_move rfl rfl) ?_
            refine F_val rfl rfl rfl (O_eq rfl rfl rfl) ?_
            refine F_val rfl rfl rfl (O_assign rfl rfl) ?_
            refine F_nil ?_
            refine L_condP rfl (fun c107 => ?_) (fun c107 => ?_)
            · have H := of_pos H c107
              refine L_seq ?_
              refine L_region ?_
              refine F_val rfl rfl rfl (O_assign rfl rfl) ?_
              refine F_nil ?_
              refine L_ret (fun a ha => (hO96 .ret a _ rfl (post_ret1 ha rfl rfl ?_)))
              obtain rfl := Option.some.inj H
              exact ⟨rfl, HS95.sel [] rfl⟩
            · have H := of_neg H c107
              refine L_skip ?_
              refine L_endB hN96 ?_
              refine L_seq ?_
              refine L_region ?_
              refine F_val rfl rfl rfl (O_assign rfl rfl) ?_
              refine F_nil ?_
              refine L_ret (fun a ha => (post_ret1 ha rfl rfl ?_))
              obtain rfl := Option.some.inj H
              exact ⟨rfl, HS95.sel [] rfl⟩

/-! function 62: valise/code.first -/
theorem code_first.calls {S0 : Nat → Prop} {w0 : World} {l_n_0 : List Int} {r : List Int} (HS0 : Hp S0 w0 w0 []) (h : code_first.f l_n_0 = some r) :
    Calls Try.prog 62 ([.agg (rowC (Eint .i64) l_n_0).toArray] : List Value).toArray w0 (fun e w => e = .returned (.agg (rowC (Eint .i64) r).toArray) ∧ Hp S0 w0 w []) := by
  have H : (((code_first.l1 FU (List.replicate 16 (0 : Int)) 0 1 l_n_0).bind fun y71 => gd (y71.length = 16) (some y71)) : Option (List Int)) = some r := h
  refine calls_start Try.func62 rfl rfl ?_
  refine L_seq ?_
  refine L_region ?_
  refine F_box (C := rowC (Eint .i64) l_n_0) rfl rfl rfl rfl rfl rfl HS0 (fun w1 g3 HS2 => ?_)
  have HS2 : Hp S0 w0 w1 [.box g3 (rowC (Eint .i64) l_n_0) 82] := HS2
  refine F_alloc (C := rowC (Eint .i64) (List.replicate 16 (0 : Int))) rfl rfl rfl rfl zero82 rfl HS2 (fun w5 g7 HS6 => ?_)
  have HS6 : Hp S0 w0 w5 [.box g3 (rowC (Eint .i64) l_n_0) 82, .box g7 (rowC (Eint .i64) (List.replicate 16 (0 : Int))) 82] := HS6
  refine F_nil ?_
  refine L_seq ?_
  refine L_region ?_
  refine F_alloc (C := rowC (Eint .i64) (List.replicate 16 (0 : Int))) rfl rfl rfl rfl zero82 rfl HS6 (fun w9 g11 HS10 => ?_)
  have HS10 : Hp S0 w0 w9 [.box g3 (rowC (Eint .i64) l_n_0) 82, .box g7 (rowC (Eint .i64) (List.replicate 16 (0 : Int))) 82, .box g11 (rowC (Eint .i64) (List.replicate 16 (0 : Int))) 82] := HS10
  refine F_nil ?_
  refine L_seq ?_
  refine L_region ?_
  refine F_val rfl rfl rfl (O_assign rfl rfl) ?_
  refine F_nil ?_
  refine L_seq ?_
  refine L_seq ?_
  refine L_region ?_
  refine F_val rfl rfl rfl (O_assign rfl rfl) ?_
  refine F_nil ?_
  obtain ⟨yj13, Hyj13, H⟩ := of_bind H
  refine L_join (fun a w => ∃ (y71 : List Int), yj13 = y71 ∧ Is Try.f62.ntmps a [(2, .pointer (some ⟨g7, 0, none⟩)), (3, .pointer (some ⟨g11, 0, none⟩))] ∧ Hp S0 w0 w [.box g7 (rowC (Eint .i64) (List.replicate 16 (0 : Int))) 82, .box g11 (rowC (Eint .i64) y71) 82]) (fun Qj13 hNj13 hOj13 => ?_) (fun a w hR => ?_)
  · skip
    have H := Hyj13
    refine L_blk (fun Qb72 hNb72 hXb72 hOb72 => ?_)
    refine L_lp (fun k a w => ∃ (y107 : List Int), ∃ (word_108 : Int), ∃ (l_109 : Int), Is Try.f62.ntmps a [(1, .pointer (some ⟨g3, 0, none⟩)), (2, .pointer (some ⟨g7, 0, none⟩)), (3, .pointer (some ⟨g11, 0, none⟩)), (4, .int .i64 word_108), (5, .int .i64 l_109)] ∧ Hp S0 w0 w [.box g3 (rowC (Eint .i64) l_n_0) 82, .box g7 (rowC (Eint .i64) (List.replicate 16 (0 : Int))) 82, .box g11 (rowC (Eint .i64) y107) 82] ∧ code_first.l1 k y107 word_108 l_109 l_n_0 = some yj13) FU (fun a ha => ⟨_, _, _, Is.cons ha (Is.cons ha (Is.cons ha (Is.cons ha (Is.cons ha (Is.nil ha) rfl) rfl) rfl) rfl) rfl, HS10.sel [0, 1, 2] rfl, H⟩) (fun kp106 a w110 hI Qp106 hNp106 hOp106 => ?_)
    obtain ⟨y107, word_108, l_109, ha, HS111, HAp106⟩ := hI
    cases kp106 with
    | zero => cases (show (none : Option _) = some _ from HAp106)
    | succ kp106 =>
      have H := (code_first.l1.eq_2 ..).symm.trans HAp106
      refine wpLF_app ?_ ha
      refine L_seq ?_
      refine L_seq ?_
      refine L_region ?_
      refine F_val rfl rfl rfl (O_move rfl rfl) ?_
      refine F_val rfl rfl rfl (O_le rfl rfl rfl) ?_
      refine F_nil ?_
      refine L_condP rfl (fun c112 => ?_) (fun c112 => ?_)
      · have H := of_pos H c112
        refine L_skip ?_
        refine L_seq ?_
        refine L_blk (fun Q113 hN113 hX113 hO113 => ?_)
        refine L_seq ?_
        refine L_region ?_
        refine F_val rfl rfl rfl (O_move rfl rfl) ?_
        refine F_val rfl rfl rfl (O_move rfl rfl) ?_
        refine F_val rfl rfl rfl (O_sub rfl rfl rfl) ?_
        obtain ⟨⟨g114, g115⟩, H⟩ := of_gd H
        refine F_val rfl rfl rfl (O_idxA rfl rfl rfl Try.underlying82 size3 g114 g115) ?_
        obtain ⟨g116, H⟩ := of_gd H
        refine F_val rfl rfl rfl (O_loadB rfl rfl flat3 (HS111.cells_box (i := 0) rfl) (at0 (int_cell g114 (arr_lt g116 g115)))) ?_
        refine F_val rfl rfl rfl (O_add rfl rfl rfl) ?_
        refine F_val rfl rfl rfl (O_shl rfl rfl rfl (by decide)) ?_
        obtain ⟨x117, h118, H⟩ := of_bnd H
        refine F_val rfl rfl rfl (O_assign' rfl rfl (congrArg (Value.int .i64) h118)) ?_
        refine F_nil ?_
        refine L_region ?_
        refine F_val rfl rfl rfl (O_move rfl rfl) ?_
        refine F_val rfl rfl rfl (O_move rfl rfl) ?_
        obtain ⟨⟨g119, g120⟩, H⟩ := of_gd H
        refine F_val rfl rfl rfl (O_idxA rfl rfl rfl Try.underlying82 size3 g119 g120) ?_
        obtain ⟨g125, H⟩ := of_gd H
        obtain ⟨l123, h124, H⟩ := of_bnd H
        refine F_stAr (E := (Eint .i64)) (xs := y107) (q := l_109) (a := x117) (off := 0) 2 (rowC (Eint .i64) l123) [] [] rfl rfl rfl rfl rfl size3 HS111 rfl rfl (by simp only [List.append_assoc, List.cons_append, List.nil_append, List.append_nil]) rfl g119 (arr_lt g125 g120) h124 (by simp only [List.append_assoc, List.cons_append, List.nil_append, List.append_nil]) (fun w121 HS122 => ?_)
        have hl126 : l123.length = 16 := by rw [← h124, List.length_set]; exact g125
        have HS122 : Hp S0 w0 w121 [.box g3 (rowC (Eint .i64) l_n_0) 82, .box g7 (rowC (Eint .i64) (List.replicate 16 (0 : Int))) 82, .box g11 (rowC (Eint .i64) l123) 82] := HS122
        refine F_nil ?_
        refine L_endB hN113 ?_
        refine L_region ?_
        refine F_val rfl rfl rfl (O_move rfl rfl) ?_
        refine F_val rfl rfl rfl (O_add rfl rfl rfl) ?_
        obtain ⟨x127, h128, H⟩ := of_bnd H
        refine F_val rfl rfl rfl (O_assign' rfl rfl (congrArg (Value.int .i64) h128)) ?_
        refine F_nil ?_
        refine L_nil (fun a ha => hNp106 _ a _ (Nat.lt_succ_self _) ⟨_, _, _, Is.cons ha (Is.cons ha (Is.cons ha (Is.cons ha (Is.cons ha (Is.nil ha) rfl) rfl) rfl) rfl) rfl, HS122.sel [0, 1, 2] rfl, H⟩)
      · have H := of_neg H c112
        refine L_exitB (fun a w h => hOp106 (.exit 0) a w rfl (hXb72 a w h)) ?_
        refine L_nil (fun a ha => hNj13 a _ ⟨_, (Option.some.inj H).symm, Is.cons ha (Is.cons ha (Is.nil ha) rfl) rfl, HS111.sel [1, 2] rfl⟩)
  · obtain ⟨y71, ej, ha, HS130⟩ := hR
    obtain rfl := ej.symm
    refine wpLF_app ?_ ha
    refine L_seq ?_
    refine L_region ?_
    obtain ⟨g131, H⟩ := of_gd H
    refine F_val rfl rfl rfl (O_loadSg [] (rowC (Eint .i64) y71) [] rfl rfl wide82 (HS130.cells_box (i := 1) rfl) (by simp only [List.append_assoc, List.cons_append, List.nil_append, List.append_nil]) rfl (row_len g131) (by decide)) ?_
    refine F_stSg 0 (rowC (Eint .i64) y71) [] (rowC (Eint .i64) (List.replicate 16 (0 : Int))) (rowC (Eint .i64) y71) [] rfl rfl rfl rfl rfl size82 HS130 rfl rfl ones_row (by simp only [List.append_assoc, List.cons_append, List.nil_append, List.append_nil]) (by simp only [List.append_assoc, List.cons_append, List.nil_append, List.append_nil]) rfl (row_len List.length_replicate) (row_len g131) (fun w132 HS133 => ?_)
    have HS133 : Hp S0 w0 w132 [.box g7 (rowC (Eint .i64) y71) 82, .box g11 (rowC (Eint .i64) y71) 82] := HS133
    refine F_nil ?_
    refine L_ret (fun a ha => (post_retc1 ha rfl rfl wide82 (HS133.cells_box (i := 0) rfl) (row_len g131) (by decide) ?_))
    obtain rfl := Option.some.inj H
    exact ⟨rfl, HS133.sel [] rfl⟩

/-! function 61: valise/code.words -/
theorem code_words.calls {S0 : Nat → Prop} {w0 : World} {A_lens_0 : Option Addr} {c_lens_0 : Nat} {l_lens_0 : List Int} {l_next_1 : List Int} {r : List Int} (HS0 : Hp S0 w0 w0 [.rd A_lens_0 (rowC (Eint .i64) l_lens_0)]) (hc_lens_0 : l_lens_0.length ≤ c_lens_0) (h : code_words.f l_lens_0 l_next_1 = some r) :
    Calls Try.prog 61 ([.slice A_lens_0 l_lens_0.length c_lens_0, .agg (rowC (Eint .i64) l_next_1).toArray] : List Value).toArray w0 (fun e w => ∃ (A1 : Option Addr), ∃ (c1 : Nat), e = .returned (.slice A1 r.length c1) ∧ Hp S0 w0 w [.own A1 c1 (rowC (Eint .i64) r) 3 (Eint .i64).sz]) := by
  have H : ((gd ((0 : Int) ≤ (l_lens_0.length : Int) ∧ (l_lens_0.length : Int) * 8 ≤ 281474976710656) (bnd (List.replicate ((l_lens_0.length : Int) : Int).toNat (0 : Int)) fun l9 => (code_words.l1 FU l9 l_next_1 0 l_lens_0).bind fun l154 => some l154)) : Option (List Int)) = some r := h
  refine calls_start Try.func61 rfl rfl ?_
  refine L_seq ?_
  refine L_region ?_
  refine F_box (C := rowC (Eint .i64) l_next_1) rfl rfl rfl rfl rfl rfl HS0 (fun w1 g3 HS2 => ?_)
  have HS2 : Hp S0 w0 w1 [.rd A_lens_0 (rowC (Eint .i64) l_lens_0), .box g3 (rowC (Eint .i64) l_next_1) 82] := HS2
  refine F_val rfl rfl rfl (O_assign rfl rfl) ?_
  refine F_nil ?_
  refine L_seq ?_
  refine L_region ?_
  refine F_val rfl rfl rfl (O_move rfl rfl) ?_
  refine F_val rfl rfl rfl (O_len rfl rfl Try.underlying22) ?_
  obtain ⟨⟨g7, g8⟩, H⟩ := of_gd H
  obtain ⟨l9, h10, H⟩ := of_bnd H
  refine F_makeE (E := (Eint .i64)) rfl rfl rfl rfl rfl rfl Try.underlying22 info3 rfl (by decide) (by decide) g7 g8 HS2 h10 (fun w5 A11 c12 HS6 => ?_)
  have HS6 : Hp S0 w0 w5 [.rd A_lens_0 (rowC (Eint .i64) l_lens_0), .box g3 (rowC (Eint .i64) l_next_1) 82, .own A11 c12 (rowC (Eint .i64) l9) 3 (Eint .i64).sz] := HS6
  refine F_val rfl rfl rfl (O_assign rfl rfl) ?_
  refine F_nil ?_
  refine L_seq ?_
  refine L_seq ?_
  refine L_region ?_
  refine F_val rfl rfl rfl (O_move rfl rfl) ?_
  refine F_val rfl rfl rfl (O_len rfl rfl Try.underlying22) ?_
  refine F_val rfl rfl rfl (O_move rfl rfl) ?_
  refine F_nil ?_
  obtain ⟨yj14, Hyj14, H⟩ := of_bind H
  refine L_join (fun a w => ∃ (l154 : List Int), yj14 = l154 ∧ Is Try.f61.ntmps a [(5, .slice A11 l154.length c12)] ∧ Hp S0 w0 w [.rd A_lens_0 (rowC (Eint .i64) l_lens_0), .own A11 c12 (rowC (Eint .i64) l154) 3 (Eint .i64).sz]) (fun Qj14 hNj14 hOj14 => ?_) (fun a w hR => ?_)
  · skip
    have H := Hyj14
    refine L_blk (fun Qb155 hNb155 hXb155 hOb155 => ?_)
    refine L_lp (fun k a w => ∃ (l246 : List Int), ∃ (y247 : List Int), ∃ (t248 : Int), Is Try.f61.ntmps a [(3, .pointer (some ⟨g3, 0, none⟩)), (5, .slice A11 l246.length c12), (11, .slice A_lens_0 l_lens_0.length c_lens_0), (12, .int .i64 (l_lens_0.length : Int)), (13, .int .i64 t248)] ∧ Hp S0 w0 w [.rd A_lens_0 (rowC (Eint .i64) l_lens_0), .box g3 (rowC (Eint .i64) y247) 82, .own A11 c12 (rowC (Eint .i64) l246) 3 (Eint .i64).sz] ∧ code_words.l1 k l246 y247 t248 l_lens_0 = some yj14) FU (fun a ha => ⟨_, _, _, Is.cons ha (Is.cons ha (Is.cons ha (Is.cons ha (Is.cons ha (Is.nil ha) rfl) rfl) rfl) rfl) rfl, HS6.sel [0, 1, 2] rfl, H⟩) (fun kp245 a w249 hI Qp245 hNp245 hOp245 => ?_)
    obtain ⟨l246, y247, t248, ha, HS250, HAp245⟩ := hI
    cases kp245 with
    | zero => cases (show (none : Option _) = some _ from HAp245)
    | succ kp245 =>
      have H := (code_words.l1.eq_2 ..).symm.trans HAp245
      refine wpLF_app ?_ ha
      refine L_seq ?_
      refine L_region ?_
      refine F_val rfl rfl rfl (O_lt rfl rfl rfl) ?_
      refine F_nil ?_
      refine L_seq ?_
      refine L_condP rfl (fun c251 => ?_) (fun c251 => ?_)
      · have H := of_pos H c251
        refine L_skip ?_
        refine L_seq ?_
        refine L_blk (fun Q252 hN252 hX252 hO252 => ?_)
        refine L_seq ?_
        refine L_region ?_
        refine F_val rfl rfl rfl (O_move rfl rfl) ?_
        obtain ⟨⟨g253, g254⟩, H⟩ := of_gd H
        refine F_val rfl rfl rfl (O_idx rfl rfl rfl Try.underlying22 size3 g253 g254 (Cells.isA (HS250.cells_rd (i := 0) rfl) (rowC_ne (E := (Eint .i64)) g253 g254 (by decide)))) ?_
        refine F_val rfl rfl rfl (O_loadC rfl rfl flat3 (HS250.cells_rd (i := 0) rfl) (int_cell g253 g254)) ?_
        refine F_val rfl rfl rfl (O_assign rfl rfl) ?_
        obtain ⟨x255, h256, H⟩ := of_bnd H
        refine F_val rfl rfl rfl (O_assign' rfl rfl (congrArg (Value.int .i64) h256)) ?_
        refine F_nil ?_
        refine L_seq ?_
        refine L_region ?_
        refine F_val rfl rfl rfl (O_move rfl rfl) ?_
        refine F_val rfl rfl rfl (O_gt rfl rfl rfl) ?_
        refine F_nil ?_
        obtain ⟨yj257, Hyj257, H⟩ := of_bind H
        refine L_join (fun a w => ∃ (l274 : List Int), ∃ (y275 : List Int), yj257 = (l274, y275) ∧ Is Try.f61.ntmps a [(3, .pointer (some ⟨g3, 0, none⟩)), (5, .slice A11 l274.length c12), (11, .slice A_lens_0 l_lens_0.length c_lens_0), (12, .int .i64 (l_lens_0.length : Int)), (13, .int .i64 t248)] ∧ Hp S0 w0 w [.rd A_lens_0 (rowC (Eint .i64) l_lens_0), .box g3 (rowC (Eint .i64) y275) 82, .own A11 c12 (rowC (Eint .i64) l274) 3 (Eint .i64).sz]) (fun Qj257 hNj257 hOj257 => ?_) (fun a w hR => ?_)
        · skip
          have H := Hyj257
          refine L_condP rfl (fun c276 => ?_) (fun c276 => ?_)
          · have H := of_pos H c276
            refine L_seq ?_
            refine L_region ?_
            refine F_val rfl rfl rfl (O_move rfl rfl) ?_
            refine F_val rfl rfl rfl (O_move rfl rfl) ?_
            refine F_val rfl rfl rfl (O_move rfl rfl) ?_
            obtain ⟨⟨g277, g278⟩, H⟩ := of_gd H
            refine F_val rfl rfl rfl (O_idxA rfl rfl rfl Try.underlying82 size3 g277 g278) ?_
            obtain ⟨g279, H⟩ := of_gd H
            refine F_val rfl rfl rfl (O_loadB rfl rfl flat3 (HS250.cells_box (i := 1) rfl) (at0 (int_cell g277 (arr_lt g279 g278)))) ?_
            obtain ⟨⟨g280, g281⟩, H⟩ := of_gd H
            refine F_val rfl rfl rfl (O_idx rfl rfl rfl Try.underlying22 size3 g280 g281 (Cells.isA (HS250.cells_own (i := 2) rfl) (rowC_ne (E := (Eint .i64)) g280 g281 (by decide)))) ?_
            obtain ⟨l284, h285, H⟩ := of_bnd H
            refine F_setE (E := (Eint .i64)) (i := 2) (a := rd y247 x255) (q := t248) rfl rfl rfl rfl rfl rfl size3 HS250 rfl (by decide) g280 g281 h285 (fun w282 HS283 => ?_)
            have e286 : l246.length = l284.length := by rw [← h285, List.length_set]
            refine F_know (i := 5) rfl (congrArg (fun n => Value.slice A11 n c12) e286) ?_
            have HS283 : Hp S0 w0 w282 [.rd A_lens_0 (rowC (Eint .i64) l_lens_0), .box g3 (rowC (Eint .i64) y247) 82, .own A11 c12 (rowC (Eint .i64) l284) 3 (Eint .i64).sz] := HS283
            refine F_nil ?_
            refine L_region ?_
            refine F_val rfl rfl rfl (O_move rfl rfl) ?_
            refine F_val rfl rfl rfl (O_idxA rfl rfl rfl Try.underlying82 size3 g277 g278) ?_
            refine F_val rfl rfl rfl (O_loadB rfl rfl flat3 (HS283.cells_box (i := 1) rfl) (at0 (int_cell g277 (arr_lt g279 g278)))) ?_
            refine F_val rfl rfl rfl (O_add rfl rfl rfl) ?_
            refine F_val rfl rfl rfl (O_idxA rfl rfl rfl Try.underlying82 size3 g277 g278) ?_
            obtain ⟨l289, h290, H⟩ := of_bnd H
            refine F_stAr (E := (Eint .i64)) (xs := y247) (q := x255) (a := IntKind.i64.wrap ((rd y247 x255) + 1)) (off := 0) 1 (rowC (Eint .i64) l289) [] [] rfl rfl rfl rfl rfl size3 HS283 rfl rfl (by simp only [List.append_assoc, List.cons_append, List.nil_append, List.append_nil]) rfl g277 (arr_lt g279 g278) h290 (by simp only [List.append_assoc, List.cons_append, List.nil_append, List.append_nil]) (fun w287 HS288 => ?_)
            have hl291 : l289.length = 16 := by rw [← h290, List.length_set]; exact g279
            have HS288 : Hp S0 w0 w287 [.rd A_lens_0 (rowC (Eint .i64) l_lens_0), .box g3 (rowC (Eint .i64) l289) 82, .own A11 c12 (rowC (Eint .i64) l284) 3 (Eint .i64).sz] := HS288
            refine F_nil ?_
            refine L_nil (fun a ha => hNj257 a _ ⟨_, _, (Option.some.inj H).symm, Is.cons ha (Is.cons ha (Is.cons ha (Is.cons ha (Is.cons ha (Is.nil ha) rfl) rfl) rfl) rfl) rfl, HS288.sel [0, 1, 2] rfl⟩)
          · have H := of_neg H c276
            refine L_skip ?_
            refine L_nil (fun a ha => hNj257 a _ ⟨_, _, (Option.some.inj H).symm, Is.cons ha (Is.cons ha (Is.cons ha (Is.cons ha (Is.cons ha (Is.nil ha) rfl) rfl) rfl) rfl) rfl, HS250.sel [0, 1, 2] rfl⟩)
        · obtain ⟨l274, y275, rfl, ha, HS293⟩ := hR
          refine wpLF_app ?_ ha
          refine L_endB hN252 ?_
          refine L_region ?_
          refine F_val rfl rfl rfl (O_add rfl rfl rfl) ?_
          refine F_val rfl rfl rfl (O_move rfl rfl) ?_
          refine F_nil ?_
          refine L_nil (fun a ha => hNp245 _ a _ (Nat.lt_succ_self _) ⟨_, _, _, Is.cons ha (Is.cons ha (Is.cons ha (Is.cons ha (Is.cons ha (Is.nil ha) rfl) rfl) rfl) rfl) rfl, HS293.sel [0, 1, 2] rfl, H⟩)
      · have H := of_neg H c251
        refine L_exitB (fun a w h => hOp245 (.exit 0) a w rfl (hXb155 a w h)) ?_
        refine L_nil (fun a ha => hNj14 a _ ⟨_, (Option.some.inj H).symm, Is.cons ha (Is.nil ha) rfl, HS250.sel [0, 2] rfl⟩)
  · obtain ⟨l154, ej, ha, HS295⟩ := hR
    obtain rfl := ej.symm
    refine wpLF_app ?_ ha
    refine L_seq ?_
    refine L_region ?_
    refine F_val rfl rfl rfl (O_move rfl rfl) ?_
    refine F_val rfl rfl rfl (O_assign rfl rfl) ?_
    refine F_nil ?_
    refine L_ret (fun a ha => (post_ret1 ha rfl rfl ?_))
    obtain rfl := Option.some.inj H
    exact ⟨_, _, rfl, HS295.sel [1] rfl⟩

/-! function 25: valise/code.Codes -/
theorem code_Codes.calls {S0 : Nat → Prop} {w0 : World} {A_lens_0 : Option Addr} {c_lens_0 : Nat} {l_lens_0 : List Int} {r : List Int × Int} (HS0 : Hp S0 w0 w0 [.rd A_lens_0 (rowC (Eint .i64) l_lens_0)]) (hc_lens_0 : l_lens_0.length ≤ c_lens_0) (h : code_Codes.f l_lens_0 = some r) :
    Calls Try.prog 25 ([.slice A_lens_0 l_lens_0.length c_lens_0] : List Value).toArray w0 (fun e w => ∃ (A1 : Option Addr), ∃ (c1 : Nat), e = .returned (.tuple #[.slice A1 r.1.length c1, .int .i64 r.2]) ∧ Hp S0 w0 w [.own A1 c1 (rowC (Eint .i64) r.1) 3 (Eint .i64).sz]) := by
  have H : (((code_count.f l_lens_0).bind fun (z5, z6) => gd (z5.length = 16) (if z6 ≠ 0 then (some (([] : List Int), z6)) else ((code_shape.f z5).bind fun z21 => if z21 = 3 then (some (([] : List Int), 51)) else ((code_first.f z5).bind fun z32 => (code_words.f l_lens_0 z32).bind fun z39 => some (z39, 0))))) : Option (List Int × Int)) = some r := h
  refine calls_start Try.func25 rfl rfl ?_
  refine L_seq ?_
  refine L_region ?_
  refine F_val rfl rfl rfl (O_assign rfl rfl) ?_
  refine F_val rfl rfl rfl (O_assign rfl rfl) ?_
  refine F_nil ?_
  refine L_seq ?_
  refine L_region ?_
  refine F_val rfl rfl rfl (O_move rfl rfl) ?_
  obtain ⟨⟨z5, z6⟩, h4, H⟩ := of_bind H
  refine F_call (xs := [.tmp 7]) rfl rfl rfl rfl Try.func57 nm57 rfl rfl ((code_count.calls (HS0.give [] rfl (Lent.rd HS0 (Lent.nil) (i := 0) rfl ((HS0.cells_rd (i := 0) rfl).self))) hc_lens_0 h4).mono (fun e w hc => ?_))
  obtain ⟨rfl, HSo⟩ := hc
  refine ⟨.tuple #[.agg (rowC (Eint .i64) z5).toArray, .int .i64 z6], rfl, ?_⟩
  have HS8 : Hp S0 w0 w [.rd A_lens_0 (rowC (Eint .i64) l_lens_0)] := (HS0.back [] HSo rfl).sel [0] rfl
  refine F_val rfl rfl rfl (O_move rfl rfl) ?_
  refine F_val rfl rfl rfl (O_extract (v := .agg (rowC (Eint .i64) z5).toArray) rfl rfl rfl) ?_
  refine F_val rfl rfl rfl (O_extract (v := .int .i64 z6) rfl rfl rfl) ?_
  refine F_alloc (C := rowC (Eint .i64) (List.replicate 16 (0 : Int))) rfl rfl rfl rfl zero82 rfl HS8 (fun w9 g11 HS10 => ?_)
  have HS10 : Hp S0 w0 w9 [.rd A_lens_0 (rowC (Eint .i64) l_lens_0), .box g11 (rowC (Eint .i64) (List.replicate 16 (0 : Int))) 82] := HS10
  obtain ⟨g15, H⟩ := of_gd H
  refine F_stSg 1 (rowC (Eint .i64) z5) [] (rowC (Eint .i64) (List.replicate 16 (0 : Int))) (rowC (Eint .i64) z5) [] rfl rfl rfl rfl rfl size82 HS10 rfl rfl ones_row (by simp only [List.append_assoc, List.cons_append, List.nil_append, List.append_nil]) (by simp only [List.append_assoc, List.cons_append, List.nil_append, List.append_nil]) rfl (row_len List.length_replicate) (row_len g15) (fun w13 HS14 => ?_)
  have HS14 : Hp S0 w0 w13 [.rd A_lens_0 (rowC (Eint .i64) l_lens_0), .box g11 (rowC (Eint .i64) z5) 82] := HS14
  refine F_val rfl rfl rfl (O_assign rfl rfl) ?_
  refine F_nil ?_
  refine L_seq ?_
  refine L_seq ?_
  refine L_region ?_
  refine F_val rfl rfl rfl (O_move rfl rfl) ?_
  refine F_val rfl rfl rfl (O_ne rfl rfl rfl) ?_
  refine F_nil ?_
  refine L_condP rfl (fun c16 => ?_) (fun c16 => ?_)
  · have H := of_pos H c16
    refine L_seq ?_
    refine L_region ?_
    refine F_val rfl rfl rfl (O_move rfl rfl) ?_
    refine F_val rfl rfl rfl (O_assign rfl rfl) ?_
    refine F_val rfl rfl rfl (O_assign rfl rfl) ?_
    refine F_nil ?_
    have HS17 := HS14.addNil 3 (Eint .i64).sz
    refine L_ret (fun a ha => (post_ret2 ha rfl rfl rfl ?_))
    obtain rfl := Option.some.inj H
    exact ⟨_, _, rfl, HS17.sel [2] rfl⟩
  · have H := of_neg H c16
    refine L_skip ?_
    refine L_seq ?_
    refine L_seq ?_
    refine L_region ?_
    refine F_val rfl rfl rfl (O_loadSg [] (rowC (Eint .i64) z5) [] rfl rfl wide82 (HS14.cells_box (i := 1) rfl) (by simp only [List.append_assoc, List.cons_append, List.nil_append, List.append_nil]) rfl (row_len g15) (by decide)) ?_
    obtain ⟨z21, h20, H⟩ := of_bind H
    refine F_qcall (v := .int .i64 z21) (xs := [.tmp 14]) rfl rfl rfl rfl Try.func58 nm58 rfl rfl ((code_shape.calls (HS14.give [] rfl (Lent.nil)) h20).mono (fun e w hc => ?_)) (fun w22 hw23 => ?_)
    · obtain ⟨rfl, h⟩ := hc
      exact ⟨rfl, h.chg0⟩
    have HS24 := HS14.keep hw23
    refine F_val rfl rfl rfl (O_eq rfl rfl rfl) ?_
    refine F_nil ?_
    refine L_condP rfl (fun c25 => ?_) (fun c25 => ?_)
    · have H := of_pos H c25
      refine L_seq ?_
      refine L_region ?_
      refine F_val rfl rfl rfl (O_assign rfl rfl) ?_
      refine F_val rfl rfl rfl (O_assign rfl rfl) ?_
      refine F_nil ?_
      have HS26 := HS24.addNil 3 (Eint .i64).sz
      refine L_ret (fun a ha => (post_ret2 ha rfl rfl rfl ?_))
      obtain rfl := Option.some.inj H
      exact ⟨_, _, rfl, HS26.sel [2] rfl⟩
    · have H := of_neg H c25
      refine L_skip ?_
      refine L_seq ?_
      refine L_region ?_
      refine F_val rfl rfl rfl (O_move rfl rfl) ?_
      refine F_val rfl rfl rfl (O_loadSg [] (rowC (Eint .i64) z5) [] rfl rfl wide82 (HS24.cells_box (i := 1) rfl) (by simp only [List.append_assoc, List.cons_append, List.nil_append, List.append_nil]) rfl (row_len g15) (by decide)) ?_
      obtain ⟨z32, h31, H⟩ := of_bind H
      refine F_call (xs := [.tmp 18]) rfl rfl rfl rfl Try.func62 nm62 rfl rfl ((code_first.calls (HS24.give [] rfl (Lent.nil)) h31).mono (fun e w hc => ?_))
      obtain ⟨rfl, HSo⟩ := hc
      refine ⟨.agg (rowC (Eint .i64) z32).toArray, rfl, ?_⟩
      have HS34 : Hp S0 w0 w [.rd A_lens_0 (rowC (Eint .i64) l_lens_0), .box g11 (rowC (Eint .i64) z5) 82] := (HS24.back [] HSo rfl).sel [0, 1] rfl
      obtain ⟨z39, h38, H⟩ := of_bind H
      refine F_call (xs := [.tmp 17, .tmp 19]) rfl rfl rfl rfl Try.func61 nm61 rfl rfl ((code_words.calls (HS34.give [] rfl (Lent.rd HS34 (Lent.nil) (i := 0) rfl ((HS34.cells_rd (i := 0) rfl).self))) hc_lens_0 h38).mono (fun e w hc => ?_))
      obtain ⟨A42, c43, rfl, HSo⟩ := hc
      refine ⟨.slice A42 z39.length c43, rfl, ?_⟩
      have HS41 : Hp S0 w0 w [.rd A_lens_0 (rowC (Eint .i64) l_lens_0), .box g11 (rowC (Eint .i64) z5) 82, .own A42 c43 (rowC (Eint .i64) z39) 3 (Eint .i64).sz] := (HS34.back [] HSo rfl).sel [0, 1, 2] rfl
      refine F_val rfl rfl rfl (O_assign rfl rfl) ?_
      refine F_val rfl rfl rfl (O_assign rfl rfl) ?_
      refine F_nil ?_
      refine L_ret (fun a ha => (post_ret2 ha rfl rfl rfl ?_))
      obtain rfl := Option.some.inj H
      exact ⟨_, _, rfl, HS41.sel [2] rfl⟩

/-! function 59: valise/valiseref5.valid -/
theorem valiseref5_valid.calls {S0 : Nat → Prop} {w0 : World} {A_lens_0 : Option Addr} {c_lens_0 : Nat} {l_lens_0 : List Int} {r : Int} (HS0 : Hp S0 w0 w0 [.rd A_lens_0 (rowC (Eint .i64) l_lens_0)]) (hc_lens_0 : l_lens_0.length ≤ c_lens_0) (h : valiseref5_valid.f l_lens_0 = some r) :
    Calls Try.prog 59 ([.slice A_lens_0 l_lens_0.length c_lens_0] : List Value).toArray w0 (fun e w => e = .returned (.int .i64 r) ∧ Hp S0 w0 w []) := by
  have H : ((if 288 < (l_lens_0.length : Int) then (some 1) else ((valiseref5_valid.l1 FU 0 l_lens_0).bind fun (yj2 : Sum (Int) (Unit)) => onR yj2 (fun r => some r) fun () => some 0)) : Option (Int)) = some r := h
  refine calls_start Try.func59 rfl rfl ?_
  refine L_seq ?_
  refine L_region ?_
  refine F_val rfl rfl rfl (O_assign rfl rfl) ?_
  refine F_nil ?_
  refine L_seq ?_
  refine L_seq ?_
  refine L_region ?_
  refine F_val rfl rfl rfl (O_move rfl rfl) ?_
  refine F_val rfl rfl rfl (O_len rfl rfl Try.underlying22) ?_
  refine F_val rfl rfl rfl (O_gt rfl rfl rfl) ?_
  refine F_nil ?_
  refine L_condP rfl (fun c1 => ?_) (fun c1 => ?_)
  · have H := of_pos H c1
    refine L_seq ?_
    refine L_region ?_
    refine F_val rfl rfl rfl (O_assign rfl rfl) ?_
    refine F_nil ?_
    refine L_ret (fun a ha => (post_ret1 ha rfl rfl ?_))
    obtain rfl := Option.some.inj H
    exact ⟨rfl, HS0.sel [] rfl⟩
  · have H := of_neg H c1
    refine L_skip ?_
    refine L_seq ?_
    refine L_seq ?_
    refine L_region ?_
    refine F_val rfl rfl rfl (O_assign rfl rfl) ?_
    refine F_nil ?_
    obtain ⟨yj2, Hyj2, H⟩ := of_bind H
    refine L_join (fun a w => yj2 = Sum.inr () ∧ Is Try.f59.ntmps a [] ∧ Hp S0 w0 w [.rd A_lens_0 (rowC (Eint .i64) l_lens_0)]) (fun Qj2 hNj2 hOj2 => ?_) (fun a w hR => ?_)
    · have HOj2 := H
      have H := Hyj2
      refine L_blk (fun Qb42 hNb42 hXb42 hOb42 => ?_)
      refine L_lp (fun k a w => ∃ (i_67 : Int), Is Try.f59.ntmps a [(0, .slice A_lens_0 l_lens_0.length c_lens_0), (3, .int .i64 i_67)] ∧ Hp S0 w0 w [.rd A_lens_0 (rowC (Eint .i64) l_lens_0)] ∧ valiseref5_valid.l1 k i_67 l_lens_0 = some yj2) FU (fun a ha => ⟨_, Is.cons ha (Is.cons ha (Is.nil ha) rfl) rfl, HS0.sel [0] rfl, H⟩) (fun kp66 a w68 hI Qp66 hNp66 hOp66 => ?_)
      obtain ⟨i_67, ha, HS69, HAp66⟩ := hI
      cases kp66 with
      | zero => cases (show (none : Option _) = some _ from HAp66)
      | succ kp66 =>
        have H := (valiseref5_valid.l1.eq_2 ..).symm.trans HAp66
        refine wpLF_app ?_ ha
        refine L_seq ?_
        refine L_seq ?_
        refine L_region ?_
        refine F_val rfl rfl rfl (O_move rfl rfl) ?_
        refine F_val rfl rfl rfl (O_move rfl rfl) ?_
        refine F_val rfl rfl rfl (O_len rfl rfl Try.underlying22) ?_
        refine F_val rfl rfl rfl (O_lt rfl rfl rfl) ?_
        refine F_nil ?_
        refine L_condP rfl (fun c70 => ?_) (fun c70 => ?_)
        · have H := of_pos H c70
          refine L_skip ?_
          refine L_seq ?_
          refine L_blk (fun Q71 hN71 hX71 hO71 => ?_)
          refine L_seq ?_
          refine L_region ?_
          refine F_val rfl rfl rfl (O_move rfl rfl) ?_
          refine F_val rfl rfl rfl (O_move rfl rfl) ?_
          obtain ⟨⟨g72, g73⟩, H⟩ := of_gd H
          refine F_val rfl rfl rfl (O_idx rfl rfl rfl Try.underlying22 size3 g72 g73 (Cells.isA (HS69.cells_rd (i := 0) rfl) (rowC_ne (E := (Eint .i64)) g72 g73 (by decide)))) ?_
          refine F_val rfl rfl rfl (O_loadC rfl rfl flat3 (HS69.cells_rd (i := 0) rfl) (int_cell g72 g73)) ?_
          refine F_val rfl rfl rfl (O_lt rfl rfl rfl) ?_
          refine F_val rfl rfl rfl (O_move rfl rfl) ?_
          refine F_grp 6 [(24, .bool (decide ((rd l_lens_0 i_67 < 0) ∨ (15 < rd l_lens_0 i_67)))), (0, .slice A_lens_0 l_lens_0.length c_lens_0), (3, .int .i64 i_67)] ?_ ?_
          · rcases Decidable.em (rd l_lens_0 i_67 < 0) with c77 | c77
            · refine F_know (i := 18) rfl (dec_t c77) ?_
              refine F_gskip rfl rfl rfl rfl rfl rfl rfl ?_
              refine F_gskip rfl rfl rfl rfl rfl rfl rfl ?_
              refine F_gskip rfl rfl rfl rfl rfl rfl rfl ?_
              refine F_gskip rfl rfl rfl rfl rfl rfl rfl ?_
              refine F_gskip rfl rfl rfl rfl rfl rfl rfl ?_
              refine F_val rfl rfl rfl (O_pickT rfl rfl rfl) ?_
              refine F_know (i := 24) rfl (dec_or_t (q := 15 < rd l_lens_0 i_67) c77) ?_
              exact F_grpE (fun a ha => Is.cons ha (Is.cons ha (Is.cons ha (Is.nil ha) rfl) rfl) rfl)
            · refine F_know (i := 18) rfl (dec_f c77) ?_
              refine F_gval rfl rfl rfl rfl rfl rfl (O_move rfl rfl) ?_
              refine F_gval rfl rfl rfl rfl rfl rfl (O_move rfl rfl) ?_
              refine F_gval rfl rfl rfl rfl rfl rfl (O_idx rfl rfl rfl Try.underlying22 size3 g72 g73 (Cells.isA (HS69.cells_rd (i := 0) rfl) (rowC_ne (E := (Eint .i64)) g72 g73 (by decide)))) ?_
              refine F_gval rfl rfl rfl rfl rfl rfl (O_loadC rfl rfl flat3 (HS69.cells_rd (i := 0) rfl) (int_cell g72 g73)) ?_
              refine F_gval rfl rfl rfl rfl rfl rfl (O_gt rfl rfl rfl) ?_
              refine F_val rfl rfl rfl (O_pickF rfl rfl rfl) ?_
              refine F_know (i := 24) rfl (dec_or_f (q := 15 < rd l_lens_0 i_67) c77) ?_
              exact F_grpE (fun a ha => Is.cons ha (Is.cons ha (Is.cons ha (Is.nil ha) rfl) rfl) rfl)
          · skip
            refine F_nil ?_
            refine L_condP rfl (fun c78 => ?_) (fun c78 => ?_)
            · have H := of_pos H c78
              refine L_seq ?_
              refine L_region ?_
              refine F_val rfl rfl rfl (O_assign rfl rfl) ?_
              refine F_nil ?_
              refine L_ret (fun a ha => (hO71 .ret a _ rfl (hOp66 .ret a _ rfl (hOb42 .ret a _ rfl (hOj2 .ret a _ rfl (post_ret1 ha rfl rfl ?_))))))
              obtain rfl := Option.some.inj H
              obtain rfl := Option.some.inj (show (some 50 : Option (Int)) = some _ from HOj2)
              exact ⟨rfl, HS69.sel [] rfl⟩
            · have H := of_neg H c78
              refine L_skip ?_
              refine L_endB hN71 ?_
              refine L_region ?_
              refine F_val rfl rfl rfl (O_move rfl rfl) ?_
              refine F_val rfl rfl rfl (O_add rfl rfl rfl) ?_
              obtain ⟨x79, h80, H⟩ := of_bnd H
              refine F_val rfl rfl rfl (O_assign' rfl rfl (congrArg (Value.int .i64) h80)) ?_
              refine F_nil ?_
              refine L_nil (fun a ha => hNp66 _ a _ (Nat.lt_succ_self _) ⟨_, Is.cons ha (Is.cons ha (Is.nil ha) rfl) rfl, HS69.sel [0] rfl, H⟩)
        · have H := of_neg H c70
          refine L_exitB (fun a w h => hOp66 (.exit 0) a w rfl (hXb42 a w h)) ?_
          refine L_nil (fun a ha => hNj2 a _ ⟨(Option.some.inj H).symm, Is.nil ha, HS69.sel [0] rfl⟩)
    · obtain ⟨rfl, ha, HS82⟩ := hR
      refine wpLF_app ?_ ha
      have H := (onR_inr _ _ _).symm.trans H
      refine L_seq ?_
      refine L_region ?_
      refine F_val rfl rfl rfl (O_assign rfl rfl) ?_
      refine F_nil ?_
      refine L_ret (fun a ha => (post_ret1 ha rfl rfl ?_))
      obtain rfl := Option.some.inj H
      exact ⟨rfl, HS82.sel [] rfl⟩

/-! function 74: valise/valiseref5.rows -/
theorem valiseref5_rows.calls {S0 : Nat → Prop} {w0 : World} {l_0 : Int} {r : Int} (HS0 : Hp S0 w0 w0 []) (h : valiseref5_rows.f l_0 = some r) :
    Calls Try.prog 74 ([.int .i64 l_0] : List Value).toArray w0 (fun e w => e = .returned (.int .i64 r) ∧ Hp S0 w0 w []) := by
  have H : (((valiseref5_rows.l1 FU 1 l_0 ).bind fun n_28 => some n_28) : Option (Int)) = some r := h
  refine calls_start Try.func74 rfl rfl ?_
  refine L_seq ?_
  refine L_region ?_
  refine F_val rfl rfl rfl (O_assign rfl rfl) ?_
  refine F_nil ?_
  refine L_seq ?_
  refine L_region ?_
  refine F_val rfl rfl rfl (O_assign rfl rfl) ?_
  refine F_nil ?_
  refine L_seq ?_
  refine L_seq ?_
  refine L_region ?_
  refine F_val rfl rfl rfl (O_move rfl rfl) ?_
  refine F_val rfl rfl rfl (O_assign rfl rfl) ?_
  refine F_nil ?_
  obtain ⟨yj1, Hyj1, H⟩ := of_bind H
  refine L_join (fun a w => ∃ (n_28 : Int), yj1 = n_28 ∧ Is Try.f74.ntmps a [(3, .int .i64 n_28)] ∧ Hp S0 w0 w []) (fun Qj1 hNj1 hOj1 => ?_) (fun a w hR => ?_)
  · skip
    have H := Hyj1
    refine L_blk (fun Qb29 hNb29 hXb29 hOb29 => ?_)
    refine L_lp (fun k a w => ∃ (n_45 : Int), ∃ (i_46 : Int), Is Try.f74.ntmps a [(3, .int .i64 n_45), (4, .int .i64 i_46)] ∧ Hp S0 w0 w [] ∧ valiseref5_rows.l1 k n_45 i_46  = some yj1) FU (fun a ha => ⟨_, _, Is.cons ha (Is.cons ha (Is.nil ha) rfl) rfl, HS0.sel [] rfl, H⟩) (fun kp44 a w47 hI Qp44 hNp44 hOp44 => ?_)
    obtain ⟨n_45, i_46, ha, HS48, HAp44⟩ := hI
    cases kp44 with
    | zero => cases (show (none : Option _) = some _ from HAp44)
    | succ kp44 =>
      have H := (valiseref5_rows.l1.eq_2 ..).symm.trans HAp44
      refine wpLF_app ?_ ha
      refine L_seq ?_
      refine L_seq ?_
      refine L_region ?_
      refine F_val rfl rfl rfl (O_move rfl rfl) ?_
      refine F_val rfl rfl rfl (O_lt rfl rfl rfl) ?_
      refine F_nil ?_
      refine L_condP rfl (fun c49 => ?_) (fun c49 => ?_)
      · have H := of_pos H c49
        refine L_skip ?_
        refine L_seq ?_
        refine L_blk (fun Q50 hN50 hX50 hO50 => ?_)
        refine L_region ?_
        refine F_val rfl rfl rfl (O_move rfl rfl) ?_
        refine F_val rfl rfl rfl (O_mul rfl rfl rfl) ?_
        obtain ⟨x51, h52, H⟩ := of_bnd H
        refine F_val rfl rfl rfl (O_assign' rfl rfl (congrArg (Value.int .i64) h52)) ?_
        refine F_nil ?_
        refine L_endB hN50 ?_
        refine L_region ?_
        refine F_val rfl rfl rfl (O_move rfl rfl) ?_
        refine F_val rfl rfl rfl (O_add rfl rfl rfl) ?_
        obtain ⟨x53, h54, H⟩ := of_bnd H
        refine F_val rfl rfl rfl (O_assign' rfl rfl (congrArg (Value.int .i64) h54)) ?_
        refine F_nil ?_
        refine L_nil (fun a ha => hNp44 _ a _ (Nat.lt_succ_self _) ⟨_, _, Is.cons ha (Is.cons ha (Is.nil ha) rfl) rfl, HS48.sel [] rfl, H⟩)
      · have H := of_neg H c49
        refine L_exitB (fun a w h => hOp44 (.exit 0) a w rfl (hXb29 a w h)) ?_
        refine L_nil (fun a ha => hNj1 a _ ⟨_, (Option.some.inj H).symm, Is.cons ha (Is.nil ha) rfl, HS48.sel [] rfl⟩)
  · obtain ⟨n_28, ej, ha, HS56⟩ := hR
    obtain rfl := ej.symm
    refine wpLF_app ?_ ha
    refine L_seq ?_
    refine L_region ?_
    refine F_val rfl rfl rfl (O_move rfl rfl) ?_
    refine F_val rfl rfl rfl (O_assign rfl rfl) ?_
    refine F_nil ?_
    refine L_ret (fun a ha => (post_ret1 ha rfl rfl ?_))
    obtain rfl := Option.some.inj H
    exact ⟨rfl, HS56.sel [] rfl⟩

/-! function 60: valise/valiseref5.used -/
theorem valiseref5_used.calls {S0 : Nat → Prop} {w0 : World} {A_lens_0 : Option Addr} {c_lens_0 : Nat} {l_lens_0 : List Int} {r : Int × Int} (HS0 : Hp S0 w0 w0 [.rd A_lens_0 (rowC (Eint .i64) l_lens_0)]) (hc_lens_0 : l_lens_0.length ≤ c_lens_0) (h : valiseref5_used.f l_lens_0 = some r) :
    Calls Try.prog 60 ([.slice A_lens_0 l_lens_0.length c_lens_0] : List Value).toArray w0 (fun e w => e = .returned (.tuple #[.int .i64 r.1, .int .i64 r.2]) ∧ Hp S0 w0 w []) := by
  have H : (((valiseref5_used.l1 FU 0 0 0 l_lens_0).bind fun (sum_111, n_112) => some (sum_111, n_112)) : Option (Int × Int)) = some r := h
  refine calls_start Try.func60 rfl rfl ?_
  refine L_seq ?_
  refine L_region ?_
  refine F_val rfl rfl rfl (O_assign rfl rfl) ?_
  refine F_val rfl rfl rfl (O_assign rfl rfl) ?_
  refine F_nil ?_
  refine L_seq ?_
  refine L_region ?_
  refine F_val rfl rfl rfl (O_assign rfl rfl) ?_
  refine F_nil ?_
  refine L_seq ?_
  refine L_region ?_
  refine F_val rfl rfl rfl (O_assign rfl rfl) ?_
  refine F_nil ?_
  refine L_seq ?_
  refine L_seq ?_
  refine L_region ?_
  refine F_val rfl rfl rfl (O_assign rfl rfl) ?_
  refine F_nil ?_
  obtain ⟨yj1, Hyj1, H⟩ := of_bind H
  refine L_join (fun a w => ∃ (sum_111 : Int), ∃ (n_112 : Int), yj1 = (sum_111, n_112) ∧ Is Try.f60.ntmps a [(4, .int .i64 sum_111), (5, .int .i64 n_112)] ∧ Hp S0 w0 w [.rd A_lens_0 (rowC (Eint .i64) l_lens_0)]) (fun Qj1 hNj1 hOj1 => ?_) (fun a w hR => ?_)
  · skip
    have H := Hyj1
    refine L_blk (fun Qb113 hNb113 hXb113 hOb113 => ?_)
    refine L_lp (fun k a w => ∃ (sum_184 : Int), ∃ (n_185 : Int), ∃ (i_186 : Int), Is Try.f60.ntmps a [(0, .slice A_lens_0 l_lens_0.length c_lens_0), (4, .int .i64 sum_184), (5, .int .i64 n_185), (6, .int .i64 i_186)] ∧ Hp S0 w0 w [.rd A_lens_0 (rowC (Eint .i64) l_lens_0)] ∧ valiseref5_used.l1 k sum_184 n_185 i_186 l_lens_0 = some yj1) FU (fun a ha => ⟨_, _, _, Is.cons ha (Is.cons ha (Is.cons ha (Is.cons ha (Is.nil ha) rfl) rfl) rfl) rfl, HS0.sel [0] rfl, H⟩) (fun kp183 a w187 hI Qp183 hNp183 hOp183 => ?_)
    obtain ⟨sum_184, n_185, i_186, ha, HS188, HAp183⟩ := hI
    cases kp183 with
    | zero => cases (show (none : Option _) = some _ from HAp183)
    | succ kp183 =>
      have H := (valiseref5_used.l1.eq_2 ..).symm.trans HAp183
      refine wpLF_app ?_ ha
      refine L_seq ?_
      refine L_seq ?_
      refine L_region ?_
      refine F_val rfl rfl rfl (O_move rfl rfl) ?_
      refine F_val rfl rfl rfl (O_move rfl rfl) ?_
      refine F_val rfl rfl rfl (O_len rfl rfl Try.underlying22) ?_
      refine F_val rfl rfl rfl (O_lt rfl rfl rfl) ?_
      refine F_nil ?_
      refine L_condP rfl (fun c189 => ?_) (fun c189 => ?_)
      · have H := of_pos H c189
        refine L_skip ?_
        refine L_seq ?_
        refine L_blk (fun Q190 hN190 hX190 hO190 => ?_)
        refine L_seq ?_
        refine L_region ?_
        refine F_val rfl rfl rfl (O_move rfl rfl) ?_
        refine F_val rfl rfl rfl (O_move rfl rfl) ?_
        obtain ⟨⟨g191, g192⟩, H⟩ := of_gd H
        refine F_val rfl rfl rfl (O_idx rfl rfl rfl Try.underlying22 size3 g191 g192 (Cells.isA (HS188.cells_rd (i := 0) rfl) (rowC_ne (E := (Eint .i64)) g191 g192 (by decide)))) ?_
        refine F_val rfl rfl rfl (O_loadC rfl rfl flat3 (HS188.cells_rd (i := 0) rfl) (int_cell g191 g192)) ?_
        refine F_val rfl rfl rfl (O_gt rfl rfl rfl) ?_
        refine F_nil ?_
        obtain ⟨yj193, Hyj193, H⟩ := of_bind H
        refine L_join (fun a w => ∃ (sum_205 : Int), ∃ (n_206 : Int), yj193 = (sum_205, n_206) ∧ Is Try.f60.ntmps a [(0, .slice A_lens_0 l_lens_0.length c_lens_0), (4, .int .i64 sum_205), (5, .int .i64 n_206), (6, .int .i64 i_186)] ∧ Hp S0 w0 w [.rd A_lens_0 (rowC (Eint .i64) l_lens_0)]) (fun Qj193 hNj193 hOj193 => ?_) (fun a w hR => ?_)
        · skip
          have H := Hyj193
          refine L_condP rfl (fun c207 => ?_) (fun c207 => ?_)
          · have H := of_pos H c207
            refine L_seq ?_
            refine L_region ?_
            refine F_val rfl rfl rfl (O_move rfl rfl) ?_
            refine F_val rfl rfl rfl (O_move rfl rfl) ?_
            refine F_val rfl rfl rfl (O_move rfl rfl) ?_
            refine F_val rfl rfl rfl (O_idx rfl rfl rfl Try.underlying22 size3 g191 g192 (Cells.isA (HS188.cells_rd (i := 0) rfl) (rowC_ne (E := (Eint .i64)) g191 g192 (by decide)))) ?_
            refine F_val rfl rfl rfl (O_loadC rfl rfl flat3 (HS188.cells_rd (i := 0) rfl) (int_cell g191 g192)) ?_
            obtain ⟨z210, h209, H⟩ := of_bind H
            refine F_qcall (v := .int .i64 z210) (xs := [.tmp 22]) rfl rfl rfl rfl Try.func74 nm74 rfl rfl ((valiseref5_rows.calls (HS188.give [] rfl (Lent.nil)) h209).mono (fun e w hc => ?_)) (fun w211 hw212 => ?_)
            · obtain ⟨rfl, h⟩ := hc
              exact ⟨rfl, h.chg0⟩
            have HS213 := HS188.keep hw212
            refine F_val rfl rfl rfl (O_add rfl rfl rfl) ?_
            obtain ⟨x214, h215, H⟩ := of_bnd H
            refine F_val rfl rfl rfl (O_assign' rfl rfl (congrArg (Value.int .i64) h215)) ?_
            refine F_nil ?_
            refine L_region ?_
            refine F_val rfl rfl rfl (O_move rfl rfl) ?_
            refine F_val rfl rfl rfl (O_add rfl rfl rfl) ?_
            obtain ⟨x216, h217, H⟩ := of_bnd H
            refine F_val rfl rfl rfl (O_assign' rfl rfl (congrArg (Value.int .i64) h217)) ?_
            refine F_nil ?_
            refine L_nil (fun a ha => hNj193 a _ ⟨_, _, (Option.some.inj H).symm, Is.cons ha (Is.cons ha (Is.cons ha (Is.cons ha (Is.nil ha) rfl) rfl) rfl) rfl, HS213.sel [0] rfl⟩)
          · have H := of_neg H c207
            refine L_skip ?_
            refine L_nil (fun a ha => hNj193 a _ ⟨_, _, (Option.some.inj H).symm, Is.cons ha (Is.cons ha (Is.cons ha (Is.cons ha (Is.nil ha) rfl) rfl) rfl) rfl, HS188.sel [0] rfl⟩)
        · obtain ⟨sum_205, n_206, rfl, ha, HS219⟩ := hR
          refine wpLF_app ?_ ha
          refine L_endB hN190 ?_
          refine L_region ?_
          refine F_val rfl rfl rfl (O_move rfl rfl) ?_
          refine F_val rfl rfl rfl (O_add rfl rfl rfl) ?_
          obtain ⟨x220, h221, H⟩ := of_bnd H
          refine F_val rfl rfl rfl (O_assign' rfl rfl (congrArg (Value.int .i64) h221)) ?_
          refine F_nil ?_
          refine L_nil (fun a ha => hNp183 _ a _ (Nat.lt_succ_self _) ⟨_, _, _, Is.cons ha (Is.cons ha (Is.cons ha (Is.cons ha (Is.nil ha) rfl) rfl) rfl) rfl, HS219.sel [0] rfl, H⟩)
      · have H := of_neg H c189
        refine L_exitB (fun a w h => hOp183 (.exit 0) a w rfl (hXb113 a w h)) ?_
        refine L_nil (fun a ha => hNj1 a _ ⟨_, _, (Option.some.inj H).symm, Is.cons ha (Is.cons ha (Is.nil ha) rfl) rfl, HS188.sel [0] rfl⟩)
  · obtain ⟨sum_111, n_112, rfl, ha, HS223⟩ := hR
    refine wpLF_app ?_ ha
    refine L_seq ?_
    refine L_region ?_
    refine F_val rfl rfl rfl (O_move rfl rfl) ?_
    refine F_val rfl rfl rfl (O_move rfl rfl) ?_
    refine F_val rfl rfl rfl (O_assign rfl rfl) ?_
    refine F_val rfl rfl rfl (O_assign rfl rfl) ?_
    refine F_nil ?_
    refine L_ret (fun a ha => (post_ret2 ha rfl rfl rfl ?_))
    obtain rfl := Option.some.inj H
    exact ⟨rfl, HS223.sel [] rfl⟩

/-! function 22: valise/valiseref5.Check -/
theorem valiseref5_Check.calls {S0 : Nat → Prop} {w0 : World} {A_lens_0 : Option Addr} {c_lens_0 : Nat} {l_lens_0 : List Int} {r : Int × Int} (HS0 : Hp S0 w0 w0 [.rd A_lens_0 (rowC (Eint .i64) l_lens_0)]) (hc_lens_0 : l_lens_0.length ≤ c_lens_0) (h : valiseref5_Check.f l_lens_0 = some r) :
    Calls Try.prog 22 ([.slice A_lens_0 l_lens_0.length c_lens_0] : List Value).toArray w0 (fun e w => e = .returned (.tuple #[.int .i64 r.1, .int .i64 r.2]) ∧ Hp S0 w0 w []) := by
  have H : (((valiseref5_valid.f l_lens_0).bind fun z3 => if z3 ≠ 0 then (some (0, z3)) else ((valiseref5_used.f l_lens_0).bind fun (z10, z11) => if z11 = 0 then (some (0, 0)) else (if (z11 = 1) ∧ (z10 = 16384) then (some (1, 0)) else (if 32768 < z10 then (some (3, 0)) else (if z10 = 32768 then (some (4, 0)) else (some (2, 0))))))) : Option (Int × Int)) = some r := h
  refine calls_start Try.func22 rfl rfl ?_
  refine L_seq ?_
  refine L_region ?_
  refine F_val rfl rfl rfl (O_assign rfl rfl) ?_
  refine F_val rfl rfl rfl (O_assign rfl rfl) ?_
  refine F_nil ?_
  refine L_seq ?_
  refine L_region ?_
  refine F_val rfl rfl rfl (O_move rfl rfl) ?_
  obtain ⟨z3, h2, H⟩ := of_bind H
  refine F_qcall (v := .int .i64 z3) (xs := [.tmp 7]) rfl rfl rfl rfl Try.func59 nm59 rfl rfl ((valiseref5_valid.calls (HS0.give [] rfl (Lent.rd HS0 (Lent.nil) (i := 0) rfl ((HS0.cells_rd (i := 0) rfl).self))) hc_lens_0 h2).mono (fun e w hc => ?_)) (fun w4 hw5 => ?_)
  · obtain ⟨rfl, h⟩ := hc
    exact ⟨rfl, h.chg0⟩
  have HS6 := HS0.keep hw5
  refine F_val rfl rfl rfl (O_assign rfl rfl) ?_
  refine F_nil ?_
  refine L_seq ?_
  refine L_seq ?_
  refine L_region ?_
  refine F_val rfl rfl rfl (O_move rfl rfl) ?_
  refine F_val rfl rfl rfl (O_ne rfl rfl rfl) ?_
  refine F_nil ?_
  refine L_condP rfl (fun c7 => ?_) (fun c7 => ?_)
  · have H := of_pos H c7
    refine L_seq ?_
    refine L_region ?_
    refine F_val rfl rfl rfl (O_move rfl rfl) ?_
    refine F_val rfl rfl rfl (O_assign rfl rfl) ?_
    refine F_val rfl rfl rfl (O_assign rfl rfl) ?_
    refine F_nil ?_
    refine L_ret (fun a ha => (post_ret2 ha rfl rfl rfl ?_))
    obtain rfl := Option.some.inj H
    exact ⟨rfl, HS6.sel [] rfl⟩
  · have H := of_neg H c7
    refine L_skip ?_
    refine L_seq ?_
    refine L_region ?_
    refine F_val rfl rfl rfl (O_move rfl rfl) ?_
    obtain ⟨⟨z10, z11⟩, h9, H⟩ := of_bind H
    refine F_qcall (v := .tuple #[.int .i64 z10, .int .i64 z11]) (xs := [.tmp 13]) rfl rfl rfl rfl Try.func60 nm60 rfl rfl ((valiseref5_used.calls (HS6.give [] rfl (Lent.rd HS6 (Lent.nil) (i := 0) rfl ((HS6.cells_rd (i := 0) rfl).self))) hc_lens_0 h9).mono (fun e w hc => ?_)) (fun w12 hw13 => ?_)
    · obtain ⟨rfl, h⟩ := hc
      exact ⟨rfl, h.chg0⟩
    have HS14 := HS6.keep hw13
    refine F_val rfl rfl rfl (O_move rfl rfl) ?_
    refine F_val rfl rfl rfl (O_extract (v := .int .i64 z10) rfl rfl rfl) ?_
    refine F_val rfl rfl rfl (O_extract (v := .int .i64 z11) rfl rfl rfl) ?_
    refine F_val rfl rfl rfl (O_assign rfl rfl) ?_
    refine F_val rfl rfl rfl (O_assign rfl rfl) ?_
    refine F_nil ?_
    refine L_seq ?_
    refine L_blk (fun Q15 hN15 hX15 hO15 => ?_)
    refine L_seq ?_
    refine L_region ?_
    refine F_val rfl rfl rfl (O_move rfl rfl) ?_
    refine F_val rfl rfl rfl (O_eq rfl rfl rfl) ?_
    refine F_val rfl rfl rfl (O_assign rfl rfl) ?_
    refine F_nil ?_
    refine L_condP rfl (fun c16 => ?_) (fun c16 => ?_)
    · have H := of_pos H c16
      refine L_seq ?_
      refine L_region ?_
      refine F_val rfl rfl rfl (O_assign rfl rfl) ?_
      refine F_val rfl rfl rfl (O_assign rfl rfl) ?_
      refine F_nil ?_
      refine L_ret (fun a ha => (hO15 .ret a _ rfl (post_ret2 ha rfl rfl rfl ?_)))
      obtain rfl := Option.some.inj H
      exact ⟨rfl, HS14.sel [] rfl⟩
    · have H := of_neg H c16
      refine L_seq ?_
      refine L_region ?_
      refine F_val rfl rfl rfl (O_move rfl rfl) ?_
      refine F_val rfl rfl rfl (O_eq rfl rfl rfl) ?_
      refine F_val rfl rfl rfl (O_move rfl rfl) ?_
      refine F_grp 3 [(26, .bool (decide ((z11 = 1) ∧ (z10 = 16384)))), (5, .int .i64 z10)] ?_ ?_
      · rcases Decidable.em (z11 = 1) with c20 | c20
        · refine F_know (i := 23) rfl (dec_t c20) ?_
          refine F_gval rfl rfl rfl rfl rfl rfl (O_move rfl rfl) ?_
          refine F_gval rfl rfl rfl rfl rfl rfl (O_eq rfl rfl rfl) ?_
          refine F_val rfl rfl rfl (O_pickT rfl rfl rfl) ?_
          refine F_know (i := 26) rfl (dec_and_t (q := z10 = 16384) c20) ?_
          exact F_grpE (fun a ha => Is.cons ha (Is.cons ha (Is.nil ha) rfl) rfl)
        · refine F_know (i := 23) rfl (dec_f c20) ?_
          refine F_gskip rfl rfl rfl rfl rfl rfl rfl ?_
          refine F_gskip rfl rfl rfl rfl rfl rfl rfl ?_
          refine F_val rfl rfl rfl (O_pickF rfl rfl rfl) ?_
          refine F_know (i := 26) rfl (dec_and_f (q := z10 = 16384) c20) ?_
          exact F_grpE (fun a ha => Is.cons ha (Is.cons ha (Is.nil ha) rfl) rfl)
      · skip
        refine F_val rfl rfl rfl (O_assign rfl rfl) ?_
        refine F_nil ?_
        refine L_condP rfl (fun c21 => ?_) (fun c21 => ?_)
        · have H := of_pos H c21
          refine L_seq ?_
          refine L_region ?_
          refine F_val rfl rfl rfl (O_assign rfl rfl) ?_
          refine F_val rfl rfl rfl (O_assign rfl rfl) ?_
          refine F_nil ?_
          refine L_ret (fun a ha => (hO15 .ret a _ rfl (post_ret2 ha rfl rfl rfl ?_)))
          obtain rfl := Option.some.inj H
          exact ⟨rfl, HS14.sel [] rfl⟩
        · have H := of_neg H c21
          refine L_seq ?_
          refine L_region ?_
          refine F_val rfl rfl rfl (O_move rfl rfl) ?_
          refine F_val rfl rfl rfl (O_gt rfl rfl rfl) ?_
          refine F_val rfl rfl rfl (O_assign rfl rfl) ?_
          refine F_nil ?_
          refine L_condP rfl (fun c22 => ?_) (fun c22 => ?_)
          · have H := of_pos H c22
            refine L_seq ?_
            refine L_region ?_
            refine F_val rfl rfl rfl (O_assign rfl rfl) ?_
            refine F_val rfl rfl rfl (O_assign rfl rfl) ?_
            refine F_nil ?_
            refine L_ret (fun a ha => (hO15 .ret a _ rfl (post_ret2 ha rfl rfl rfl ?_)))
            obtain rfl := Option.some.inj H
            exact ⟨rfl, HS14.sel [] rfl⟩
          · have H := of_neg H c22
            refine L_seq ?_
            refine L_region ?_
            refine F_val rfl rfl rfl (O_move rfl rfl) ?_
            refine F_val rfl rfl rfl (O_eq rfl rfl rfl) ?_
            refine F_val rfl rfl rfl (O_assign rfl rfl) ?_
            refine F_nil ?_
            refine L_condP rfl (fun c23 => ?_) (fun c23 => ?_)
            · have H := of_pos H c23
              refine L_seq ?_
              refine L_region ?_
              refine F_val rfl rfl rfl (O_assign rfl rfl) ?_
              refine F_val rfl rfl rfl (O_assign rfl rfl) ?_
              refine F_nil ?_
              refine L_ret (fun a ha => (hO15 .ret a _ rfl (post_ret2 ha rfl rfl rfl ?_)))
              obtain rfl := Option.some.inj H
              exact ⟨rfl, HS14.sel [] rfl⟩
            · have H := of_neg H c23
              refine L_skip ?_
              refine L_endB hN15 ?_
              refine L_seq ?_
              refine L_region ?_
              refine F_val rfl rfl rfl (O_assign rfl rfl) ?_
              refine F_val rfl rfl rfl (O_assign rfl rfl) ?_
              refine F_nil ?_
              refine L_ret (fun a ha => (post_ret2 ha rfl rfl rfl ?_))
              obtain rfl := Option.some.inj H
              exact ⟨rfl, HS14.sel [] rfl⟩

/-! function 26: valise/valiseref5.Codes -/
theorem valiseref5_Codes.calls {S0 : Nat → Prop} {w0 : World} {A_lens_0 : Option Addr} {c_lens_0 : Nat} {l_lens_0 : List Int} {r : List Int × Int} (HS0 : Hp S0 w0 w0 [.rd A_lens_0 (rowC (Eint .i64) l_lens_0)]) (hc_lens_0 : l_lens_0.length ≤ c_lens_0) (h : valiseref5_Codes.f l_lens_0 = some r) :
    Calls Try.prog 26 ([.slice A_lens_0 l_lens_0.length c_lens_0] : List Value).toArray w0 (fun e w => ∃ (A1 : Option Addr), ∃ (c1 : Nat), e = .returned (.tuple #[.slice A1 r.1.length c1, .int .i64 r.2]) ∧ Hp S0 w0 w [.own A1 c1 (rowC (Eint .i64) r.1) 3 (Eint .i64).sz]) := by
  have H : (((valiseref5_Check.f l_lens_0).bind fun (z3, z4) => if z4 ≠ 0 then (some (([] : List Int), z4)) else (if z3 = 3 then (some (([] : List Int), 51)) else (gd ((0 : Int) ≤ (l_lens_0.length : Int) ∧ (l_lens_0.length : Int) * 8 ≤ 281474976710656) (bnd (List.replicate ((l_lens_0.length : Int) : Int).toNat (0 : Int)) fun l18 => (valiseref5_Codes.l11 FU l18 0 1 l_lens_0).bind fun l684 => some (l684, 0))))) : Option (List Int × Int)) = some r := h
  refine calls_start Try.func26 rfl rfl ?_
  refine L_seq ?_
  refine L_region ?_
  refine F_val rfl rfl rfl (O_assign rfl rfl) ?_
  refine F_val rfl rfl rfl (O_assign rfl rfl) ?_
  refine F_nil ?_
  refine L_seq ?_
  refine L_region ?_
  refine F_val rfl rfl rfl (O_move rfl rfl) ?_
  obtain ⟨⟨z3, z4⟩, h2, H⟩ := of_bind H
  refine F_qcall (v := .tuple #[.int .i64 z3, .int .i64 z4]) (xs := [.tmp 11]) rfl rfl rfl rfl Try.func22 nm22 rfl rfl ((valiseref5_Check.calls (HS0.give [] rfl (Lent.rd HS0 (Lent.nil) (i := 0) rfl ((HS0.cells_rd (i := 0) rfl).self))) hc_lens_0 h2).mono (fun e w hc => ?_)) (fun w5 hw6 => ?_)
  · obtain ⟨rfl, h⟩ := hc
    exact ⟨rfl, h.chg0⟩
  have HS7 := HS0.keep hw6
  refine F_val rfl rfl rfl (O_move rfl rfl) ?_
  refine F_val rfl rfl rfl (O_extract (v := .int .i64 z3) rfl rfl rfl) ?_
  refine F_val rfl rfl rfl (O_extract (v := .int .i64 z4) rfl rfl rfl) ?_
  refine F_val rfl rfl rfl (O_assign rfl rfl) ?_
  refine F_val rfl rfl rfl (O_assign rfl rfl) ?_
  refine F_nil ?_
  refine L_seq ?_
  refine L_seq ?_
  refine L_region ?_
  refine F_val rfl rfl rfl (O_move rfl rfl) ?_
  refine F_val rfl rfl rfl (O_ne rfl rfl rfl) ?_
  refine F_nil ?_
  refine L_condP rfl (fun c8 => ?_) (fun c8 => ?_)
  · have H := of_pos H c8
    refine L_seq ?_
    refine L_region ?_
    refine F_val rfl rfl rfl (O_move rfl rfl) ?_
    refine F_val rfl rfl rfl (O_assign rfl rfl) ?_
    refine F_val rfl rfl rfl (O_assign rfl rfl) ?_
    refine F_nil ?_
    have HS9 := HS7.addNil 3 (Eint .i64).sz
    refine L_ret (fun a ha => (post_ret2 ha rfl rfl rfl ?_))
    obtain rfl := Option.some.inj H
    exact ⟨_, _, rfl, HS9.sel [1] rfl⟩
  · have H := of_neg H c8
    refine L_skip ?_
    refine L_seq ?_
    refine L_seq ?_
    refine L_region ?_
    refine F_val rfl rfl rfl (O_move rfl rfl) ?_
    refine F_val rfl rfl rfl (O_eq rfl rfl rfl) ?_
    refine F_nil ?_
    refine L_condP rfl (fun c11 => ?_) (fun c11 => ?_)
    · have H := of_pos H c11
      refine L_seq ?_
      refine L_region ?_
      refine F_val rfl rfl rfl (O_assign rfl rfl) ?_
      refine F_val rfl rfl rfl (O_assign rfl rfl) ?_
      refine F_nil ?_
      have HS12 := HS7.addNil 3 (Eint .i64).sz
      refine L_ret (fun a ha => (post_ret2 ha rfl rfl rfl ?_))
      obtain rfl := Option.some.inj H
      exact ⟨_, _, rfl, HS12.sel [1] rfl⟩
    · have H := of_neg H c11
      refine L_skip ?_
      refine L_seq ?_
      refine L_region ?_
      refine F_val rfl rfl rfl (O_move rfl rfl) ?_
      refine F_val rfl rfl rfl (O_len rfl rfl Try.underlying22) ?_
      obtain ⟨⟨g16, g17⟩, H⟩ := of_gd H
      obtain ⟨l18, h19, H⟩ := of_bnd H
      refine F_makeE (E := (Eint .i64)) rfl rfl rfl rfl rfl rfl Try.underlying22 info3 rfl (by decide) (by decide) g16 g17 HS7 h19 (fun w14 A20 c21 HS15 => ?_)
      have HS15 : Hp S0 w0 w14 [.rd A_lens_0 (rowC (Eint .i64) l_lens_0), .own A20 c21 (rowC (Eint .i64) l18) 3 (Eint .i64).sz] := HS15
      refine F_val rfl rfl rfl (O_assign rfl rfl) ?_
      refine F_nil ?_
      refine L_seq ?_
      refine L_region ?_
      refine F_val rfl rfl rfl (O_assign rfl rfl) ?_
      refine F_nil ?_
      refine L_seq ?_
      refine L_seq ?_
      refine L_region ?_
      refine F_val rfl rfl rfl (O_assign rfl rfl) ?_
      refine F_nil ?_
      obtain ⟨yj23, Hyj23, H⟩ := of_bind H
      refine L_join (fun a w => ∃ (l684 : List Int), yj23 = l684 ∧ Is Try.f26.ntmps a [(6, .slice A20 l684.length c21)] ∧ Hp S0 w0 w [.rd A_lens_0 (rowC (Eint .i64) l_lens_0), .own A20 c21 (rowC (Eint .i64) l684) 3 (Eint .i64).sz]) (fun Qj23 hNj23 hOj23 => ?_) (fun a w hR => ?_)
      · skip
        have H := Hyj23
        refine L_blk (fun Qb685 hNb685 hXb685 hOb685 => ?_)
        refine L_lp (fun k a w => ∃ (l1123 : List Int), ∃ (next_1124 : Int), ∃ (l_1125 : Int), Is Try.f26.ntmps a [(0, .slice A_lens_0 l_lens_0.length c_lens_0), (6, .slice A20 l1123.length c21), (7, .int .i64 next_1124), (8, .int .i64 l_1125)] ∧ Hp S0 w0 w [.rd A_lens_0 (rowC (Eint .i64) l_lens_0), .own A20 c21 (rowC (Eint .i64) l1123) 3 (Eint .i64).sz] ∧ valiseref5_Codes.l11 k l1123 next_1124 l_1125 l_lens_0 = some yj23) FU (fun a ha => ⟨_, _, _, Is.cons ha (Is.cons ha (Is.cons ha (Is.cons ha (Is.nil ha) rfl) rfl) rfl) rfl, HS15.sel [0, 1] rfl, H⟩) (fun kp1122 a w1126 hI Qp1122 hNp1122 hOp1122 => ?_)
        obtain ⟨l1123, next_1124, l_1125, ha, HS1127, HAp1122⟩ := hI
        cases kp1122 with
        | zero => cases (show (none : Option _) = some _ from HAp1122)
        | succ kp1122 =>
          have H := (valiseref5_Codes.l11.eq_2 ..).symm.trans HAp1122
          refine wpLF_app ?_ ha
          refine L_seq ?_
          refine L_seq ?_
          refine L_region ?_
          refine F_val rfl rfl rfl (O_move rfl rfl) ?_
          refine F_val rfl rfl rfl (O_le rfl rfl rfl) ?_
          refine F_nil ?_
          refine L_condP rfl (fun c1128 => ?_) (fun c1128 => ?_)
          · have H := of_pos H c1128
            refine L_skip ?_
            refine L_seq ?_
            refine L_blk (fun Q1129 hN1129 hX1129 hO1129 => ?_)
            refine L_seq ?_
            refine L_region ?_
            refine F_val rfl rfl rfl (O_move rfl rfl) ?_
            refine F_val rfl rfl rfl (O_mul rfl rfl rfl) ?_
            obtain ⟨x1130, h1131, H⟩ := of_bnd H
            refine F_val rfl rfl rfl (O_assign' rfl rfl (congrArg (Value.int .i64) h1131)) ?_
            refine F_nil ?_
            refine L_seq ?_
            refine L_region ?_
            refine F_val rfl rfl rfl (O_assign rfl rfl) ?_
            refine F_nil ?_
            obtain ⟨yj1132, Hyj1132, H⟩ := of_bind H
            refine L_join (fun a w => ∃ (l1236 : List Int), ∃ (next_1237 : Int), yj1132 = (l1236, next_1237) ∧ Is Try.f26.ntmps a [(0, .slice A_lens_0 l_lens_0.length c_lens_0), (6, .slice A20 l1236.length c21), (7, .int .i64 next_1237), (8, .int .i64 l_1125)] ∧ Hp S0 w0 w [.rd A_lens_0 (rowC (Eint .i64) l_lens_0), .own A20 c21 (rowC (Eint .i64) l1236) 3 (Eint .i64).sz]) (fun Qj1132 hNj1132 hOj1132 => ?_) (fun a w hR => ?_)
            · skip
              have H := Hyj1132
              refine L_blk (fun Qb1238 hNb1238 hXb1238 hOb1238 => ?_)
              refine L_lp (fun k a w => ∃ (l1305 : List Int), ∃ (next_1306 : Int), ∃ (s_1307 : Int), Is Try.f26.ntmps a [(0, .slice A_lens_0 l_lens_0.length c_lens_0), (6, .slice A20 l1305.length c21), (7, .int .i64 next_1306), (8, .int .i64 l_1125), (9, .int .i64 s_1307)] ∧ Hp S0 w0 w [.rd A_lens_0 (rowC (Eint .i64) l_lens_0), .own A20 c21 (rowC (Eint .i64) l1305) 3 (Eint .i64).sz] ∧ valiseref5_Codes.l13 k l1305 next_1306 s_1307 l_lens_0 l_1125 = some yj1132) FU (fun a ha => ⟨_, _, _, Is.cons ha (Is.cons ha (Is.cons ha (Is.cons ha (Is.cons ha (Is.nil ha) rfl) rfl) rfl) rfl) rfl, HS1127.sel [0, 1] rfl, H⟩) (fun kp1304 a w1308 hI Qp1304 hNp1304 hOp1304 => ?_)
              obtain ⟨l1305, next_1306, s_1307, ha, HS1309, HAp1304⟩ := hI
              cases kp1304 with
              | zero => cases (show (none : Option _) = some _ from HAp1304)
              | succ kp1304 =>
                have H := (valiseref5_Codes.l13.eq_2 ..).symm.trans HAp1304
                refine wpLF_app ?_ ha
                refine L_seq ?_
                refine L_seq ?_
                refine L_region ?_
                refine F_val rfl rfl rfl (O_move rfl rfl) ?_
                refine F_val rfl rfl rfl (O_move rfl rfl) ?_
                refine F_val rfl rfl rfl (O_len rfl rfl Try.underlying22) ?_
                refine F_val rfl rfl rfl (O_lt rfl rfl rfl) ?_
                refine F_nil ?_
                refine L_condP rfl (fun c1310 => ?_) (fun c1310 => ?_)
                · have H := of_pos H c1310
                  refine L_skip ?_
                  refine L_seq ?_
                  refine L_blk (fun Q1311 hN1311 hX1311 hO1311 => ?_)
                  refine L_seq ?_
                  refine L_region ?_
                  refine F_val rfl rfl rfl (O_move rfl rfl) ?_
                  refine F_val rfl rfl rfl (O_move rfl rfl) ?_
                  obtain ⟨⟨g1312, g1313⟩, H⟩ := of_gd H
                  refine F_val rfl rfl rfl (O_idx rfl rfl rfl Try.underlying22 size3 g1312 g1313 (Cells.isA (HS1309.cells_rd (i := 0) rfl) (rowC_ne (E := (Eint .i64)) g1312 g1313 (by decide)))) ?_
                  refine F_val rfl rfl rfl (O_loadC rfl rfl flat3 (HS1309.cells_rd (i := 0) rfl) (int_cell g1312 g1313)) ?_
                  refine F_val rfl rfl rfl (O_move rfl rfl) ?_
                  refine F_val rfl rfl rfl (O_eq rfl rfl rfl) ?_
                  refine F_nil ?_
                  obtain ⟨yj1314, Hyj1314, H⟩ := of_bind H
                  refine L_join (fun a w => ∃ (l1325 : List Int), ∃ (next_1326 : Int), yj1314 = (l1325, next_1326) ∧ Is Try.f26.ntmps a [(0, .slice A_lens_0 l_lens_0.length c_lens_0), (6, .slice A20 l1325.length c21), (7, .int .i64 next_1326), (8, .int .i64 l_1125), (9, .int .i64 s_1307)] ∧ Hp S0 w0 w [.rd A_lens_0 (rowC (Eint .i64) l_lens_0), .own A20 c21 (rowC (Eint .i64) l1325) 3 (Eint .i64).sz]) (fun Qj1314 hNj1314 hOj1314 => ?_) (fun a w hR => ?_)
                  · skip
                    have H := Hyj1314
                    refine L_condP rfl (fun c1327 => ?_) (fun c1327 => ?_)
                    · have H := of_pos H c1327
                      refine L_seq ?_
                      refine L_region ?_
                      refine F_val rfl rfl rfl (O_move rfl rfl) ?_
                      refine F_val rfl rfl rfl (O_move rfl rfl) ?_
                      refine F_val rfl rfl rfl (O_move rfl rfl) ?_
                      obtain ⟨⟨g1328, g1329⟩, H⟩ := of_gd H
                      refine F_val rfl rfl rfl (O_idx rfl rfl rfl Try.underlying22 size3 g1328 g1329 (Cells.isA (HS1309.cells_own (i := 1) rfl) (rowC_ne (E := (Eint .i64)) g1328 g1329 (by decide)))) ?_
                      obtain ⟨l1332, h1333, H⟩ := of_bnd H
                      refine F_setE (E := (Eint .i64)) (i := 1) (a := next_1306) (q := s_1307) rfl rfl rfl rfl rfl rfl size3 HS1309 rfl (by decide) g1328 g1329 h1333 (fun w1330 HS1331 => ?_)
                      have e1334 : l1305.length = l1332.length := by rw [← h1333, List.length_set]
                      refine F_know (i := 6) rfl (congrArg (fun n => Value.slice A20 n c21) e1334) ?_
                      have HS1331 : Hp S0 w0 w1330 [.rd A_lens_0 (rowC (Eint .i64) l_lens_0), .own A20 c21 (rowC (Eint .i64) l1332) 3 (Eint .i64).sz] := HS1331
                      refine F_nil ?_
                      refine L_region ?_
                      refine F_val rfl rfl rfl (O_move rfl rfl) ?_
                      refine F_val rfl rfl rfl (O_add rfl rfl rfl) ?_
                      obtain ⟨x1335, h1336, H⟩ := of_bnd H
                      refine F_val rfl rfl rfl (O_assign' rfl rfl (congrArg (Value.int .i64) h1336)) ?_
                      refine F_nil ?_
                      refine L_nil (fun a ha => hNj1314 a _ ⟨_, _, (Option.some.inj H).symm, Is.cons ha (Is.cons ha (Is.cons ha (Is.cons ha (Is.cons ha (Is.nil ha) rfl) rfl) rfl) rfl) rfl, HS1331.sel [0, 1] rfl⟩)
                    · have H := of_neg H c1327
                      refine L_skip ?_
                      refine L_nil (fun a ha => hNj1314 a _ ⟨_, _, (Option.some.inj H).symm, Is.cons ha (Is.cons ha (Is.cons ha (Is.cons ha (Is.cons ha (Is.nil ha) rfl) rfl) rfl) rfl) rfl, HS1309.sel [0, 1] rfl⟩)
                  · obtain ⟨l1325, next_1326, rfl, ha, HS1338⟩ := hR
                    refine wpLF_app ?_ ha
                    refine L_endB hN1311 ?_
                    refine L_region ?_
                    refine F_val rfl rfl rfl (O_move rfl rfl) ?_
                    refine F_val rfl rfl rfl (O_add rfl rfl rfl) ?_
                    obtain ⟨x1339, h1340, H⟩ := of_bnd H
                    refine F_val rfl rfl rfl (O_assign' rfl rfl (congrArg (Value.int .i64) h1340)) ?_
                    refine F_nil ?_
                    refine L_nil (fun a ha => hNp1304 _ a _ (Nat.lt_succ_self _) ⟨_, _, _, Is.cons ha (Is.cons ha (Is.cons ha (Is.cons ha (Is.cons ha (Is.nil ha) rfl) rfl) rfl) rfl) rfl, HS1338.sel [0, 1] rfl, H⟩)
                · have H := of_neg H c1310
                  refine L_exitB (fun a w h => hOp1304 (.exit 2) a w rfl (hXb1238 a w h)) ?_
                  refine L_nil (fun a ha => hNj1132 a _ ⟨_, _, (Option.some.inj H).symm, Is.cons ha (Is.cons ha (Is.cons ha (Is.cons ha (Is.nil ha) rfl) rfl) rfl) rfl, HS1309.sel [0, 1] rfl⟩)
            · obtain ⟨l1236, next_1237, rfl, ha, HS1342⟩ := hR
              refine wpLF_app ?_ ha
              refine L_endB hN1129 ?_
              refine L_region ?_
              refine F_val rfl rfl rfl (O_move rfl rfl) ?_
              refine F_val rfl rfl rfl (O_add rfl rfl rfl) ?_
              obtain ⟨x1343, h1344, H⟩ := of_bnd H
              refine F_val rfl rfl rfl (O_assign' rfl rfl (congrArg (Value.int .i64) h1344)) ?_
              refine F_nil ?_
              refine L_nil (fun a ha => hNp1122 _ a _ (Nat.lt_succ_self _) ⟨_, _, _, Is.cons ha (Is.cons ha (Is.cons ha (Is.cons ha (Is.nil ha) rfl) rfl) rfl) rfl, HS1342.sel [0, 1] rfl, H⟩)
          · have H := of_neg H c1128
            refine L_exitB (fun a w h => hOp1122 (.exit 0) a w rfl (hXb685 a w h)) ?_
            refine L_nil (fun a ha => hNj23 a _ ⟨_, (Option.some.inj H).symm, Is.cons ha (Is.nil ha) rfl, HS1127.sel [0, 1] rfl⟩)
      · obtain ⟨l684, ej, ha, HS1346⟩ := hR
        obtain rfl := ej.symm
        refine wpLF_app ?_ ha
        refine L_seq ?_
        refine L_region ?_
        refine F_val rfl rfl rfl (O_move rfl rfl) ?_
        refine F_val rfl rfl rfl (O_assign rfl rfl) ?_
        refine F_val rfl rfl rfl (O_assign rfl rfl) ?_
        refine F_nil ?_
        refine L_ret (fun a ha => (post_ret2 ha rfl rfl rfl ?_))
        obtain rfl := Option.some.inj H
        exact ⟨_, _, rfl, HS1346.sel [1] rfl⟩

/-! function 23: valise/valiselaw5.num -/
theorem valiselaw5_num.calls {S0 : Nat → Prop} {w0 : World} {e_0 : Int} {r : Int} (HS0 : Hp S0 w0 w0 []) (h : valiselaw5_num.f e_0 = some r) :
    Calls Try.prog 23 ([.int .i64 e_0] : List Value).toArray w0 (fun e w => e = .returned (.int .i64 r) ∧ Hp S0 w0 w []) := by
  have H : ((some e_0) : Option (Int)) = some r := h
  refine calls_start Try.func23 rfl rfl ?_
  refine L_seq ?_
  refine L_region ?_
  refine F_val rfl rfl rfl (O_assign rfl rfl) ?_
  refine F_nil ?_
  refine L_seq ?_
  refine L_region ?_
  refine F_val rfl rfl rfl (O_move rfl rfl) ?_
  refine F_val rfl rfl rfl (O_assign rfl rfl) ?_
  refine F_nil ?_
  refine L_ret (fun a ha => (post_ret1 ha rfl rfl ?_))
  obtain rfl := Option.some.inj H
  exact ⟨rfl, HS0.sel [] rfl⟩

/-! function 15: valise/valiselaw5.same -/
theorem valiselaw5_same.calls {S0 : Nat → Prop} {w0 : World} {A_a_0 : Option Addr} {c_a_0 : Nat} {A_b_1 : Option Addr} {c_b_1 : Nat} {l_a_0 : List Int} {l_b_1 : List Int} {r : Bool} (HS0 : Hp S0 w0 w0 [.rd A_a_0 (rowC (Eint .i64) l_a_0), .rd A_b_1 (rowC (Eint .i64) l_b_1)]) (hc_a_0 : l_a_0.length ≤ c_a_0) (hc_b_1 : l_b_1.length ≤ c_b_1) (h : valiselaw5_same.f l_a_0 l_b_1 = some r) :
    Calls Try.prog 15 ([.slice A_a_0 l_a_0.length c_a_0, .slice A_b_1 l_b_1.length c_b_1] : List Value).toArray w0 (fun e w => e = .returned (.bool r) ∧ Hp S0 w0 w []) := by
  have H : ((if (l_a_0.length : Int) ≠ (l_b_1.length : Int) then (some false) else ((valiselaw5_same.l1 FU 0 l_a_0 l_b_1).bind fun (yj2 : Sum (Bool) (Unit)) => onR yj2 (fun r => some r) fun () => some true)) : Option (Bool)) = some r := h
  refine calls_start Try.func15 rfl rfl ?_
  refine L_seq ?_
  refine L_region ?_
  refine F_val rfl rfl rfl (O_assign rfl rfl) ?_
  refine F_nil ?_
  refine L_seq ?_
  refine L_seq ?_
  refine L_region ?_
  refine F_val rfl rfl rfl (O_move rfl rfl) ?_
  refine F_val rfl rfl rfl (O_len rfl rfl Try.underlying22) ?_
  refine F_val rfl rfl rfl (O_move rfl rfl) ?_
  refine F_val rfl rfl rfl (O_len rfl rfl Try.underlying22) ?_
  refine F_val rfl rfl rfl (O_ne rfl rfl rfl) ?_
  refine F_nil ?_
  refine L_condP rfl (fun c1 => ?_) (fun c1 => ?_)
  · have H := of_pos H c1
    refine L_seq ?_
    refine L_region ?_
    refine F_val rfl rfl rfl (O_assign rfl rfl) ?_
    refine F_nil ?_
    refine L_ret (fun a ha => (post_ret1 ha rfl rfl ?_))
    obtain rfl := Option.some.inj H
    exact ⟨rfl, HS0.sel [] rfl⟩
  · have H := of_neg H c1
    refine L_skip ?_
    refine L_seq ?_
    refine L_seq ?_
    refine L_region ?_
    refine F_val rfl rfl rfl (O_assign rfl rfl) ?_
    refine F_nil ?_
    obtain ⟨yj2, Hyj2, H⟩ := of_bind H
    refine L_join (fun a w => yj2 = Sum.inr () ∧ Is Try.f15.ntmps a [] ∧ Hp S0 w0 w [.rd A_a_0 (rowC (Eint .i64) l_a_0), .rd A_b_1 (rowC (Eint .i64) l_b_1)]) (fun Qj2 hNj2 hOj2 => ?_) (fun a w hR => ?_)
    · have HOj2 := H
      have H := Hyj2
      refine L_blk (fun Qb45 hNb45 hXb45 hOb45 => ?_)
      refine L_lp (fun k a w => ∃ (i_72 : Int), Is Try.f15.ntmps a [(0, .slice A_a_0 l_a_0.length c_a_0), (1, .slice A_b_1 l_b_1.length c_b_1), (5, .int .i64 i_72)] ∧ Hp S0 w0 w [.rd A_a_0 (rowC (Eint .i64) l_a_0), .rd A_b_1 (rowC (Eint .i64) l_b_1)] ∧ valiselaw5_same.l1 k i_72 l_a_0 l_b_1 = some yj2) FU (fun a ha => ⟨_, Is.cons ha (Is.cons ha (Is.cons ha (Is.nil ha) rfl) rfl) rfl, HS0.sel [0, 1] rfl, H⟩) (fun kp71 a w73 hI Qp71 hNp71 hOp71 => ?_)
      obtain ⟨i_72, ha, HS74, HAp71⟩ := hI
      cases kp71 with
      | zero => cases (show (none : Option _) = some _ from HAp71)
      | succ kp71 =>
        have H := (valiselaw5_same.l1.eq_2 ..).symm.trans HAp71
        refine wpLF_app ?_ ha
        refine L_seq ?_
        refine L_seq ?_
        refine L_region ?_
        refine F_val rfl rfl rfl (O_move rfl rfl) ?_
        refine F_val rfl rfl rfl (O_move rfl rfl) ?_
        refine F_val rfl rfl rfl (O_len rfl rfl Try.underlying22) ?_
        refine F_val rfl rfl rfl (O_lt rfl rfl rfl) ?_
        refine F_nil ?_
        refine L_condP rfl (fun c75 => ?_) (fun c75 => ?_)
        · have H := of_pos H c75
          refine L_skip ?_
          refine L_seq ?_
          refine L_blk (fun Q76 hN76 hX76 hO76 => ?_)
          refine L_seq ?_
          refine L_quiet mix (by kernel_rfl) ?_
          refine Q_val rfl rfl rfl (fun wq hq => O_move rfl rfl) ?_
          refine Q_val rfl rfl rfl (fun wq hq => O_move rfl rfl) ?_
          obtain ⟨⟨g77, g78⟩, H⟩ := of_gd H
          refine Q_val rfl rfl rfl (fun wq hq => O_idx rfl rfl rfl Try.underlying22 size3 g77 g78 (Cells.isA ((HS74.keep hq).cells_rd (i := 0) rfl) (rowC_ne (E := (Eint .i64)) g77 g78 (by decide)))) ?_
          refine Q_val rfl rfl rfl (fun wq hq => O_loadC rfl rfl flat3 ((HS74.keep hq).cells_rd (i := 0) rfl) (int_cell g77 g78)) ?_
          refine Q_val rfl rfl rfl (fun wq hq => O_move rfl rfl) ?_
          refine Q_val rfl rfl rfl (fun wq hq => O_move rfl rfl) ?_
          obtain ⟨⟨g79, g80⟩, H⟩ := of_gd H
          refine Q_val rfl rfl rfl (fun wq hq => O_idx rfl rfl rfl Try.underlying22 size3 g79 g80 (Cells.isA ((HS74.keep hq).cells_rd (i := 1) rfl) (rowC_ne (E := (Eint .i64)) g79 g80 (by decide)))) ?_
          refine Q_val rfl rfl rfl (fun wq hq => O_loadC rfl rfl flat3 ((HS74.keep hq).cells_rd (i := 1) rfl) (int_cell g79 g80)) ?_
          refine Q_val rfl rfl rfl (fun wq hq => O_ne rfl rfl rfl) ?_
          refine Q_nil (fun w81 hw82 => ?_)
          have HS83 := HS74.keep hw82
          refine L_condP rfl (fun c84 => ?_) (fun c84 => ?_)
          · have H := of_pos H c84
            refine L_seq ?_
            refine L_region ?_
            refine F_val rfl rfl rfl (O_assign rfl rfl) ?_
            refine F_nil ?_
            refine L_ret (fun a ha => (hO76 .ret a _ rfl (hOp71 .ret a _ rfl (hOb45 .ret a _ rfl (hOj2 .ret a _ rfl (post_ret1 ha rfl rfl ?_))))))
            obtain rfl := Option.some.inj H
            obtain rfl := Option.some.inj (show (some false : Option (Bool)) = some _ from HOj2)
            exact ⟨rfl, HS83.sel [] rfl⟩
          · have H := of_neg H c84
            refine L_skip ?_
            refine L_endB hN76 ?_
            refine L_region ?_
            refine F_val rfl rfl rfl (O_move rfl rfl) ?_
            refine F_val rfl rfl rfl (O_add rfl rfl rfl) ?_
            obtain ⟨x85, h86, H⟩ := of_bnd H
            refine F_val rfl rfl rfl (O_assign' rfl rfl (congrArg (Value.int .i64) h86)) ?_
            refine F_nil ?_
            refine L_nil (fun a ha => hNp71 _ a _ (Nat.lt_succ_self _) ⟨_, Is.cons ha (Is.cons ha (Is.cons ha (Is.nil ha) rfl) rfl) rfl, HS83.sel [0, 1] rfl, H⟩)
        · have H := of_neg H c75
          refine L_exitB (fun a w h => hOp71 (.exit 0) a w rfl (hXb45 a w h)) ?_
          refine L_nil (fun a ha => hNj2 a _ ⟨(Option.some.inj H).symm, Is.nil ha, HS74.sel [0, 1] rfl⟩)
    · obtain ⟨rfl, ha, HS88⟩ := hR
      refine wpLF_app ?_ ha
      have H := (onR_inr _ _ _).symm.trans H
      refine L_seq ?_
      refine L_region ?_
      refine F_val rfl rfl rfl (O_assign rfl rfl) ?_
      refine F_nil ?_
      refine L_ret (fun a ha => (post_ret1 ha rfl rfl ?_))
      obtain rfl := Option.some.inj H
      exact ⟨rfl, HS88.sel [] rfl⟩

/-! function 24: valise/valiselaw5.whole -/
theorem valiselaw5_whole.calls {S0 : Nat → Prop} {w0 : World} {A_m_0 : Option Addr} {c_m_0 : Nat} {A_l_1 : Option Addr} {c_l_1 : Nat} {l_m_0 : List Int} {l_l_1 : List Int} {r : Bool} (HS0 : Hp S0 w0 w0 [.rd A_m_0 (rowC (Eint .i64) l_m_0), .rd A_l_1 (rowC (Eint .i64) l_l_1)]) (hc_m_0 : l_m_0.length ≤ c_m_0) (hc_l_1 : l_l_1.length ≤ c_l_1) (h : valiselaw5_whole.f l_m_0 l_l_1 = some r) :
    Calls Try.prog 24 ([.slice A_m_0 l_m_0.length c_m_0, .slice A_l_1 l_l_1.length c_l_1] : List Value).toArray w0 (fun e w => e = .returned (.bool r) ∧ Hp S0 w0 w []) := by
  have H : ((bnd ((l_l_1.length : Int)) fun x1 => (if (l_m_0.length : Int) ≠ IntKind.i64.wrap (x1 + 3) then (some true) else (gd ((0 : Int) ≤ x1 ∧ x1 < (l_m_0.length : Int)) (some (decide (rd l_m_0 x1 ≠ (-71)))))).bind fun b5 => (if b5 = true then (some true) else (gd ((0 : Int) ≤ (IntKind.i64.wrap (x1 + 1)) ∧ (IntKind.i64.wrap (x1 + 1)) < (l_m_0.length : Int)) (some (decide (rd l_m_0 (IntKind.i64.wrap (x1 + 1)) ≠ (-72)))))).bind fun b14 => (if b14 = true then (some true) else (gd ((0 : Int) ≤ (IntKind.i64.wrap (x1 + 2)) ∧ (IntKind.i64.wrap (x1 + 2)) < (l_m_0.length : Int)) (some (decide (rd l_m_0 (IntKind.i64.wrap (x1 + 2)) ≠ (-73)))))).bind fun b23 => if b23 = true then (some false) else (gd ((0 : Int) ≤ x1 ∧ x1 ≤ (l_m_0.length : Int)) ((valiselaw5_same.f (l_m_0.take (x1 : Int).toNat) l_l_1).bind fun z35 => some z35))) : Option (Bool)) = some r := h
  refine calls_start Try.func24 rfl rfl ?_
  refine L_seq ?_
  refine L_region ?_
  refine F_val rfl rfl rfl (O_assign rfl rfl) ?_
  refine F_nil ?_
  refine L_seq ?_
  refine L_region ?_
  refine F_val rfl rfl rfl (O_move rfl rfl) ?_
  refine F_val rfl rfl rfl (O_len rfl rfl Try.underlying22) ?_
  obtain ⟨x1, h2, H⟩ := of_bnd H
  refine F_val rfl rfl rfl (O_assign' rfl rfl (congrArg (Value.int .i64) h2)) ?_
  refine F_nil ?_
  refine L_seq ?_
  refine L_seq ?_
  refine L_region ?_
  refine F_val rfl rfl rfl (O_move rfl rfl) ?_
  refine F_val rfl rfl rfl (O_len rfl rfl Try.underlying22) ?_
  refine F_val rfl rfl rfl (O_move rfl rfl) ?_
  refine F_val rfl rfl rfl (O_add rfl rfl rfl) ?_
  refine F_val rfl rfl rfl (O_ne rfl rfl rfl) ?_
  refine F_val rfl rfl rfl (O_move rfl rfl) ?_
  obtain ⟨b5, Hb5, H⟩ := of_bind H
  refine F_grp 6 [(19, .bool b5), (0, .slice A_m_0 l_m_0.length c_m_0), (1, .slice A_l_1 l_l_1.length c_l_1), (5, .int .i64 x1)] ?_ ?_
  · rcases Decidable.em ((l_m_0.length : Int) ≠ IntKind.i64.wrap (x1 + 3)) with c9 | c9
    · refine F_know (i := 13) rfl (dec_t c9) ?_
      have H := of_pos Hb5 c9
      refine F_gskip rfl rfl rfl rfl rfl rfl rfl ?_
      refine F_gskip rfl rfl rfl rfl rfl rfl rfl ?_
      refine F_gskip rfl rfl rfl rfl rfl rfl rfl ?_
      refine F_gskip rfl rfl rfl rfl rfl rfl rfl ?_
      refine F_gskip rfl rfl rfl rfl rfl rfl rfl ?_
      refine F_val rfl rfl rfl (O_pickT rfl rfl rfl) ?_
      refine F_know (i := 19) rfl (congrArg Value.bool (Option.some.inj H)) ?_
      exact F_grpE (fun a ha => Is.cons ha (Is.cons ha (Is.cons ha (Is.cons ha (Is.nil ha) rfl) rfl) rfl) rfl)
    · refine F_know (i := 13) rfl (dec_f c9) ?_
      have H := of_neg Hb5 c9
      refine F_gval rfl rfl rfl rfl rfl rfl (O_move rfl rfl) ?_
      refine F_gval rfl rfl rfl rfl rfl rfl (O_move rfl rfl) ?_
      obtain ⟨⟨g10, g11⟩, H⟩ := of_gd H
      refine F_gval rfl rfl rfl rfl rfl rfl (O_idx rfl rfl rfl Try.underlying22 size3 g10 g11 (Cells.isA (HS0.cells_rd (i := 0) rfl) (rowC_ne (E := (Eint .i64)) g10 g11 (by decide)))) ?_
      refine F_gval rfl rfl rfl rfl rfl rfl (O_loadC rfl rfl flat3 (HS0.cells_rd (i := 0) rfl) (int_cell g10 g11)) ?_
      refine F_gval rfl rfl rfl rfl rfl rfl (O_ne rfl rfl rfl) ?_
      refine F_val rfl rfl rfl (O_pickF rfl rfl rfl) ?_
      refine F_know (i := 19) rfl (congrArg Value.bool (Option.some.inj H)) ?_
      exact F_grpE (fun a ha => Is.cons ha (Is.cons ha (Is.cons ha (Is.cons ha (Is.nil ha) rfl) rfl) rfl) rfl)
  · skip
    refine F_val rfl rfl rfl (O_move rfl rfl) ?_
    obtain ⟨b14, Hb14, H⟩ := of_bind H
    refine F_grp 7 [(27, .bool b14), (0, .slice A_m_0 l_m_0.length c_m_0), (1, .slice A_l_1 l_l_1.length c_l_1), (5, .int .i64 x1)] ?_ ?_
    · rcases Decidable.em (b5 = true) with c18 | c18
      · refine F_know (i := 20) rfl (congrArg Value.bool c18) ?_
        have H := of_pos Hb14 c18
        refine F_gskip rfl rfl rfl rfl rfl rfl rfl ?_
        refine F_gskip rfl rfl rfl rfl rfl rfl rfl ?_
        refine F_gskip rfl rfl rfl rfl rfl rfl rfl ?_
        refine F_gskip rfl rfl rfl rfl rfl rfl rfl ?_
        refine F_gskip rfl rfl rfl rfl rfl rfl rfl ?_
        refine F_gskip rfl rfl rfl rfl rfl rfl rfl ?_
        refine F_val rfl rfl rfl (O_pickT rfl rfl rfl) ?_
        refine F_know (i := 27) rfl (congrArg Value.bool (Option.some.inj H)) ?_
        exact F_grpE (fun a ha => Is.cons ha (Is.cons ha (Is.cons ha (Is.cons ha (Is.nil ha) rfl) rfl) rfl) rfl)
      · refine F_know (i := 20) rfl (congrArg Value.bool (Bool.eq_false_iff.mpr c18)) ?_
        have H := of_neg Hb14 c18
        refine F_gval rfl rfl rfl rfl rfl rfl (O_move rfl rfl) ?_
        refine F_gval rfl rfl rfl rfl rfl rfl (O_move rfl rfl) ?_
        refine F_gval rfl rfl rfl rfl rfl rfl (O_add rfl rfl rfl) ?_
        obtain ⟨⟨g19, g20⟩, H⟩ := of_gd H
        refine F_gval rfl rfl rfl rfl rfl rfl (O_idx rfl rfl rfl Try.underlying22 size3 g19 g20 (Cells.isA (HS0.cells_rd (i := 0) rfl) (rowC_ne (E := (Eint .i64)) g19 g20 (by decide)))) ?_
        refine F_gval rfl rfl rfl rfl rfl rfl (O_loadC rfl rfl flat3 (HS0.cells_rd (i := 0) rfl) (int_cell g19 g20)) ?_
        refine F_gval rfl rfl rfl rfl rfl rfl (O_ne rfl rfl rfl) ?_
        refine F_val rfl rfl rfl (O_pickF rfl rfl rfl) ?_
        refine F_know (i := 27) rfl (congrArg Value.bool (Option.some.inj H)) ?_
        exact F_grpE (fun a ha => Is.cons ha (Is.cons ha (Is.cons ha (Is.cons ha (Is.nil ha) rfl) rfl) rfl) rfl)
    · skip
      refine F_val rfl rfl rfl (O_move rfl rfl) ?_
      obtain ⟨b23, Hb23, H⟩ := of_bind H
      refine F_grp 7 [(35, .bool b23), (0, .slice A_m_0 l_m_0.length c_m_0), (1, .slice A_l_1 l_l_1.length c_l_1), (5, .int .i64 x1)] ?_ ?_
      · rcases Decidable.em (b14 = true) with c27 | c27
        · refine F_know (i := 28) rfl (congrArg Value.bool c27) ?_
          have H := of_pos Hb23 c27
          refine F_gskip rfl rfl rfl rfl rfl rfl rfl ?_
          refine F_gskip rfl rfl rfl rfl rfl rfl rfl ?_
          refine F_gskip rfl rfl rfl rfl rfl rfl rfl ?_
          refine F_gskip rfl rfl rfl rfl rfl rfl rfl ?_
          refine F_gskip rfl rfl rfl rfl rfl rfl rfl ?_
          refine F_gskip rfl rfl rfl rfl rfl rfl rfl ?_
          refine F_val rfl rfl rfl (O_pickT rfl rfl rfl) ?_
          refine F_know (i := 35) rfl (congrArg Value.bool (Option.some.inj H)) ?_
          exact F_grpE (fun a ha => Is.cons ha (Is.cons ha (Is.cons ha (Is.cons ha (Is.nil ha) rfl) rfl) rfl) rfl)
        · refine F_know (i := 28) rfl (congrArg Value.bool (Bool.eq_false_iff.mpr c27)) ?_
          have H := of_neg Hb23 c27
          refine F_gval rfl rfl rfl rfl rfl rfl (O_move rfl rfl) ?_
          refine F_gval rfl rfl rfl rfl rfl rfl (O_move rfl rfl) ?_
          refine F_gval rfl rfl rfl rfl rfl rfl (O_add rfl rfl rfl) ?_
          obtain ⟨⟨g28, g29⟩, H⟩ := of_gd H
          refine F_gval rfl rfl rfl rfl rfl rfl (O_idx rfl rfl rfl Try.underlying22 size3 g28 g29 (Cells.isA (HS0.cells_rd (i := 0) rfl) (rowC_ne (E := (Eint .i64)) g28 g29 (by decide)))) ?_
          refine F_gval rfl rfl rfl rfl rfl rfl (O_loadC rfl rfl flat3 (HS0.cells_rd (i := 0) rfl) (int_cell g28 g29)) ?_
          refine F_gval rfl rfl rfl rfl rfl rfl (O_ne rfl rfl rfl) ?_
          refine F_val rfl rfl rfl (O_pickF rfl rfl rfl) ?_
          refine F_know (i := 35) rfl (congrArg Value.bool (Option.some.inj H)) ?_
          exact F_grpE (fun a ha => Is.cons ha (Is.cons ha (Is.cons ha (Is.cons ha (Is.nil ha) rfl) rfl) rfl) rfl)
      · skip
        refine F_nil ?_
        refine L_cond rfl (fun c30 => ?_) (fun c30 => ?_)
        · have H := of_pos H c30
          refine L_seq ?_
          refine L_region ?_
          refine F_val rfl rfl rfl (O_assign rfl rfl) ?_
          refine F_nil ?_
          refine L_ret (fun a ha => (post_ret1 ha rfl rfl ?_))
          obtain rfl := Option.some.inj H
          exact ⟨rfl, HS0.sel [] rfl⟩
        · have H := of_neg H (by rw [c30]; exact Bool.false_ne_true)
          refine L_skip ?_
          refine L_seq ?_
          refine L_region ?_
          refine F_val rfl rfl rfl (O_move rfl rfl) ?_
          refine F_val rfl rfl rfl (O_move rfl rfl) ?_
          obtain ⟨⟨g31, g32⟩, H⟩ := of_gd H
          refine F_val rfl rfl rfl (O_toE l_m_0 rfl rfl rfl Try.underlying22 size3 g31 g32 hc_m_0) ?_
          refine F_val rfl rfl rfl (O_move rfl rfl) ?_
          obtain ⟨z35, h34, H⟩ := of_bind H
          refine F_qcall (v := .bool z35) (xs := [.tmp 38, .tmp 39]) rfl rfl rfl rfl Try.func15 nm15 rfl rfl ((valiselaw5_same.calls (HS0.give [] rfl (Lent.rd HS0 (Lent.rd HS0 (Lent.nil) (i := 1) rfl ((HS0.cells_rd (i := 1) rfl).self)) (i := 0) rfl (Cells.take (HS0.cells_rd (i := 0) rfl) (x1 : Int).toNat))) (Nat.le_trans (List.length_take_le' _ _) hc_m_0) hc_l_1 h34).mono (fun e w hc => ?_)) (fun w36 hw37 => ?_)
          · obtain ⟨rfl, h⟩ := hc
            exact ⟨rfl, h.chg0⟩
          have HS38 := HS0.keep hw37
          refine F_val rfl rfl rfl (O_assign rfl rfl) ?_
          refine F_nil ?_
          refine L_ret (fun a ha => (post_ret1 ha rfl rfl ?_))
          obtain rfl := Option.some.inj H
          exact ⟨rfl, HS38.sel [] rfl⟩

/-! function 18: valise/valiselaw5.spoil -/
theorem valiselaw5_spoil.calls {S0 : Nat → Prop} {w0 : World} {A_l_0 : Option Addr} {c_l_0 : Nat} {l_l_0 : List Int} {r : List Int} (HS0 : Hp S0 w0 w0 [.own A_l_0 c_l_0 (rowC (Eint .i64) l_l_0) 3 (Eint .i64).sz]) (h : valiselaw5_spoil.f l_l_0 = some r) :
    Calls Try.prog 18 ([.slice A_l_0 l_l_0.length c_l_0] : List Value).toArray w0 (fun e w => e = .returned (.tuple #[]) ∧ Hp S0 w0 w [.own A_l_0 c_l_0 (rowC (Eint .i64) r) 3 (Eint .i64).sz] ∧ r.length = l_l_0.length) := by
  have H : (((valiselaw5_spoil.l1 FU l_l_0 0 ).bind fun l43 => gd (l43.length = l_l_0.length) (some l43)) : Option (List Int)) = some r := h
  refine calls_start Try.func18 rfl rfl ?_
  refine L_seq ?_
  refine L_region ?_
  refine F_val rfl rfl rfl (O_assign rfl rfl) ?_
  refine F_nil ?_
  obtain ⟨yj1, Hyj1, H⟩ := of_bind H
  refine L_join (fun a w => ∃ (l43 : List Int), yj1 = l43 ∧ Is Try.f18.ntmps a [] ∧ Hp S0 w0 w [.own A_l_0 c_l_0 (rowC (Eint .i64) l43) 3 (Eint .i64).sz]) (fun Qj1 hNj1 hOj1 => ?_) (fun a w hR => ?_)
  · skip
    have H := Hyj1
    refine L_blk (fun Qb44 hNb44 hXb44 hOb44 => ?_)
    refine L_lp (fun k a w => ∃ (l70 : List Int), ∃ (i_71 : Int), Is Try.f18.ntmps a [(0, .slice A_l_0 l70.length c_l_0), (2, .int .i64 i_71)] ∧ Hp S0 w0 w [.own A_l_0 c_l_0 (rowC (Eint .i64) l70) 3 (Eint .i64).sz] ∧ valiselaw5_spoil.l1 k l70 i_71  = some yj1) FU (fun a ha => ⟨_, _, Is.cons ha (Is.cons ha (Is.nil ha) rfl) rfl, HS0.sel [0] rfl, H⟩) (fun kp69 a w72 hI Qp69 hNp69 hOp69 => ?_)
    obtain ⟨l70, i_71, ha, HS73, HAp69⟩ := hI
    cases kp69 with
    | zero => cases (show (none : Option _) = some _ from HAp69)
    | succ kp69 =>
      have H := (valiselaw5_spoil.l1.eq_2 ..).symm.trans HAp69
      refine wpLF_app ?_ ha
      refine L_seq ?_
      refine L_seq ?_
      refine L_region ?_
      refine F_val rfl rfl rfl (O_move rfl rfl) ?_
      refine F_val rfl rfl rfl (O_move rfl rfl) ?_
      refine F_val rfl rfl rfl (O_len rfl rfl Try.underlying22) ?_
      refine F_val rfl rfl rfl (O_lt rfl rfl rfl) ?_
      refine F_nil ?_
      refine L_condP rfl (fun c74 => ?_) (fun c74 => ?_)
      · have H := of_pos H c74
        refine L_skip ?_
        refine L_seq ?_
        refine L_blk (fun Q75 hN75 hX75 hO75 => ?_)
        refine L_region ?_
        refine F_val rfl rfl rfl (O_move rfl rfl) ?_
        refine F_val rfl rfl rfl (O_move rfl rfl) ?_
        obtain ⟨⟨g76, g77⟩, H⟩ := of_gd H
        refine F_val rfl rfl rfl (O_idx rfl rfl rfl Try.underlying22 size3 g76 g77 (Cells.isA (HS73.cells_own (i := 0) rfl) (rowC_ne (E := (Eint .i64)) g76 g77 (by decide)))) ?_
        obtain ⟨l80, h81, H⟩ := of_bnd H
        refine F_setE (E := (Eint .i64)) (i := 0) (a := 9) (q := i_71) rfl rfl rfl rfl rfl rfl size3 HS73 rfl (by decide) g76 g77 h81 (fun w78 HS79 => ?_)
        have e82 : l70.length = l80.length := by rw [← h81, List.length_set]
        refine F_know (i := 0) rfl (congrArg (fun n => Value.slice A_l_0 n c_l_0) e82) ?_
        have HS79 : Hp S0 w0 w78 [.own A_l_0 c_l_0 (rowC (Eint .i64) l80) 3 (Eint .i64).sz] := HS79
        refine F_nil ?_
        refine L_endB hN75 ?_
        refine L_region ?_
        refine F_val rfl rfl rfl (O_move rfl rfl) ?_
        refine F_val rfl rfl rfl (O_add rfl rfl rfl) ?_
        obtain ⟨x83, h84, H⟩ := of_bnd H
        refine F_val rfl rfl rfl (O_assign' rfl rfl (congrArg (Value.int .i64) h84)) ?_
        refine F_nil ?_
        refine L_nil (fun a ha => hNp69 _ a _ (Nat.lt_succ_self _) ⟨_, _, Is.cons ha (Is.cons ha (Is.nil ha) rfl) rfl, HS79.sel [0] rfl, H⟩)
      · have H := of_neg H c74
        refine L_exitB (fun a w h => hOp69 (.exit 0) a w rfl (hXb44 a w h)) ?_
        refine L_nil (fun a ha => hNj1 a _ ⟨_, (Option.some.inj H).symm, Is.nil ha, HS73.sel [0] rfl⟩)
  · obtain ⟨l43, ej, ha, HS86⟩ := hR
    obtain rfl := ej.symm
    refine wpLF_app ?_ ha
    obtain ⟨g87, H⟩ := of_gd H
    refine L_nil (fun a ha => (post_end0 ha rfl ?_))
    obtain rfl := Option.some.inj H
    exact ⟨rfl, HS86.sel [0] rfl, g87⟩

/-! function 27: valise/valiselaw5.backward -/
theorem valiselaw5_backward.calls {S0 : Nat → Prop} {w0 : World} {A_l_0 : Option Addr} {c_l_0 : Nat} {l_l_0 : List Int} {r : List Int} (HS0 : Hp S0 w0 w0 [.rd A_l_0 (rowC (Eint .i64) l_l_0)]) (hc_l_0 : l_l_0.length ≤ c_l_0) (h : valiselaw5_backward.f l_l_0 = some r) :
    Calls Try.prog 27 ([.slice A_l_0 l_l_0.length c_l_0] : List Value).toArray w0 (fun e w => ∃ (A1 : Option Addr), ∃ (c1 : Nat), e = .returned (.slice A1 r.length c1) ∧ Hp S0 w0 w [.own A1 c1 (rowC (Eint .i64) r) 3 (Eint .i64).sz]) := by
  have H : ((bnd (IntKind.i64.wrap ((l_l_0.length : Int) - 1)) fun x3 => (valiselaw5_backward.l1 FU ([] : List Int) x3 l_l_0).bind fun l74 => some l74) : Option (List Int)) = some r := h
  refine calls_start Try.func27 rfl rfl ?_
  refine L_seq ?_
  refine L_region ?_
  refine F_val rfl rfl rfl (O_assign rfl rfl) ?_
  refine F_nil ?_
  refine L_seq ?_
  refine L_region ?_
  refine F_val rfl rfl rfl (O_assign rfl rfl) ?_
  have HS1 := HS0.addNil 3 (Eint .i64).sz
  have HS1 : Hp S0 w0 w0 [.rd A_l_0 (rowC (Eint .i64) l_l_0), .own none 0 (rowC (Eint .i64) ([] : List Int)) 3 (Eint .i64).sz] := HS1
  refine F_nil ?_
  refine L_seq ?_
  refine L_seq ?_
  refine L_region ?_
  refine F_val rfl rfl rfl (O_move rfl rfl) ?_
  refine F_val rfl rfl rfl (O_len rfl rfl Try.underlying22) ?_
  refine F_val rfl rfl rfl (O_sub rfl rfl rfl) ?_
  obtain ⟨x3, h4, H⟩ := of_bnd H
  refine F_val rfl rfl rfl (O_assign' rfl rfl (congrArg (Value.int .i64) h4)) ?_
  refine F_nil ?_
  obtain ⟨yj5, Hyj5, H⟩ := of_bind H
  refine L_join (fun a w => ∃ (l74 : List Int), ∃ (A72 : Option Addr), ∃ (c73 : Nat), yj5 = l74 ∧ Is Try.f27.ntmps a [(3, .slice A72 l74.length c73)] ∧ Hp S0 w0 w [.rd A_l_0 (rowC (Eint .i64) l_l_0), .own A72 c73 (rowC (Eint .i64) l74) 3 (Eint .i64).sz]) (fun Qj5 hNj5 hOj5 => ?_) (fun a w hR => ?_)
  · skip
    have H := Hyj5
    refine L_blk (fun Qb75 hNb75 hXb75 hOb75 => ?_)
    refine L_lp (fun k a w => ∃ (l119 : List Int), ∃ (i_120 : Int), ∃ (A117 : Option Addr), ∃ (c118 : Nat), Is Try.f27.ntmps a [(0, .slice A_l_0 l_l_0.length c_l_0), (3, .slice A117 l119.length c118), (4, .int .i64 i_120)] ∧ Hp S0 w0 w [.rd A_l_0 (rowC (Eint .i64) l_l_0), .own A117 c118 (rowC (Eint .i64) l119) 3 (Eint .i64).sz] ∧ valiselaw5_backward.l1 k l119 i_120 l_l_0 = some yj5) FU (fun a ha => ⟨_, _, _, _, Is.cons ha (Is.cons ha (Is.cons ha (Is.nil ha) rfl) rfl) rfl, HS1.sel [0, 1] rfl, H⟩) (fun kp116 a w121 hI Qp116 hNp116 hOp116 => ?_)
    obtain ⟨l119, i_120, A117, c118, ha, HS122, HAp116⟩ := hI
    cases kp116 with
    | zero => cases (show (none : Option _) = some _ from HAp116)
    | succ kp116 =>
      have H := (valiselaw5_backward.l1.eq_2 ..).symm.trans HAp116
      refine wpLF_app ?_ ha
      refine L_seq ?_
      refine L_seq ?_
      refine L_region ?_
      refine F_val rfl rfl rfl (O_move rfl rfl) ?_
      refine F_val rfl rfl rfl (O_ge rfl rfl rfl) ?_
      refine F_nil ?_
      refine L_condP rfl (fun c123 => ?_) (fun c123 => ?_)
      · have H := of_pos H c123
        refine L_skip ?_
        refine L_seq ?_
        refine L_blk (fun Q124 hN124 hX124 hO124 => ?_)
        refine L_region ?_
        refine F_val rfl rfl rfl (O_move rfl rfl) ?_
        refine F_val rfl rfl rfl (O_move rfl rfl) ?_
        refine F_val rfl rfl rfl (O_move rfl rfl) ?_
        obtain ⟨⟨g125, g126⟩, H⟩ := of_gd H
        refine F_val rfl rfl rfl (O_idx rfl rfl rfl Try.underlying22 size3 g125 g126 (Cells.isA (HS122.cells_rd (i := 0) rfl) (rowC_ne (E := (Eint .i64)) g125 g126 (by decide)))) ?_
        refine F_val rfl rfl rfl (O_loadC rfl rfl flat3 (HS122.cells_rd (i := 0) rfl) (int_cell g125 g126)) ?_
        refine F_litE (E := (Eint .i64)) (e := 3) [(0, .int .i64 (rd l_l_0 i_120))] [rd l_l_0 i_120] rfl rfl rfl rfl rfl rfl rfl (by decide) (fun w => by kernel_rfl) HS122 (fun w127 A129 c130 HS128 => ?_)
        have HS128 : Hp S0 w0 w127 [.rd A_l_0 (rowC (Eint .i64) l_l_0), .own A117 c118 (rowC (Eint .i64) l119) 3 (Eint .i64).sz, .own A129 c130 (rowC (Eint .i64) [rd l_l_0 i_120]) 3 (Eint .i64).sz] := HS128
        obtain ⟨l134, h135, H⟩ := of_bnd H
        obtain ⟨g136, H⟩ := of_gd H
        refine F_appE (E := (Eint .i64)) (xs := l119) (ys := [rd l_l_0 i_120]) (i := 1) rfl rfl rfl rfl Try.underlying22 info3 rfl (by decide) (by decide) rfl rfl HS128 rfl (HS128.cells_own (i := 2) rfl) h135 g136 (fun w132 A137 c138 HS133 => ?_)
        have HS133 : Hp S0 w0 w132 [.rd A_l_0 (rowC (Eint .i64) l_l_0), .own A137 c138 (rowC (Eint .i64) l134) 3 (Eint .i64).sz, .own A129 c130 (rowC (Eint .i64) [rd l_l_0 i_120]) 3 (Eint .i64).sz] := HS133
        refine F_val rfl rfl rfl (O_assign rfl rfl) ?_
        refine F_nil ?_
        refine L_endB hN124 ?_
        refine L_region ?_
        refine F_val rfl rfl rfl (O_move rfl rfl) ?_
        refine F_val rfl rfl rfl (O_sub rfl rfl rfl) ?_
        obtain ⟨x139, h140, H⟩ := of_bnd H
        refine F_val rfl rfl rfl (O_assign' rfl rfl (congrArg (Value.int .i64) h140)) ?_
        refine F_nil ?_
        refine L_nil (fun a ha => hNp116 _ a _ (Nat.lt_succ_self _) ⟨_, _, _, _, Is.cons ha (Is.cons ha (Is.cons ha (Is.nil ha) rfl) rfl) rfl, HS133.sel [0, 1] rfl, H⟩)
      · have H := of_neg H c123
        refine L_exitB (fun a w h => hOp116 (.exit 0) a w rfl (hXb75 a w h)) ?_
        refine L_nil (fun a ha => hNj5 a _ ⟨_, _, _, (Option.some.inj H).symm, Is.cons ha (Is.nil ha) rfl, HS122.sel [0, 1] rfl⟩)
  · obtain ⟨l74, A72, c73, ej, ha, HS142⟩ := hR
    obtain rfl := ej.symm
    refine wpLF_app ?_ ha
    refine L_seq ?_
    refine L_region ?_
    refine F_val rfl rfl rfl (O_move rfl rfl) ?_
    refine F_val rfl rfl rfl (O_assign rfl rfl) ?_
    refine F_nil ?_
    refine L_ret (fun a ha => (post_ret1 ha rfl rfl ?_))
    obtain rfl := Option.some.inj H
    exact ⟨_, _, rfl, HS142.sel [1] rfl⟩

/-! function 19: valise/valiselaw5.apartInts -/
theorem valiselaw5_apartInts.calls {S0 : Nat → Prop} {w0 : World} {A_a_0 : Option Addr} {c_a_0 : Nat} {A_b_1 : Option Addr} {c_b_1 : Nat} {l_a_0 : List Int} {l_b_1 : List Int} {r : Bool × List Int × List Int} (HS0 : Hp S0 w0 w0 [.own A_a_0 c_a_0 (rowC (Eint .i64) l_a_0) 3 (Eint .i64).sz, .own A_b_1 c_b_1 (rowC (Eint .i64) l_b_1) 3 (Eint .i64).sz]) (h : valiselaw5_apartInts.f l_a_0 l_b_1 = some r) :
    Calls Try.prog 19 ([.slice A_a_0 l_a_0.length c_a_0, .slice A_b_1 l_b_1.length c_b_1] : List Value).toArray w0 (fun e w => e = .returned (.bool r.1) ∧ Hp S0 w0 w [.own A_a_0 c_a_0 (rowC (Eint .i64) r.2.1) 3 (Eint .i64).sz, .own A_b_1 c_b_1 (rowC (Eint .i64) r.2.2) 3 (Eint .i64).sz] ∧ r.2.1.length = l_a_0.length ∧ r.2.2.length = l_b_1.length) := by
  have H : (((valiselaw5_apartInts.l1 FU l_a_0 0 ).bind fun l43 => (valiselaw5_apartInts.l3 FU l_b_1 0 ).bind fun l129 => bnd (l43 ++ [5]) fun l180 => gd ((l180.length : Int) * 8 ≤ 140737488355328) (bnd (l129 ++ [6]) fun l194 => gd ((l194.length : Int) * 8 ≤ 140737488355328) ((valiselaw5_apartInts.l5 FU 0 l_a_0 l_b_1 l43 l129).bind fun (yj202 : Sum (Bool × List Int × List Int) (Unit)) => onR yj202 (fun r => some r) fun () => (valiselaw5_apartInts.l7 FU 0 l_a_0 l_b_1 l43 l129).bind fun (yj283 : Sum (Bool × List Int × List Int) (Unit)) => onR yj283 (fun r => some r) fun () => gd ((0 : Int) ≤ (l43.length : Int) ∧ (l43.length : Int) < (l180.length : Int)) ((if rd l180 (l43.length : Int) = 5 then (gd ((0 : Int) ≤ (l129.length : Int) ∧ (l129.length : Int) < (l194.length : Int)) (some (decide (rd l194 (l129.length : Int) = 6)))) else (some false)).bind fun b368 => gd (l43.length = l_a_0.length) (gd (l129.length = l_b_1.length) (some (b368, l43, l129))))))) : Option (Bool × List Int × List Int)) = some r := h
  refine calls_start Try.func19 rfl rfl ?_
  refine L_seq ?_
  refine L_region ?_
  refine F_val rfl rfl rfl (O_assign rfl rfl) ?_
  refine F_nil ?_
  refine L_seq ?_
  refine L_seq ?_
  refine L_region ?_
  refine F_val rfl rfl rfl (O_assign rfl rfl) ?_
  refine F_nil ?_
  obtain ⟨yj1, Hyj1, H⟩ := of_bind H
  refine L_join (fun a w => ∃ (l43 : List Int), yj1 = l43 ∧ Is Try.f19.ntmps a [(0, .slice A_a_0 l43.length c_a_0), (1, .slice A_b_1 l_b_1.length c_b_1)] ∧ Hp S0 w0 w [.own A_a_0 c_a_0 (rowC (Eint .i64) l43) 3 (Eint .i64).sz, .own A_b_1 c_b_1 (rowC (Eint .i64) l_b_1) 3 (Eint .i64).sz]) (fun Qj1 hNj1 hOj1 => ?_) (fun a w hR => ?_)
  · skip
    have H := Hyj1
    refine L_blk (fun Qb44 hNb44 hXb44 hOb44 => ?_)
    refine L_lp (fun k a w => ∃ (l70 : List Int), ∃ (i_71 : Int), Is Try.f19.ntmps a [(0, .slice A_a_0 l70.length c_a_0), (1, .slice A_b_1 l_b_1.length c_b_1), (5, .int .i64 i_71)] ∧ Hp S0 w0 w [.own A_a_0 c_a_0 (rowC (Eint .i64) l70) 3 (Eint .i64).sz, .own A_b_1 c_b_1 (rowC (Eint .i64) l_b_1) 3 (Eint .i64).sz] ∧ valiselaw5_apartInts.l1 k l70 i_71  = some yj1) FU (fun a ha => ⟨_, _, Is.cons ha (Is.cons ha (Is.cons ha (Is.nil ha) rfl) rfl) rfl, HS0.sel [0, 1] rfl, H⟩) (fun kp69 a w72 hI Qp69 hNp69 hOp69 => ?_)
    obtain ⟨l70, i_71, ha, HS73, HAp69⟩ := hI
    cases kp69 with
    | zero => cases (show (none : Option _) = some _ from HAp69)
    | succ kp69 =>
      have H := (valiselaw5_apartInts.l1.eq_2 ..).symm.trans HAp69
      refine wpLF_app ?_ ha
      refine L_seq ?_
      refine L_seq ?_
      refine L_region ?_
      refine F_val rfl rfl rfl (O_move rfl rfl) ?_
      refine F_val rfl rfl rfl (O_move rfl rfl) ?_
      refine F_val rfl rfl rfl (O_len rfl rfl Try.underlying22) ?_
      refine F_val rfl rfl rfl (O_lt rfl rfl rfl) ?_
      refine F_nil ?_
      refine L_condP rfl (fun c74 => ?_) (fun c74 => ?_)
      · have H := of_pos H c74
        refine L_skip ?_
        refine L_seq ?_
        refine L_blk (fun Q75 hN75 hX75 hO75 => ?_)
        refine L_region ?_
        refine F_val rfl rfl rfl (O_move rfl rfl) ?_
        refine F_val rfl rfl rfl (O_move rfl rfl) ?_
        obtain ⟨⟨g76, g77⟩, H⟩ := of_gd H
        refine F_val rfl rfl rfl (O_idx rfl rfl rfl Try.underlying22 size3 g76 g77 (Cells.isA (HS73.cells_own (i := 0) rfl) (rowC_ne (E := (Eint .i64)) g76 g77 (by decide)))) ?_
        obtain ⟨l80, h81, H⟩ := of_bnd H
        refine F_setE (E := (Eint .i64)) (i := 0) (a := 9) (q := i_71) rfl rfl rfl rfl rfl rfl size3 HS73 rfl (by decide) g76 g77 h81 (fun w78 HS79 => ?_)
        have e82 : l70.length = l80.length := by rw [← h81, List.length_set]
        refine F_know (i := 0) rfl (congrArg (fun n => Value.slice A_a_0 n c_a_0) e82) ?_
        have HS79 : Hp S0 w0 w78 [.own A_a_0 c_a_0 (rowC (Eint .i64) l80) 3 (Eint .i64).sz, .own A_b_1 c_b_1 (rowC (Eint .i64) l_b_1) 3 (Eint .i64).sz] := HS79
        refine F_nil ?_
        refine L_endB hN75 ?_
        refine L_region ?_
        refine F_val rfl rfl rfl (O_move rfl rfl) ?_
        refine F_val rfl rfl rfl (O_add rfl rfl rfl) ?_
        obtain ⟨x83, h84, H⟩ := of_bnd H
        refine F_val rfl rfl rfl (O_assign' rfl rfl (congrArg (Value.int .i64) h84)) ?_
        refine F_nil ?_
        refine L_nil (fun a ha => hNp69 _ a _ (Nat.lt_succ_self _) ⟨_, _, Is.cons ha (Is.cons ha (Is.cons ha (Is.nil ha) rfl) rfl) rfl, HS79.sel [0, 1] rfl, H⟩)
      · have H := of_neg H c74
        refine L_exitB (fun a w h => hOp69 (.exit 0) a w rfl (hXb44 a w h)) ?_
        refine L_nil (fun a ha => hNj1 a _ ⟨_, (Option.some.inj H).symm, Is.cons ha (Is.cons ha (Is.nil ha) rfl) rfl, HS73.sel [0, 1] rfl⟩)
  · obtain ⟨l43, ej, ha, HS86⟩ := hR
    obtain rfl := ej.symm
    refine wpLF_app ?_ ha
    refine L_seq ?_
    refine L_seq ?_
    refine L_region ?_
    refine F_val rfl rfl rfl (O_assign rfl rfl) ?_
    refine F_nil ?_
    obtain ⟨yj87, Hyj87, H⟩ := of_bind H
    refine L_join (fun a w => ∃ (l129 : List Int), yj87 = l129 ∧ Is Try.f19.ntmps a [(0, .slice A_a_0 l43.length c_a_0), (1, .slice A_b_1 l129.length c_b_1)] ∧ Hp S0 w0 w [.own A_a_0 c_a_0 (rowC (Eint .i64) l43) 3 (Eint .i64).sz, .own A_b_1 c_b_1 (rowC (Eint .i64) l129) 3 (Eint .i64).sz]) (fun Qj87 hNj87 hOj87 => ?_) (fun a w hR => ?_)
    · skip
      have H := Hyj87
      refine L_blk (fun Qb130 hNb130 hXb130 hOb130 => ?_)
      refine L_lp (fun k a w => ∃ (l156 : List Int), ∃ (i_157 : Int), Is Try.f19.ntmps a [(0, .slice A_a_0 l43.length c_a_0), (1, .slice A_b_1 l156.length c_b_1), (6, .int .i64 i_157)] ∧ Hp S0 w0 w [.own A_a_0 c_a_0 (rowC (Eint .i64) l43) 3 (Eint .i64).sz, .own A_b_1 c_b_1 (rowC (Eint .i64) l156) 3 (Eint .i64).sz] ∧ valiselaw5_apartInts.l3 k l156 i_157  = some yj87) FU (fun a ha => ⟨_, _, Is.cons ha (Is.cons ha (Is.cons ha (Is.nil ha) rfl) rfl) rfl, HS86.sel [0, 1] rfl, H⟩) (fun kp155 a w158 hI Qp155 hNp155 hOp155 => ?_)
      obtain ⟨l156, i_157, ha, HS159, HAp155⟩ := hI
      cases kp155 with
      | zero => cases (show (none : Option _) = some _ from HAp155)
      | succ kp155 =>
        have H := (valiselaw5_apartInts.l3.eq_2 ..).symm.trans HAp155
        refine wpLF_app ?_ ha
        refine L_seq ?_
        refine L_seq ?_
        refine L_region ?_
        refine F_val rfl rfl rfl (O_move rfl rfl) ?_
        refine F_val rfl rfl rfl (O_move rfl rfl) ?_
        refine F_val rfl rfl rfl (O_len rfl rfl Try.underlying22) ?_
        refine F_val rfl rfl rfl (O_lt rfl rfl rfl) ?_
        refine F_nil ?_
        refine L_condP rfl (fun c160 => ?_) (fun c160 => ?_)
        · have H := of_pos H c160
          refine L_skip ?_
          refine L_seq ?_
          refine L_blk (fun Q161 hN161 hX161 hO161 => ?_)
          refine L_region ?_
          refine F_val rfl rfl rfl (O_move rfl rfl) ?_
          refine F_val rfl rfl rfl (O_move rfl rfl) ?_
          obtain ⟨⟨g162, g163⟩, H⟩ := of_gd H
          refine F_val rfl rfl rfl (O_idx rfl rfl rfl Try.underlying22 size3 g162 g163 (Cells.isA (HS159.cells_own (i := 1) rfl) (rowC_ne (E := (Eint .i64)) g162 g163 (by decide)))) ?_
          obtain ⟨l166, h167, H⟩ := of_bnd H
          refine F_setE (E := (Eint .i64)) (i := 1) (a := 8) (q := i_157) rfl rfl rfl rfl rfl rfl size3 HS159 rfl (by decide) g162 g163 h167 (fun w164 HS165 => ?_)
          have e168 : l156.length = l166.length := by rw [← h167, List.length_set]
          refine F_know (i := 1) rfl (congrArg (fun n => Value.slice A_b_1 n c_b_1) e168) ?_
          have HS165 : Hp S0 w0 w164 [.own A_a_0 c_a_0 (rowC (Eint .i64) l43) 3 (Eint .i64).sz, .own A_b_1 c_b_1 (rowC (Eint .i64) l166) 3 (Eint .i64).sz] := HS165
          refine F_nil ?_
          refine L_endB hN161 ?_
          refine L_region ?_
          refine F_val rfl rfl rfl (O_move rfl rfl) ?_
          refine F_val rfl rfl rfl (O_add rfl rfl rfl) ?_
          obtain ⟨x169, h170, H⟩ := of_bnd H
          refine F_val rfl rfl rfl (O_assign' rfl rfl (congrArg (Value.int .i64) h170)) ?_
          refine F_nil ?_
          refine L_nil (fun a ha => hNp155 _ a _ (Nat.lt_succ_self _) ⟨_, _, Is.cons ha (Is.cons ha (Is.cons ha (Is.nil ha) rfl) rfl) rfl, HS165.sel [0, 1] rfl, H⟩)
        · have H := of_neg H c160
          refine L_exitB (fun a w h => hOp155 (.exit 2) a w rfl (hXb130 a w h)) ?_
          refine L_nil (fun a ha => hNj87 a _ ⟨_, (Option.some.inj H).symm, Is.cons ha (Is.cons ha (Is.nil ha) rfl) rfl, HS159.sel [0, 1] rfl⟩)
    · obtain ⟨l129, ej, ha, HS172⟩ := hR
      obtain rfl := ej.symm
      refine wpLF_app ?_ ha
      refine L_seq ?_
      refine L_region ?_
      refine F_val rfl rfl rfl (O_move rfl rfl) ?_
      refine F_litE (E := (Eint .i64)) (e := 3) [(0, .int .i64 5)] [5] rfl rfl rfl rfl rfl rfl rfl (by decide) (fun w => by kernel_rfl) HS172 (fun w173 A175 c176 HS174 => ?_)
      have HS174 : Hp S0 w0 w173 [.own A_a_0 c_a_0 (rowC (Eint .i64) l43) 3 (Eint .i64).sz, .own A_b_1 c_b_1 (rowC (Eint .i64) l129) 3 (Eint .i64).sz, .own A175 c176 (rowC (Eint .i64) [5]) 3 (Eint .i64).sz] := HS174
      obtain ⟨l180, h181, H⟩ := of_bnd H
      obtain ⟨g182, H⟩ := of_gd H
      refine F_appE2 (E := (Eint .i64)) (xs := l43) (ys := [5]) (i := 0) rfl rfl rfl rfl Try.underlying22 info3 rfl (by decide) (by decide) rfl rfl HS174 rfl (HS174.cells_own (i := 2) rfl) h181 g182 (fun w178 HS179 => ?_) (fun w178 A183 c184 HS179 => ?_)
      · skip
        have HS179 : Hp S0 w0 w178 [.own A_a_0 c_a_0 (rowC (Eint .i64) l180) 3 (Eint .i64).sz, .own A_b_1 c_b_1 (rowC (Eint .i64) l129) 3 (Eint .i64).sz, .own A175 c176 (rowC (Eint .i64) [5]) 3 (Eint .i64).sz] := HS179
        have hs185 := (HS179.cells_own (i := 0) rfl).preZ h181
        refine F_val rfl rfl rfl (O_assign rfl rfl) ?_
        refine F_nil ?_
        refine L_seq ?_
        refine L_region ?_
        refine F_val rfl rfl rfl (O_move rfl rfl) ?_
        refine F_litE (E := (Eint .i64)) (e := 3) [(0, .int .i64 6)] [6] rfl rfl rfl rfl rfl rfl rfl (by decide) (fun w => by kernel_rfl) HS179 (fun w187 A189 c190 HS188 => ?_)
        have HS188 : Hp S0 w0 w187 [.own A_a_0 c_a_0 (rowC (Eint .i64) l180) 3 (Eint .i64).sz, .own A_b_1 c_b_1 (rowC (Eint .i64) l129) 3 (Eint .i64).sz, .own A175 c176 (rowC (Eint .i64) [5]) 3 (Eint .i64).sz, .own A189 c190 (rowC (Eint .i64) [6]) 3 (Eint .i64).sz] := HS188
        obtain ⟨l194, h195, H⟩ := of_bnd H
        obtain ⟨g196, H⟩ := of_gd H
        refine F_appE2 (E := (Eint .i64)) (xs := l129) (ys := [6]) (i := 1) rfl rfl rfl rfl Try.underlying22 info3 rfl (by decide) (by decide) rfl rfl HS188 rfl (HS188.cells_own (i := 3) rfl) h195 g196 (fun w192 HS193 => ?_) (fun w192 A197 c198 HS193 => ?_)
        · skip
          have HS193 : Hp S0 w0 w192 [.own A_a_0 c_a_0 (rowC (Eint .i64) l180) 3 (Eint .i64).sz, .own A_b_1 c_b_1 (rowC (Eint .i64) l194) 3 (Eint .i64).sz, .own A175 c176 (rowC (Eint .i64) [5]) 3 (Eint .i64).sz, .own A189 c190 (rowC (Eint .i64) [6]) 3 (Eint .i64).sz] := HS193
          have hs199 := (HS193.cells_own (i := 1) rfl).preZ h195
          refine F_val rfl rfl rfl (O_assign rfl rfl) ?_
          refine F_nil ?_
          refine L_seq ?_
          refine L_seq ?_
          have HS201 : Hp S0 w0 w192 [.own A_a_0 c_a_0 (rowC (Eint .i64) l180) 3 (Eint .i64).sz, .own A_b_1 c_b_1 (rowC (Eint .i64) l194) 3 (Eint .i64).sz] := HS193.sel [0, 1] rfl
          refine L_region ?_
          refine F_val rfl rfl rfl (O_assign rfl rfl) ?_
          refine F_nil ?_
          obtain ⟨yj202, Hyj202, H⟩ := of_bind H
          refine L_join (fun a w => yj202 = Sum.inr () ∧ Is Try.f19.ntmps a [(0, .slice A_a_0 l43.length c_a_0), (1, .slice A_b_1 l129.length c_b_1), (7, .slice A_a_0 l180.length c_a_0), (8, .slice A_b_1 l194.length c_b_1)] ∧ Hp S0 w0 w [.own A_a_0 c_a_0 (rowC (Eint .i64) l180) 3 (Eint .i64).sz, .own A_b_1 c_b_1 (rowC (Eint .i64) l194) 3 (Eint .i64).sz]) (fun Qj202 hNj202 hOj202 => ?_) (fun a w hR => ?_)
          · have HOj202 := H
            have H := Hyj202
            refine L_blk (fun Qb242 hNb242 hXb242 hOb242 => ?_)
            refine L_lp (fun k a w => ∃ (i_267 : Int), Is Try.f19.ntmps a [(0, .slice A_a_0 l43.length c_a_0), (1, .slice A_b_1 l129.length c_b_1), (7, .slice A_a_0 l180.length c_a_0), (8, .slice A_b_1 l194.length c_b_1), (9, .int .i64 i_267)] ∧ Hp S0 w0 w [.own A_a_0 c_a_0 (rowC (Eint .i64) l180) 3 (Eint .i64).sz, .own A_b_1 c_b_1 (rowC (Eint .i64) l194) 3 (Eint .i64).sz] ∧ valiselaw5_apartInts.l5 k i_267 l_a_0 l_b_1 l43 l129 = some yj202) FU (fun a ha => ⟨_, Is.cons ha (Is.cons ha (Is.cons ha (Is.cons ha (Is.cons ha (Is.nil ha) rfl) rfl) rfl) rfl) rfl, HS201.sel [0, 1] rfl, H⟩) (fun kp266 a w268 hI Qp266 hNp266 hOp266 => ?_)
            obtain ⟨i_267, ha, HS269, HAp266⟩ := hI
            cases kp266 with
            | zero => cases (show (none : Option _) = some _ from HAp266)
            | succ kp266 =>
              have H := (valiselaw5_apartInts.l5.eq_2 ..).symm.trans HAp266
              refine wpLF_app ?_ ha
              refine L_seq ?_
              refine L_seq ?_
              refine L_region ?_
              refine F_val rfl rfl rfl (O_move rfl rfl) ?_
              refine F_val rfl rfl rfl (O_move rfl rfl) ?_
              refine F_val rfl rfl rfl (O_len rfl rfl Try.underlying22) ?_
              refine F_val rfl rfl rfl (O_lt rfl rfl rfl) ?_
              refine F_nil ?_
              refine L_condP rfl (fun c270 => ?_) (fun c270 => ?_)
              · have H := of_pos H c270
                refine L_skip ?_
                refine L_seq ?_
                refine L_blk (fun Q271 hN271 hX271 hO271 => ?_)
                refine L_seq ?_
                refine L_region ?_
                refine F_val rfl rfl rfl (O_move rfl rfl) ?_
                refine F_val rfl rfl rfl (O_move rfl rfl) ?_
                obtain ⟨⟨g272, g273⟩, H⟩ := of_gd H
                refine F_val rfl rfl rfl (O_idx rfl rfl rfl Try.underlying22 size3 g272 g273 (Cells.isA (Cells.sub (HS269.cells_own (i := 0) rfl) hs185) (rowC_ne (E := (Eint .i64)) g272 g273 (by decide)))) ?_
                refine F_val rfl rfl rfl (O_loadC rfl rfl flat3 (Cells.sub (HS269.cells_own (i := 0) rfl) hs185) (int_cell g272 g273)) ?_
                refine F_val rfl rfl rfl (O_ne rfl rfl rfl) ?_
                refine F_nil ?_
                refine L_condP rfl (fun c274 => ?_) (fun c274 => ?_)
                · have H := of_pos H c274
                  refine L_seq ?_
                  refine L_region ?_
                  refine F_val rfl rfl rfl (O_assign rfl rfl) ?_
                  refine F_nil ?_
                  have HS275 := HS269.shrink (E := (Eint .i64)) (i := 0) rfl h181
                  obtain ⟨g276, H⟩ := of_gd H
                  have HS277 := HS275.shrink (E := (Eint .i64)) (i := 1) rfl h195
                  obtain ⟨g278, H⟩ := of_gd H
                  refine L_ret (fun a ha => (hO271 .ret a _ rfl (hOp266 .ret a _ rfl (hOb242 .ret a _ rfl (hOj202 .ret a _ rfl (post_ret1 ha rfl rfl ?_))))))
                  obtain rfl := Option.some.inj H
                  obtain rfl := Option.some.inj (show (some (false, l43, l129) : Option (Bool × List Int × List Int)) = some _ from HOj202)
                  exact ⟨rfl, HS277.sel [0, 1] rfl, g276, g278⟩
                · have H := of_neg H c274
                  refine L_skip ?_
                  refine L_endB hN271 ?_
                  refine L_region ?_
                  refine F_val rfl rfl rfl (O_move rfl rfl) ?_
                  refine F_val rfl rfl rfl (O_add rfl rfl rfl) ?_
                  obtain ⟨x279, h280, H⟩ := of_bnd H
                  refine F_val rfl rfl rfl (O_assign' rfl rfl (congrArg (Value.int .i64) h280)) ?_
                  refine F_nil ?_
                  refine L_nil (fun a ha => hNp266 _ a _ (Nat.lt_succ_self _) ⟨_, Is.cons ha (Is.cons ha (Is.cons ha (Is.cons ha (Is.cons ha (Is.nil ha) rfl) rfl) rfl) rfl) rfl, HS269.sel [0, 1] rfl, H⟩)
              · have H := of_neg H c270
                refine L_exitB (fun a w h => hOp266 (.exit 4) a w rfl (hXb242 a w h)) ?_
                refine L_nil (fun a ha => hNj202 a _ ⟨(Option.some.inj H).symm, Is.cons ha (Is.cons ha (Is.cons ha (Is.cons ha (Is.nil ha) rfl) rfl) rfl) rfl, HS269.sel [0, 1] rfl⟩)
          · obtain ⟨rfl, ha, HS282⟩ := hR
            refine wpLF_app ?_ ha
            have H := (onR_inr _ _ _).symm.trans H
            refine L_seq ?_
            refine L_seq ?_
            refine L_region ?_
            refine F_val rfl rfl rfl (O_assign rfl rfl) ?_
            refine F_nil ?_
            obtain ⟨yj283, Hyj283, H⟩ := of_bind H
            refine L_join (fun a w => yj283 = Sum.inr () ∧ Is Try.f19.ntmps a [(0, .slice A_a_0 l43.length c_a_0), (1, .slice A_b_1 l129.length c_b_1), (7, .slice A_a_0 l180.length c_a_0), (8, .slice A_b_1 l194.length c_b_1)] ∧ Hp S0 w0 w [.own A_a_0 c_a_0 (rowC (Eint .i64) l180) 3 (Eint .i64).sz, .own A_b_1 c_b_1 (rowC (Eint .i64) l194) 3 (Eint .i64).sz]) (fun Qj283 hNj283 hOj283 => ?_) (fun a w hR => ?_)
            · have HOj283 := H
              have H := Hyj283
              refine L_blk (fun Qb323 hNb323 hXb323 hOb323 => ?_)
              refine L_lp (fun k a w => ∃ (i_348 : Int), Is Try.f19.ntmps a [(0, .slice A_a_0 l43.length c_a_0), (1, .slice A_b_1 l129.length c_b_1), (7, .slice A_a_0 l180.length c_a_0), (8, .slice A_b_1 l194.length c_b_1), (10, .int .i64 i_348)] ∧ Hp S0 w0 w [.own A_a_0 c_a_0 (rowC (Eint .i64) l180) 3 (Eint .i64).sz, .own A_b_1 c_b_1 (rowC (Eint .i64) l194) 3 (Eint .i64).sz] ∧ valiselaw5_apartInts.l7 k i_348 l_a_0 l_b_1 l43 l129 = some yj283) FU (fun a ha => ⟨_, Is.cons ha (Is.cons ha (Is.cons ha (Is.cons ha (Is.cons ha (Is.nil ha) rfl) rfl) rfl) rfl) rfl, HS282.sel [0, 1] rfl, H⟩) (fun kp347 a w349 hI Qp347 hNp347 hOp347 => ?_)
              obtain ⟨i_348, ha, HS350, HAp347⟩ := hI
              cases kp347 with
              | zero => cases (show (none : Option _) = some _ from HAp347)
              | succ kp347 =>
                have H := (valiselaw5_apartInts.l7.eq_2 ..).symm.trans HAp347
                refine wpLF_app ?_ ha
                refine L_seq ?_
                refine L_seq ?_
                refine L_region ?_
                refine F_val rfl rfl rfl (O_move rfl rfl) ?_
                refine F_val rfl rfl rfl (O_move rfl rfl) ?_
                refine F_val rfl rfl rfl (O_len rfl rfl Try.underlying22) ?_
                refine F_val rfl rfl rfl (O_lt rfl rfl rfl) ?_
                refine F_nil ?_
                refine L_condP rfl (fun c351 => ?_) (fun c351 => ?_)
                · have H := of_pos H c351
                  refine L_skip ?_
                  refine L_seq ?_
                  refine L_blk (fun Q352 hN352 hX352 hO352 => ?_)
                  refine L_seq ?_
                  refine L_region ?_
                  refine F_val rfl rfl rfl (O_move rfl rfl) ?_
                  refine F_val rfl rfl rfl (O_move rfl rfl) ?_
                  obtain ⟨⟨g353, g354⟩, H⟩ := of_gd H
                  refine F_val rfl rfl rfl (O_idx rfl rfl rfl Try.underlying22 size3 g353 g354 (Cells.isA (Cells.sub (HS350.cells_own (i := 1) rfl) hs199) (rowC_ne (E := (Eint .i64)) g353 g354 (by decide)))) ?_
                  refine F_val rfl rfl rfl (O_loadC rfl rfl flat3 (Cells.sub (HS350.cells_own (i := 1) rfl) hs199) (int_cell g353 g354)) ?_
                  refine F_val rfl rfl rfl (O_ne rfl rfl rfl) ?_
                  refine F_nil ?_
                  refine L_condP rfl (fun c355 => ?_) (fun c355 => ?_)
                  · have H := of_pos H c355
                    refine L_seq ?_
                    refine L_region ?_
                    refine F_val rfl rfl rfl (O_assign rfl rfl) ?_
                    refine F_nil ?_
                    have HS356 := HS350.shrink (E := (Eint .i64)) (i := 0) rfl h181
                    obtain ⟨g357, H⟩ := of_gd H
                    have HS358 := HS356.shrink (E := (Eint .i64)) (i := 1) rfl h195
                    obtain ⟨g359, H⟩ := of_gd H
                    refine L_ret (fun a ha => (hO352 .ret a _ rfl (hOp347 .ret a _ rfl (hOb323 .ret a _ rfl (hOj283 .ret a _ rfl (post_ret1 ha rfl rfl ?_))))))
                    obtain rfl := Option.some.inj H
                    obtain rfl := Option.some.inj (show (some (false, l43, l129) : Option (Bool × List Int × List Int)) = some _ from HOj283)
                    exact ⟨rfl, HS358.sel [0, 1] rfl, g357, g359⟩
                  · have H := of_neg H c355
                    refine L_skip ?_
                    refine L_endB hN352 ?_
                    refine L_region ?_
                    refine F_val rfl rfl rfl (O_move rfl rfl) ?_
                    refine F_val rfl rfl rfl (O_add rfl rfl rfl) ?_
                    obtain ⟨x360, h361, H⟩ := of_bnd H
                    refine F_val rfl rfl rfl (O_assign' rfl rfl (congrArg (Value.int .i64) h361)) ?_
                    refine F_nil ?_
                    refine L_nil (fun a ha => hNp347 _ a _ (Nat.lt_succ_self _) ⟨_, Is.cons ha (Is.cons ha (Is.cons ha (Is.cons ha (Is.cons ha (Is.nil ha) rfl) rfl) rfl) rfl) rfl, HS350.sel [0, 1] rfl, H⟩)
                · have H := of_neg H c351
                  refine L_exitB (fun a w h => hOp347 (.exit 6) a w rfl (hXb323 a w h)) ?_
                  refine L_nil (fun a ha => hNj283 a _ ⟨(Option.some.inj H).symm, Is.cons ha (Is.cons ha (Is.cons ha (Is.cons ha (Is.nil ha) rfl) rfl) rfl) rfl, HS350.sel [0, 1] rfl⟩)
            · obtain ⟨rfl, ha, HS363⟩ := hR
              refine wpLF_app ?_ ha
              have H := (onR_inr _ _ _).symm.trans H
              refine L_seq ?_
              refine L_region ?_
              refine F_val rfl rfl rfl (O_move rfl rfl) ?_
              refine F_val rfl rfl rfl (O_move rfl rfl) ?_
              refine F_val rfl rfl rfl (O_len rfl rfl Try.underlying22) ?_
              obtain ⟨⟨g364, g365⟩, H⟩ := of_gd H
              refine F_val rfl rfl rfl (O_idx rfl rfl rfl Try.underlying22 size3 g364 g365 (Cells.isA (HS363.cells_own (i := 0) rfl) (rowC_ne (E := (Eint .i64)) g364 g365 (by decide)))) ?_
              refine F_val rfl rfl rfl (O_loadC rfl rfl flat3 (HS363.cells_own (i := 0) rfl) (int_cell g364 g365)) ?_
              refine F_val rfl rfl rfl (O_eq rfl rfl rfl) ?_
              refine F_val rfl rfl rfl (O_move rfl rfl) ?_
              obtain ⟨b368, Hb368, H⟩ := of_bind H
              refine F_grp 7 [(70, .bool b368)] ?_ ?_
              · rcases Decidable.em (rd l180 (l43.length : Int) = 5) with c372 | c372
                · refine F_know (i := 63) rfl (dec_t c372) ?_
                  have H := of_pos Hb368 c372
                  refine F_gval rfl rfl rfl rfl rfl rfl (O_move rfl rfl) ?_
                  refine F_gval rfl rfl rfl rfl rfl rfl (O_move rfl rfl) ?_
                  refine F_gval rfl rfl rfl rfl rfl rfl (O_len rfl rfl Try.underlying22) ?_
                  obtain ⟨⟨g373, g374⟩, H⟩ := of_gd H
                  refine F_gval rfl rfl rfl rfl rfl rfl (O_idx rfl rfl rfl Try.underlying22 size3 g373 g374 (Cells.isA (HS363.cells_own (i := 1) rfl) (rowC_ne (E := (Eint .i64)) g373 g374 (by decide)))) ?_
                  refine F_gval rfl rfl rfl rfl rfl rfl (O_loadC rfl rfl flat3 (HS363.cells_own (i := 1) rfl) (int_cell g373 g374)) ?_
                  refine F_gval rfl rfl rfl rfl rfl rfl (O_eq rfl rfl rfl) ?_
                  refine F_val rfl rfl rfl (O_pickT rfl rfl rfl) ?_
                  refine F_know (i := 70) rfl (congrArg Value.bool (Option.some.inj H)) ?_
                  exact F_grpE (fun a ha => Is.cons ha (Is.nil ha) rfl)
                · refine F_know (i := 63) rfl (dec_f c372) ?_
                  have H := of_neg Hb368 c372
                  refine F_gskip rfl rfl rfl rfl rfl rfl rfl ?_
                  refine F_gskip rfl rfl rfl rfl rfl rfl rfl ?_
                  refine F_gskip rfl rfl rfl rfl rfl rfl rfl ?_
                  refine F_gskip rfl rfl rfl rfl rfl rfl rfl ?_
                  refine F_gskip rfl rfl rfl rfl rfl rfl rfl ?_
                  refine F_gskip rfl rfl rfl rfl rfl rfl rfl ?_
                  refine F_val rfl rfl rfl (O_pickF rfl rfl rfl) ?_
                  refine F_know (i := 70) rfl (congrArg Value.bool (Option.some.inj H)) ?_
                  exact F_grpE (fun a ha => Is.cons ha (Is.nil ha) rfl)
              · skip
                refine F_val rfl rfl rfl (O_assign rfl rfl) ?_
                refine F_nil ?_
                have HS375 := HS363.shrink (E := (Eint .i64)) (i := 0) rfl h181
                obtain ⟨g376, H⟩ := of_gd H
                have HS377 := HS375.shrink (E := (Eint .i64)) (i := 1) rfl h195
                obtain ⟨g378, H⟩ := of_gd H
                refine L_ret (fun a ha => (post_ret1 ha rfl rfl ?_))
                obtain rfl := Option.some.inj H
                exact ⟨rfl, HS377.sel [0, 1] rfl, g376, g378⟩
        · skip
          have HS193 : Hp S0 w0 w192 [.own A_a_0 c_a_0 (rowC (Eint .i64) l180) 3 (Eint .i64).sz, .own A_b_1 c_b_1 (rowC (Eint .i64) l129) 3 (Eint .i64).sz, .own A175 c176 (rowC (Eint .i64) [5]) 3 (Eint .i64).sz, .own A189 c190 (rowC (Eint .i64) [6]) 3 (Eint .i64).sz, .own A197 c198 (rowC (Eint .i64) l194) 3 (Eint .i64).sz] := HS193
          refine F_val rfl rfl rfl (O_assign rfl rfl) ?_
          refine F_nil ?_
          refine L_seq ?_
          refine L_seq ?_
          have HS201 : Hp S0 w0 w192 [.own A_a_0 c_a_0 (rowC (Eint .i64) l180) 3 (Eint .i64).sz, .own A_b_1 c_b_1 (rowC (Eint .i64) l129) 3 (Eint .i64).sz, .own A197 c198 (rowC (Eint .i64) l194) 3 (Eint .i64).sz] := HS193.sel [0, 1, 4] rfl
          refine L_region ?_
          refine F_val rfl rfl rfl (O_assign rfl rfl) ?_
          refine F_nil ?_
          obtain ⟨yj202, Hyj202, H⟩ := of_bind H
          refine L_join (fun a w => yj202 = Sum.inr () ∧ Is Try.f19.ntmps a [(0, .slice A_a_0 l43.length c_a_0), (1, .slice A_b_1 l129.length c_b_1), (7, .slice A_a_0 l180.length c_a_0), (8, .slice A197 l194.length c198)] ∧ Hp S0 w0 w [.own A_a_0 c_a_0 (rowC (Eint .i64) l180) 3 (Eint .i64).sz, .own A_b_1 c_b_1 (rowC (Eint .i64) l129) 3 (Eint .i64).sz, .own A197 c198 (rowC (Eint .i64) l194) 3 (Eint .i64).sz]) (fun Qj202 hNj202 hOj202 => ?_) (fun a w hR => ?_)
          · have HOj202 := H
            have H := Hyj202
            refine L_blk (fun Qb239 hNb239 hXb239 hOb239 => ?_)
            refine L_lp (fun k a w => ∃ (i_262 : Int), Is Try.f19.ntmps a [(0, .slice A_a_0 l43.length c_a_0), (1, .slice A_b_1 l129.length c_b_1), (7, .slice A_a_0 l180.length c_a_0), (8, .slice A197 l194.length c198), (9, .int .i64 i_262)] ∧ Hp S0 w0 w [.own A_a_0 c_a_0 (rowC (Eint .i64) l180) 3 (Eint .i64).sz, .own A_b_1 c_b_1 (rowC (Eint .i64) l129) 3 (Eint .i64).sz, .own A197 c198 (rowC (Eint .i64) l194) 3 (Eint .i64).sz] ∧ valiselaw5_apartInts.l5 k i_262 l_a_0 l_b_1 l43 l129 = some yj202) FU (fun a ha => ⟨_, Is.cons ha (Is.cons ha (Is.cons ha (Is.cons ha (Is.cons ha (Is.nil ha) rfl) rfl) rfl) rfl) rfl, HS201.sel [0, 1, 2] rfl, H⟩) (fun kp261 a w263 hI Qp261 hNp261 hOp261 => ?_)
            obtain ⟨i_262, ha, HS264, HAp261⟩ := hI
            cases kp261 with
            | zero => cases (show (none : Option _) = some _ from HAp261)
            | succ kp261 =>
              have H := (valiselaw5_apartInts.l5.eq_2 ..).symm.trans HAp261
              refine wpLF_app ?_ ha
              refine L_seq ?_
              refine L_seq ?_
              refine L_region ?_
              refine F_val rfl rfl rfl (O_move rfl rfl) ?_
              refine F_val rfl rfl rfl (O_move rfl rfl) ?_
              refine F_val rfl rfl rfl (O_len rfl rfl Try.underlying22) ?_
              refine F_val rfl rfl rfl (O_lt rfl rfl rfl) ?_
              refine F_nil ?_
              refine L_condP rfl (fun c265 => ?_) (fun c265 => ?_)
              · have H := of_pos H c265
                refine L_skip ?_
                refine L_seq ?_
                refine L_blk (fun Q266 hN266 hX266 hO266 => ?_)
                refine L_seq ?_
                refine L_region ?_
                refine F_val rfl rfl rfl (O_move rfl rfl) ?_
                refine F_val rfl rfl rfl (O_move rfl rfl) ?_
                obtain ⟨⟨g267, g268⟩, H⟩ := of_gd H
                refine F_val rfl rfl rfl (O_idx rfl rfl rfl Try.underlying22 size3 g267 g268 (Cells.isA (Cells.sub (HS264.cells_own (i := 0) rfl) hs185) (rowC_ne (E := (Eint .i64)) g267 g268 (by decide)))) ?_
                refine F_val rfl rfl rfl (O_loadC rfl rfl flat3 (Cells.sub (HS264.cells_own (i := 0) rfl) hs185) (int_cell g267 g268)) ?_
                refine F_val rfl rfl rfl (O_ne rfl rfl rfl) ?_
                refine F_nil ?_
                refine L_condP rfl (fun c269 => ?_) (fun c269 => ?_)
                · have H := of_pos H c269
                  refine L_seq ?_
                  refine L_region ?_
                  refine F_val rfl rfl rfl (O_assign rfl rfl) ?_
                  refine F_nil ?_
                  have HS270 := HS264.shrink (E := (Eint .i64)) (i := 0) rfl h181
                  obtain ⟨g271, H⟩ := of_gd H
                  obtain ⟨g272, H⟩ := of_gd H
                  refine L_ret (fun a ha => (hO266 .ret a _ rfl (hOp261 .ret a _ rfl (hOb239 .ret a _ rfl (hOj202 .ret a _ rfl (post_ret1 ha rfl rfl ?_))))))
                  obtain rfl := Option.some.inj H
                  obtain rfl := Option.some.inj (show (some (false, l43, l129) : Option (Bool × List Int × List Int)) = some _ from HOj202)
                  exact ⟨rfl, HS270.sel [0, 1] rfl, g271, g272⟩
                · have H := of_neg H c269
                  refine L_skip ?_
                  refine L_endB hN266 ?_
                  refine L_region ?_
                  refine F_val rfl rfl rfl (O_move rfl rfl) ?_
                  refine F_val rfl rfl rfl (O_add rfl rfl rfl) ?_
                  obtain ⟨x273, h274, H⟩ := of_bnd H
                  refine F_val rfl rfl rfl (O_assign' rfl rfl (congrArg (Value.int .i64) h274)) ?_
                  refine F_nil ?_
                  refine L_nil (fun a ha => hNp261 _ a _ (Nat.lt_succ_self _) ⟨_, Is.cons ha (Is.cons ha (Is.cons ha (Is.cons ha (Is.cons ha (Is.nil ha) rfl) rfl) rfl) rfl) rfl, HS264.sel [0, 1, 2] rfl, H⟩)
              · have H := of_neg H c265
                refine L_exitB (fun a w h => hOp261 (.exit 4) a w rfl (hXb239 a w h)) ?_
                refine L_nil (fun a ha => hNj202 a _ ⟨(Option.some.inj H).symm, Is.cons ha (Is.cons ha (Is.cons ha (Is.cons ha (Is.nil ha) rfl) rfl) rfl) rfl, HS264.sel [0, 1, 2] rfl⟩)
          · obtain ⟨rfl, ha, HS276⟩ := hR
            refine wpLF_app ?_ ha
            have H := (onR_inr _ _ _).symm.trans H
            refine L_seq ?_
            refine L_seq ?_
            refine L_region ?_
            refine F_val rfl rfl rfl (O_assign rfl rfl) ?_
            refine F_nil ?_
            obtain ⟨yj277, Hyj277, H⟩ := of_bind H
            refine L_join (fun a w => yj277 = Sum.inr () ∧ Is Try.f19.ntmps a [(0, .slice A_a_0 l43.length c_a_0), (1, .slice A_b_1 l129.length c_b_1), (7, .slice A_a_0 l180.length c_a_0), (8, .slice A197 l194.length c198)] ∧ Hp S0 w0 w [.own A_a_0 c_a_0 (rowC (Eint .i64) l180) 3 (Eint .i64).sz, .own A_b_1 c_b_1 (rowC (Eint .i64) l129) 3 (Eint .i64).sz, .own A197 c198 (rowC (Eint .i64) l194) 3 (Eint .i64).sz]) (fun Qj277 hNj277 hOj277 => ?_) (fun a w hR => ?_)
            · have HOj277 := H
              have H := Hyj277
              refine L_blk (fun Qb314 hNb314 hXb314 hOb314 => ?_)
              refine L_lp (fun k a w => ∃ (i_337 : Int), Is Try.f19.ntmps a [(0, .slice A_a_0 l43.length c_a_0), (1, .slice A_b_1 l129.length c_b_1), (7, .slice A_a_0 l180.length c_a_0), (8, .slice A197 l194.length c198), (10, .int .i64 i_337)] ∧ Hp S0 w0 w [.own A_a_0 c_a_0 (rowC (Eint .i64) l180) 3 (Eint .i64).sz, .own A_b_1 c_b_1 (rowC (Eint .i64) l129) 3 (Eint .i64).sz, .own A197 c198 (rowC (Eint .i64) l194) 3 (Eint .i64).sz] ∧ valiselaw5_apartInts.l7 k i_337 l_a_0 l_b_1 l43 l129 = some yj277) FU (fun a ha => ⟨_, Is.cons ha (Is.cons ha (Is.cons ha (Is.cons ha (Is.cons ha (Is.nil ha) rfl) rfl) rfl) rfl) rfl, HS276.sel [0, 1, 2] rfl, H⟩) (fun kp336 a w338 hI Qp336 hNp336 hOp336 => ?_)
              obtain ⟨i_337, ha, HS339, HAp336⟩ := hI
              cases kp336 with
              | zero => cases (show (none : Option _) = some _ from HAp336)
              | succ kp336 =>
                have H := (valiselaw5_apartInts.l7.eq_2 ..).symm.trans HAp336
                refine wpLF_app ?_ ha
                refine L_seq ?_
                refine L_seq ?_
                refine L_region ?_
                refine F_val rfl rfl rfl (O_move rfl rfl) ?_
                refine F_val rfl rfl rfl (O_move rfl rfl) ?_
                refine F_val rfl rfl rfl (O_len rfl rfl Try.underlying22) ?_
                refine F_val rfl rfl rfl (O_lt rfl rfl rfl) ?_
                refine F_nil ?_
                refine L_condP rfl (fun c340 => ?_) (fun c340 => ?_)
                · have H := of_pos H c340
                  refine L_skip ?_
                  refine L_seq ?_
                  refine L_blk (fun Q341 hN341 hX341 hO341 => ?_)
                  refine L_seq ?_
                  refine L_region ?_
                  refine F_val rfl rfl rfl (O_move rfl rfl) ?_
                  refine F_val rfl rfl rfl (O_move rfl rfl) ?_
                  obtain ⟨⟨g342, g343⟩, H⟩ := of_gd H
                  refine F_val rfl rfl rfl (O_idx rfl rfl rfl Try.underlying22 size3 g342 g343 (Cells.isA (HS339.cells_own (i := 1) rfl) (rowC_ne (E := (Eint .i64)) g342 g343 (by decide)))) ?_
                  refine F_val rfl rfl rfl (O_loadC rfl rfl flat3 (HS339.cells_own (i := 1) rfl) (int_cell g342 g343)) ?_
                  refine F_val rfl rfl rfl (O_ne rfl rfl rfl) ?_
                  refine F_nil ?_
                  refine L_condP rfl (fun c344 => ?_) (fun c344 => ?_)
                  · have H := of_pos H c344
                    refine L_seq ?_
                    refine L_region ?_
                    refine F_val rfl rfl rfl (O_assign rfl rfl) ?_
                    refine F_nil ?_
                    have HS345 := HS339.shrink (E := (Eint .i64)) (i := 0) rfl h181
                    obtain ⟨g346, H⟩ := of_gd H
                    obtain ⟨g347, H⟩ := of_gd H
                    refine L_ret (fun a ha => (hO341 .ret a _ rfl (hOp336 .ret a _ rfl (hOb314 .ret a _ rfl (hOj277 .ret a _ rfl (post_ret1 ha rfl rfl ?_))))))
                    obtain rfl := Option.some.inj H
                    obtain rfl := Option.some.inj (show (some (false, l43, l129) : Option (Bool × List Int × List Int)) = some _ from HOj277)
                    exact ⟨rfl, HS345.sel [0, 1] rfl, g346, g347⟩
                  · have H := of_neg H c344
                    refine L_skip ?_
                    refine L_endB hN341 ?_
                    refine L_region ?_
                    refine F_val rfl rfl rfl (O_move rfl rfl) ?_
                    refine F_val rfl rfl rfl (O_add rfl rfl rfl) ?_
                    obtain ⟨x348, h349, H⟩ := of_bnd H
                    refine F_val rfl rfl rfl (O_assign' rfl rfl (congrArg (Value.int .i64) h349)) ?_
                    refine F_nil ?_
                    refine L_nil (fun a ha => hNp336 _ a _ (Nat.lt_succ_self _) ⟨_, Is.cons ha (Is.cons ha (Is.cons ha (Is.cons ha (Is.cons ha (Is.nil ha) rfl) rfl) rfl) rfl) rfl, HS339.sel [0, 1, 2] rfl, H⟩)
                · have H := of_neg H c340
                  refine L_exitB (fun a w h => hOp336 (.exit 6) a w rfl (hXb314 a w h)) ?_
                  refine L_nil (fun a ha => hNj277 a _ ⟨(Option.some.inj H).symm, Is.cons ha (Is.cons ha (Is.cons ha (Is.cons ha (Is.nil ha) rfl) rfl) rfl) rfl, HS339.sel [0, 1, 2] rfl⟩)
            · obtain ⟨rfl, ha, HS351⟩ := hR
              refine wpLF_app ?_ ha
              have H := (onR_inr _ _ _).symm.trans H
              refine L_seq ?_
              refine L_region ?_
              refine F_val rfl rfl rfl (O_move rfl rfl) ?_
              refine F_val rfl rfl rfl (O_move rfl rfl) ?_
              refine F_val rfl rfl rfl (O_len rfl rfl Try.underlying22) ?_
              obtain ⟨⟨g352, g353⟩, H⟩ := of_gd H
              refine F_val rfl rfl rfl (O_idx rfl rfl rfl Try.underlying22 size3 g352 g353 (Cells.isA (HS351.cells_own (i := 0) rfl) (rowC_ne (E := (Eint .i64)) g352 g353 (by decide)))) ?_
              refine F_val rfl rfl rfl (O_loadC rfl rfl flat3 (HS351.cells_own (i := 0) rfl) (int_cell g352 g353)) ?_
              refine F_val rfl rfl rfl (O_eq rfl rfl rfl) ?_
              refine F_val rfl rfl rfl (O_move rfl rfl) ?_
              obtain ⟨b356, Hb356, H⟩ := of_bind H
              refine F_grp 7 [(70, .bool b356)] ?_ ?_
              · rcases Decidable.em (rd l180 (l43.length : Int) = 5) with c360 | c360
                · refine F_know (i := 63) rfl (dec_t c360) ?_
                  have H := of_pos Hb356 c360
                  refine F_gval rfl rfl rfl rfl rfl rfl (O_move rfl rfl) ?_
                  refine F_gval rfl rfl rfl rfl rfl rfl (O_move rfl rfl) ?_
                  refine F_gval rfl rfl rfl rfl rfl rfl (O_len rfl rfl Try.underlying22) ?_
                  obtain ⟨⟨g361, g362⟩, H⟩ := of_gd H
                  refine F_gval rfl rfl rfl rfl rfl rfl (O_idx rfl rfl rfl Try.underlying22 size3 g361 g362 (Cells.isA (HS351.cells_own (i := 2) rfl) (rowC_ne (E := (Eint .i64)) g361 g362 (by decide)))) ?_
                  refine F_gval rfl rfl rfl rfl rfl rfl (O_loadC rfl rfl flat3 (HS351.cells_own (i := 2) rfl) (int_cell g361 g362)) ?_
                  refine F_gval rfl rfl rfl rfl rfl rfl (O_eq rfl rfl rfl) ?_
                  refine F_val rfl rfl rfl (O_pickT rfl rfl rfl) ?_
                  refine F_know (i := 70) rfl (congrArg Value.bool (Option.some.inj H)) ?_
                  exact F_grpE (fun a ha => Is.cons ha (Is.nil ha) rfl)
                · refine F_know (i := 63) rfl (dec_f c360) ?_
                  have H := of_neg Hb356 c360
                  refine F_gskip rfl rfl rfl rfl rfl rfl rfl ?_
                  refine F_gskip rfl rfl rfl rfl rfl rfl rfl ?_
                  refine F_gskip rfl rfl rfl rfl rfl rfl rfl ?_
                  refine F_gskip rfl rfl rfl rfl rfl rfl rfl ?_
                  refine F_gskip rfl rfl rfl rfl rfl rfl rfl ?_
                  refine F_gskip rfl rfl rfl rfl rfl rfl rfl ?_
                  refine F_val rfl rfl rfl (O_pickF rfl rfl rfl) ?_
                  refine F_know (i := 70) rfl (congrArg Value.bool (Option.some.inj H)) ?_
                  exact F_grpE (fun a ha => Is.cons ha (Is.nil ha) rfl)
              · skip
                refine F_val rfl rfl rfl (O_assign rfl rfl) ?_
                refine F_nil ?_
                have HS363 := HS351.shrink (E := (Eint .i64)) (i := 0) rfl h181
                obtain ⟨g364, H⟩ := of_gd H
                obtain ⟨g365, H⟩ := of_gd H
                refine L_ret (fun a ha => (post_ret1 ha rfl rfl ?_))
                obtain rfl := Option.some.inj H
                exact ⟨rfl, HS363.sel [0, 1] rfl, g364, g365⟩
      · skip
        have HS179 : Hp S0 w0 w178 [.own A_a_0 c_a_0 (rowC (Eint .i64) l43) 3 (Eint .i64).sz, .own A_b_1 c_b_1 (rowC (Eint .i64) l129) 3 (Eint .i64).sz, .own A175 c176 (rowC (Eint .i64) [5]) 3 (Eint .i64).sz, .own A183 c184 (rowC (Eint .i64) l180) 3 (Eint .i64).sz] := HS179
        refine F_val rfl rfl rfl (O_assign rfl rfl) ?_
        refine F_nil ?_
        refine L_seq ?_
        refine L_region ?_
        refine F_val rfl rfl rfl (O_move rfl rfl) ?_
        refine F_litE (E := (Eint .i64)) (e := 3) [(0, .int .i64 6)] [6] rfl rfl rfl rfl rfl rfl rfl (by decide) (fun w => by kernel_rfl) HS179 (fun w187 A189 c190 HS188 => ?_)
        have HS188 : Hp S0 w0 w187 [.own A_a_0 c_a_0 (rowC (Eint .i64) l43) 3 (Eint .i64).sz, .own A_b_1 c_b_1 (rowC (Eint .i64) l129) 3 (Eint .i64).sz, .own A175 c176 (rowC (Eint .i64) [5]) 3 (Eint .i64).sz, .own A183 c184 (rowC (Eint .i64) l180) 3 (Eint .i64).sz, .own A189 c190 (rowC (Eint .i64) [6]) 3 (Eint .i64).sz] := HS188
        obtain ⟨l194, h195, H⟩ := of_bnd H
        obtain ⟨g196, H⟩ := of_gd H
        refine F_appE2 (E := (Eint .i64)) (xs := l129) (ys := [6]) (i := 1) rfl rfl rfl rfl Try.underlying22 info3 rfl (by decide) (by decide) rfl rfl HS188 rfl (HS188.cells_own (i := 4) rfl) h195 g196 (fun w192 HS193 => ?_) (fun w192 A197 c198 HS193 => ?_)
        · skip
          have HS193 : Hp S0 w0 w192 [.own A_a_0 c_a_0 (rowC (Eint .i64) l43) 3 (Eint .i64).sz, .own A_b_1 c_b_1 (rowC (Eint .i64) l194) 3 (Eint .i64).sz, .own A175 c176 (rowC (Eint .i64) [5]) 3 (Eint .i64).sz, .own A183 c184 (rowC (Eint .i64) l180) 3 (Eint .i64).sz, .own A189 c190 (rowC (Eint .i64) [6]) 3 (Eint .i64).sz] := HS193
          have hs199 := (HS193.cells_own (i := 1) rfl).preZ h195
          refine F_val rfl rfl rfl (O_assign rfl rfl) ?_
          refine F_nil ?_
          refine L_seq ?_
          refine L_seq ?_
          have HS201 : Hp S0 w0 w192 [.own A_a_0 c_a_0 (rowC (Eint .i64) l43) 3 (Eint .i64).sz, .own A_b_1 c_b_1 (rowC (Eint .i64) l194) 3 (Eint .i64).sz, .own A183 c184 (rowC (Eint .i64) l180) 3 (Eint .i64).sz] := HS193.sel [0, 1, 3] rfl
          refine L_region ?_
          refine F_val rfl rfl rfl (O_assign rfl rfl) ?_
          refine F_nil ?_
          obtain ⟨yj202, Hyj202, H⟩ := of_bind H
          refine L_join (fun a w => yj202 = Sum.inr () ∧ Is Try.f19.ntmps a [(0, .slice A_a_0 l43.length c_a_0), (1, .slice A_b_1 l129.length c_b_1), (7, .slice A183 l180.length c184), (8, .slice A_b_1 l194.length c_b_1)] ∧ Hp S0 w0 w [.own A_a_0 c_a_0 (rowC (Eint .i64) l43) 3 (Eint .i64).sz, .own A_b_1 c_b_1 (rowC (Eint .i64) l194) 3 (Eint .i64).sz, .own A183 c184 (rowC (Eint .i64) l180) 3 (Eint .i64).sz]) (fun Qj202 hNj202 hOj202 => ?_) (fun a w hR => ?_)
          · have HOj202 := H
            have H := Hyj202
            refine L_blk (fun Qb239 hNb239 hXb239 hOb239 => ?_)
            refine L_lp (fun k a w => ∃ (i_262 : Int), Is Try.f19.ntmps a [(0, .slice A_a_0 l43.length c_a_0), (1, .slice A_b_1 l129.length c_b_1), (7, .slice A183 l180.length c184), (8, .slice A_b_1 l194.length c_b_1), (9, .int .i64 i_262)] ∧ Hp S0 w0 w [.own A_a_0 c_a_0 (rowC (Eint .i64) l43) 3 (Eint .i64).sz, .own A_b_1 c_b_1 (rowC (Eint .i64) l194) 3 (Eint .i64).sz, .own A183 c184 (rowC (Eint .i64) l180) 3 (Eint .i64).sz] ∧ valiselaw5_apartInts.l5 k i_262 l_a_0 l_b_1 l43 l129 = some yj202) FU (fun a ha => ⟨_, Is.cons ha (Is.cons ha (Is.cons ha (Is.cons ha (Is.cons ha (Is.nil ha) rfl) rfl) rfl) rfl) rfl, HS201.sel [0, 1, 2] rfl, H⟩) (fun kp261 a w263 hI Qp261 hNp261 hOp261 => ?_)
            obtain ⟨i_262, ha, HS264, HAp261⟩ := hI
            cases kp261 with
            | zero => cases (show (none : Option _) = some _ from HAp261)
            | succ kp261 =>
              have H := (valiselaw5_apartInts.l5.eq_2 ..).symm.trans HAp261
              refine wpLF_app ?_ ha
              refine L_seq ?_
              refine L_seq ?_
              refine L_region ?_
              refine F_val rfl rfl rfl (O_move rfl rfl) ?_
              refine F_val rfl rfl rfl (O_move rfl rfl) ?_
              refine F_val rfl rfl rfl (O_len rfl rfl Try.underlying22) ?_
              refine F_val rfl rfl rfl (O_lt rfl rfl rfl) ?_
              refine F_nil ?_
              refine L_condP rfl (fun c265 => ?_) (fun c265 => ?_)
              · have H := of_pos H c265
                refine L_skip ?_
                refine L_seq ?_
                refine L_blk (fun Q266 hN266 hX266 hO266 => ?_)
                refine L_seq ?_
                refine L_region ?_
                refine F_val rfl rfl rfl (O_move rfl rfl) ?_
                refine F_val rfl rfl rfl (O_move rfl rfl) ?_
                obtain ⟨⟨g267, g268⟩, H⟩ := of_gd H
                refine F_val rfl rfl rfl (O_idx rfl rfl rfl Try.underlying22 size3 g267 g268 (Cells.isA (HS264.cells_own (i := 0) rfl) (rowC_ne (E := (Eint .i64)) g267 g268 (by decide)))) ?_
                refine F_val rfl rfl rfl (O_loadC rfl rfl flat3 (HS264.cells_own (i := 0) rfl) (int_cell g267 g268)) ?_
                refine F_val rfl rfl rfl (O_ne rfl rfl rfl) ?_
                refine F_nil ?_
                refine L_condP rfl (fun c269 => ?_) (fun c269 => ?_)
                · have H := of_pos H c269
                  refine L_seq ?_
                  refine L_region ?_
                  refine F_val rfl rfl rfl (O_assign rfl rfl) ?_
                  refine F_nil ?_
                  obtain ⟨g270, H⟩ := of_gd H
                  have HS271 := HS264.shrink (E := (Eint .i64)) (i := 1) rfl h195
                  obtain ⟨g272, H⟩ := of_gd H
                  refine L_ret (fun a ha => (hO266 .ret a _ rfl (hOp261 .ret a _ rfl (hOb239 .ret a _ rfl (hOj202 .ret a _ rfl (post_ret1 ha rfl rfl ?_))))))
                  obtain rfl := Option.some.inj H
                  obtain rfl := Option.some.inj (show (some (false, l43, l129) : Option (Bool × List Int × List Int)) = some _ from HOj202)
                  exact ⟨rfl, HS271.sel [0, 1] rfl, g270, g272⟩
                · have H := of_neg H c269
                  refine L_skip ?_
                  refine L_endB hN266 ?_
                  refine L_region ?_
                  refine F_val rfl rfl rfl (O_move rfl rfl) ?_
                  refine F_val rfl rfl rfl (O_add rfl rfl rfl) ?_
                  obtain ⟨x273, h274, H⟩ := of_bnd H
                  refine F_val rfl rfl rfl (O_assign' rfl rfl (congrArg (Value.int .i64) h274)) ?_
                  refine F_nil ?_
                  refine L_nil (fun a ha => hNp261 _ a _ (Nat.lt_succ_self _) ⟨_, Is.cons ha (Is.cons ha (Is.cons ha (Is.cons ha (Is.cons ha (Is.nil ha) rfl) rfl) rfl) rfl) rfl, HS264.sel [0, 1, 2] rfl, H⟩)
              · have H := of_neg H c265
                refine L_exitB (fun a w h => hOp261 (.exit 4) a w rfl (hXb239 a w h)) ?_
                refine L_nil (fun a ha => hNj202 a _ ⟨(Option.some.inj H).symm, Is.cons ha (Is.cons ha (Is.cons ha (Is.cons ha (Is.nil ha) rfl) rfl) rfl) rfl, HS264.sel [0, 1, 2] rfl⟩)
          · obtain ⟨rfl, ha, HS276⟩ := hR
            refine wpLF_app ?_ ha
            have H := (onR_inr _ _ _).symm.trans H
            refine L_seq ?_
            refine L_seq ?_
            refine L_region ?_
            refine F_val rfl rfl rfl (O_assign rfl rfl) ?_
            refine F_nil ?_
            obtain ⟨yj277, Hyj277, H⟩ := of_bind H
            refine L_join (fun a w => yj277 = Sum.inr () ∧ Is Try.f19.ntmps a [(0, .slice A_a_0 l43.length c_a_0), (1, .slice A_b_1 l129.length c_b_1), (7, .slice A183 l180.length c184), (8, .slice A_b_1 l194.length c_b_1)] ∧ Hp S0 w0 w [.own A_a_0 c_a_0 (rowC (Eint .i64) l43) 3 (Eint .i64).sz, .own A_b_1 c_b_1 (rowC (Eint .i64) l194) 3 (Eint .i64).sz, .own A183 c184 (rowC (Eint .i64) l180) 3 (Eint .i64).sz]) (fun Qj277 hNj277 hOj277 => ?_) (fun a w hR => ?_)
            · have HOj277 := H
              have H := Hyj277
              refine L_blk (fun Qb314 hNb314 hXb314 hOb314 => ?_)
              refine L_lp (fun k a w => ∃ (i_337 : Int), Is Try.f19.ntmps a [(0, .slice A_a_0 l43.length c_a_0), (1, .slice A_b_1 l129.length c_b_1), (7, .slice A183 l180.length c184), (8, .slice A_b_1 l194.length c_b_1), (10, .int .i64 i_337)] ∧ Hp S0 w0 w [.own A_a_0 c_a_0 (rowC (Eint .i64) l43) 3 (Eint .i64).sz, .own A_b_1 c_b_1 (rowC (Eint .i64) l194) 3 (Eint .i64).sz, .own A183 c184 (rowC (Eint .i64) l180) 3 (Eint .i64).sz] ∧ valiselaw5_apartInts.l7 k i_337 l_a_0 l_b_1 l43 l129 = some yj277) FU (fun a ha => ⟨_, Is.cons ha (Is.cons ha (Is.cons ha (Is.cons ha (Is.cons ha (Is.nil ha) rfl) rfl) rfl) rfl) rfl, HS276.sel [0, 1, 2] rfl, H⟩) (fun kp336 a w338 hI Qp336 hNp336 hOp336 => ?_)
              obtain ⟨i_337, ha, HS339, HAp336⟩ := hI
              cases kp336 with
              | zero => cases (show (none : Option _) = some _ from HAp336)
              | succ kp336 =>
                have H := (valiselaw5_apartInts.l7.eq_2 ..).symm.trans HAp336
                refine wpLF_app ?_ ha
                refine L_seq ?_
                refine L_seq ?_
                refine L_region ?_
                refine F_val rfl rfl rfl (O_move rfl rfl) ?_
                refine F_val rfl rfl rfl (O_move rfl rfl) ?_
                refine F_val rfl rfl rfl (O_len rfl rfl Try.underlying22) ?_
                refine F_val rfl rfl rfl (O_lt rfl rfl rfl) ?_
                refine F_nil ?_
                refine L_condP rfl (fun c340 => ?_) (fun c340 => ?_)
                · have H := of_pos H c340
                  refine L_skip ?_
                  refine L_seq ?_
                  refine L_blk (fun Q341 hN341 hX341 hO341 => ?_)
                  refine L_seq ?_
                  refine L_region ?_
                  refine F_val rfl rfl rfl (O_move rfl rfl) ?_
                  refine F_val rfl rfl rfl (O_move rfl rfl) ?_
                  obtain ⟨⟨g342, g343⟩, H⟩ := of_gd H
                  refine F_val rfl rfl rfl (O_idx rfl rfl rfl Try.underlying22 size3 g342 g343 (Cells.isA (Cells.sub (HS339.cells_own (i := 1) rfl) hs199) (rowC_ne (E := (Eint .i64)) g342 g343 (by decide)))) ?_
                  refine F_val rfl rfl rfl (O_loadC rfl rfl flat3 (Cells.sub (HS339.cells_own (i := 1) rfl) hs199) (int_cell g342 g343)) ?_
                  refine F_val rfl rfl rfl (O_ne rfl rfl rfl) ?_
                  refine F_nil ?_
                  refine L_condP rfl (fun c344 => ?_) (fun c344 => ?_)
                  · have H := of_pos H c344
                    refine L_seq ?_
                    refine L_region ?_
                    refine F_val rfl rfl rfl (O_assign rfl rfl) ?_
                    refine F_nil ?_
                    obtain ⟨g345, H⟩ := of_gd H
                    have HS346 := HS339.shrink (E := (Eint .i64)) (i := 1) rfl h195
                    obtain ⟨g347, H⟩ := of_gd H
                    refine L_ret (fun a ha => (hO341 .ret a _ rfl (hOp336 .ret a _ rfl (hOb314 .ret a _ rfl (hOj277 .ret a _ rfl (post_ret1 ha rfl rfl ?_))))))
                    obtain rfl := Option.some.inj H
                    obtain rfl := Option.some.inj (show (some (false, l43, l129) : Option (Bool × List Int × List Int)) = some _ from HOj277)
                    exact ⟨rfl, HS346.sel [0, 1] rfl, g345, g347⟩
                  · have H := of_neg H c344
                    refine L_skip ?_
                    refine L_endB hN341 ?_
                    refine L_region ?_
                    refine F_val rfl rfl rfl (O_move rfl rfl) ?_
                    refine F_val rfl rfl rfl (O_add rfl rfl rfl) ?_
                    obtain ⟨x348, h349, H⟩ := of_bnd H
                    refine F_val rfl rfl rfl (O_assign' rfl rfl (congrArg (Value.int .i64) h349)) ?_
                    refine F_nil ?_
                    refine L_nil (fun a ha => hNp336 _ a _ (Nat.lt_succ_self _) ⟨_, Is.cons ha (Is.cons ha (Is.cons ha (Is.cons ha (Is.cons ha (Is.nil ha) rfl) rfl) rfl) rfl) rfl, HS339.sel [0, 1, 2] rfl, H⟩)
                · have H := of_neg H c340
                  refine L_exitB (fun a w h => hOp336 (.exit 6) a w rfl (hXb314 a w h)) ?_
                  refine L_nil (fun a ha => hNj277 a _ ⟨(Option.some.inj H).symm, Is.cons ha (Is.cons ha (Is.cons ha (Is.cons ha (Is.nil ha) rfl) rfl) rfl) rfl, HS339.sel [0, 1, 2] rfl⟩)
            · obtain ⟨rfl, ha, HS351⟩ := hR
              refine wpLF_app ?_ ha
              have H := (onR_inr _ _ _).symm.trans H
              refine L_seq ?_
              refine L_region ?_
              refine F_val rfl rfl rfl (O_move rfl rfl) ?_
              refine F_val rfl rfl rfl (O_move rfl rfl) ?_
              refine F_val rfl rfl rfl (O_len rfl rfl Try.underlying22) ?_
              obtain ⟨⟨g352, g353⟩, H⟩ := of_gd H
              refine F_val rfl rfl rfl (O_idx rfl rfl rfl Try.underlying22 size3 g352 g353 (Cells.isA (HS351.cells_own (i := 2) rfl) (rowC_ne (E := (Eint .i64)) g352 g353 (by decide)))) ?_
              refine F_val rfl rfl rfl (O_loadC rfl rfl flat3 (HS351.cells_own (i := 2) rfl) (int_cell g352 g353)) ?_
              refine F_val rfl rfl rfl (O_eq rfl rfl rfl) ?_
              refine F_val rfl rfl rfl (O_move rfl rfl) ?_
              obtain ⟨b356, Hb356, H⟩ := of_bind H
              refine F_grp 7 [(70, .bool b356)] ?_ ?_
              · rcases Decidable.em (rd l180 (l43.length : Int) = 5) with c360 | c360
                · refine F_know (i := 63) rfl (dec_t c360) ?_
                  have H := of_pos Hb356 c360
                  refine F_gval rfl rfl rfl rfl rfl rfl (O_move rfl rfl) ?_
                  refine F_gval rfl rfl rfl rfl rfl rfl (O_move rfl rfl) ?_
                  refine F_gval rfl rfl rfl rfl rfl rfl (O_len rfl rfl Try.underlying22) ?_
                  obtain ⟨⟨g361, g362⟩, H⟩ := of_gd H
                  refine F_gval rfl rfl rfl rfl rfl rfl (O_idx rfl rfl rfl Try.underlying22 size3 g361 g362 (Cells.isA (HS351.cells_own (i := 1) rfl) (rowC_ne (E := (Eint .i64)) g361 g362 (by decide)))) ?_
                  refine F_gval rfl rfl rfl rfl rfl rfl (O_loadC rfl rfl flat3 (HS351.cells_own (i := 1) rfl) (int_cell g361 g362)) ?_
                  refine F_gval rfl rfl rfl rfl rfl rfl (O_eq rfl rfl rfl) ?_
                  refine F_val rfl rfl rfl (O_pickT rfl rfl rfl) ?_
                  refine F_know (i := 70) rfl (congrArg Value.bool (Option.some.inj H)) ?_
                  exact F_grpE (fun a ha => Is.cons ha (Is.nil ha) rfl)
                · refine F_know (i := 63) rfl (dec_f c360) ?_
                  have H := of_neg Hb356 c360
                  refine F_gskip rfl rfl rfl rfl rfl rfl rfl ?_
                  refine F_gskip rfl rfl rfl rfl rfl rfl rfl ?_
                  refine F_gskip rfl rfl rfl rfl rfl rfl rfl ?_
                  refine F_gskip rfl rfl rfl rfl rfl rfl rfl ?_
                  refine F_gskip rfl rfl rfl rfl rfl rfl rfl ?_
                  refine F_gskip rfl rfl rfl rfl rfl rfl rfl ?_
                  refine F_val rfl rfl rfl (O_pickF rfl rfl rfl) ?_
                  refine F_know (i := 70) rfl (congrArg Value.bool (Option.some.inj H)) ?_
                  exact F_grpE (fun a ha => Is.cons ha (Is.nil ha) rfl)
              · skip
                refine F_val rfl rfl rfl (O_assign rfl rfl) ?_
                refine F_nil ?_
                obtain ⟨g363, H⟩ := of_gd H
                have HS364 := HS351.shrink (E := (Eint .i64)) (i := 1) rfl h195
                obtain ⟨g365, H⟩ := of_gd H
                refine L_ret (fun a ha => (post_ret1 ha rfl rfl ?_))
                obtain rfl := Option.some.inj H
                exact ⟨rfl, HS364.sel [0, 1] rfl, g363, g365⟩
        · skip
          have HS193 : Hp S0 w0 w192 [.own A_a_0 c_a_0 (rowC (Eint .i64) l43) 3 (Eint .i64).sz, .own A_b_1 c_b_1 (rowC (Eint .i64) l129) 3 (Eint .i64).sz, .own A175 c176 (rowC (Eint .i64) [5]) 3 (Eint .i64).sz, .own A183 c184 (rowC (Eint .i64) l180) 3 (Eint .i64).sz, .own A189 c190 (rowC (Eint .i64) [6]) 3 (Eint .i64).sz, .own A197 c198 (rowC (Eint .i64) l194) 3 (Eint .i64).sz] := HS193
          refine F_val rfl rfl rfl (O_assign rfl rfl) ?_
          refine F_nil ?_
          refine L_seq ?_
          refine L_seq ?_
          have HS201 : Hp S0 w0 w192 [.own A_a_0 c_a_0 (rowC (Eint .i64) l43) 3 (Eint .i64).sz, .own A_b_1 c_b_1 (rowC (Eint .i64) l129) 3 (Eint .i64).sz, .own A183 c184 (rowC (Eint .i64) l180) 3 (Eint .i64).sz, .own A197 c198 (rowC (Eint .i64) l194) 3 (Eint .i64).sz] := HS193.sel [0, 1, 3, 5] rfl
          refine L_region ?_
          refine F_val rfl rfl rfl (O_assign rfl rfl) ?_
          refine F_nil ?_
          obtain ⟨yj202, Hyj202, H⟩ := of_bind H
          refine L_join (fun a w => yj202 = Sum.inr () ∧ Is Try.f19.ntmps a [(0, .slice A_a_0 l43.length c_a_0), (1, .slice A_b_1 l129.length c_b_1), (7, .slice A183 l180.length c184), (8, .slice A197 l194.length c198)] ∧ Hp S0 w0 w [.own A_a_0 c_a_0 (rowC (Eint .i64) l43) 3 (Eint .i64).sz, .own A_b_1 c_b_1 (rowC (Eint .i64) l129) 3 (Eint .i64).sz, .own A183 c184 (rowC (Eint .i64) l180) 3 (Eint .i64).sz, .own A197 c198 (rowC (Eint .i64) l194) 3 (Eint .i64).sz]) (fun Qj202 hNj202 hOj202 => ?_) (fun a w hR => ?_)
          · have HOj202 := H
            have H := Hyj202
            refine L_blk (fun Qb238 hNb238 hXb238 hOb238 => ?_)
            refine L_lp (fun k a w => ∃ (i_259 : Int), Is Try.f19.ntmps a [(0, .slice A_a_0 l43.length c_a_0), (1, .slice A_b_1 l129.length c_b_1), (7, .slice A183 l180.length c184), (8, .slice A197 l194.length c198), (9, .int .i64 i_259)] ∧ Hp S0 w0 w [.own A_a_0 c_a_0 (rowC (Eint .i64) l43) 3 (Eint .i64).sz, .own A_b_1 c_b_1 (rowC (Eint .i64) l129) 3 (Eint .i64).sz, .own A183 c184 (rowC (Eint .i64) l180) 3 (Eint .i64).sz, .own A197 c198 (rowC (Eint .i64) l194) 3 (Eint .i64).sz] ∧ valiselaw5_apartInts.l5 k i_259 l_a_0 l_b_1 l43 l129 = some yj202) FU (fun a ha => ⟨_, Is.cons ha (Is.cons ha (Is.cons ha (Is.cons ha (Is.cons ha (Is.nil ha) rfl) rfl) rfl) rfl) rfl, HS201.sel [0, 1, 2, 3] rfl, H⟩) (fun kp258 a w260 hI Qp258 hNp258 hOp258 => ?_)
            obtain ⟨i_259, ha, HS261, HAp258⟩ := hI
            cases kp258 with
            | zero => cases (show (none : Option _) = some _ from HAp258)
            | succ kp258 =>
              have H := (valiselaw5_apartInts.l5.eq_2 ..).symm.trans HAp258
              refine wpLF_app ?_ ha
              refine L_seq ?_
              refine L_seq ?_
              refine L_region ?_
              refine F_val rfl rfl rfl (O_move rfl rfl) ?_
              refine F_val rfl rfl rfl (O_move rfl rfl) ?_
              refine F_val rfl rfl rfl (O_len rfl rfl Try.underlying22) ?_
              refine F_val rfl rfl rfl (O_lt rfl rfl rfl) ?_
              refine F_nil ?_
              refine L_condP rfl (fun c262 => ?_) (fun c262 => ?_)
              · have H := of_pos H c262
                refine L_skip ?_
                refine L_seq ?_
                refine L_blk (fun Q263 hN263 hX263 hO263 => ?_)
                refine L_seq ?_
                refine L_region ?_
                refine F_val rfl rfl rfl (O_move rfl rfl) ?_
                refine F_val rfl rfl rfl (O_move rfl rfl) ?_
                obtain ⟨⟨g264, g265⟩, H⟩ := of_gd H
                refine F_val rfl rfl rfl (O_idx rfl rfl rfl Try.underlying22 size3 g264 g265 (Cells.isA (HS261.cells_own (i := 0) rfl) (rowC_ne (E := (Eint .i64)) g264 g265 (by decide)))) ?_
                refine F_val rfl rfl rfl (O_loadC rfl rfl flat3 (HS261.cells_own (i := 0) rfl) (int_cell g264 g265)) ?_
                refine F_val rfl rfl rfl (O_ne rfl rfl rfl) ?_
                refine F_nil ?_
                refine L_condP rfl (fun c266 => ?_) (fun c266 => ?_)
                · have H := of_pos H c266
                  refine L_seq ?_
                  refine L_region ?_
                  refine F_val rfl rfl rfl (O_assign rfl rfl) ?_
                  refine F_nil ?_
                  obtain ⟨g267, H⟩ := of_gd H
                  obtain ⟨g268, H⟩ := of_gd H
                  refine L_ret (fun a ha => (hO263 .ret a _ rfl (hOp258 .ret a _ rfl (hOb238 .ret a _ rfl (hOj202 .ret a _ rfl (post_ret1 ha rfl rfl ?_))))))
                  obtain rfl := Option.some.inj H
                  obtain rfl := Option.some.inj (show (some (false, l43, l129) : Option (Bool × List Int × List Int)) = some _ from HOj202)
                  exact ⟨rfl, HS261.sel [0, 1] rfl, g267, g268⟩
                · have H := of_neg H c266
                  refine L_skip ?_
                  refine L_endB hN263 ?_
                  refine L_region ?_
                  refine F_val rfl rfl rfl (O_move rfl rfl) ?_
                  refine F_val rfl rfl rfl (O_add rfl rfl rfl) ?_
                  obtain ⟨x269, h270, H⟩ := of_bnd H
                  refine F_val rfl rfl rfl (O_assign' rfl rfl (congrArg (Value.int .i64) h270)) ?_
                  refine F_nil ?_
                  refine L_nil (fun a ha => hNp258 _ a _ (Nat.lt_succ_self _) ⟨_, Is.cons ha (Is.cons ha (Is.cons ha (Is.cons ha (Is.cons ha (Is.nil ha) rfl) rfl) rfl) rfl) rfl, HS261.sel [0, 1, 2, 3] rfl, H⟩)
              · have H := of_neg H c262
                refine L_exitB (fun a w h => hOp258 (.exit 4) a w rfl (hXb238 a w h)) ?_
                refine L_nil (fun a ha => hNj202 a _ ⟨(Option.some.inj H).symm, Is.cons ha (Is.cons ha (Is.cons ha (Is.cons ha (Is.nil ha) rfl) rfl) rfl) rfl, HS261.sel [0, 1, 2, 3] rfl⟩)
          · obtain ⟨rfl, ha, HS272⟩ := hR
            refine wpLF_app ?_ ha
            have H := (onR_inr _ _ _).symm.trans H
            refine L_seq ?_
            refine L_seq ?_
            refine L_region ?_
            refine F_val rfl rfl rfl (O_assign rfl rfl) ?_
            refine F_nil ?_
            obtain ⟨yj273, Hyj273, H⟩ := of_bind H
            refine L_join (fun a w => yj273 = Sum.inr () ∧ Is Try.f19.ntmps a [(0, .slice A_a_0 l43.length c_a_0), (1, .slice A_b_1 l129.length c_b_1), (7, .slice A183 l180.length c184), (8, .slice A197 l194.length c198)] ∧ Hp S0 w0 w [.own A_a_0 c_a_0 (rowC (Eint .i64) l43) 3 (Eint .i64).sz, .own A_b_1 c_b_1 (rowC (Eint .i64) l129) 3 (Eint .i64).sz, .own A183 c184 (rowC (Eint .i64) l180) 3 (Eint .i64).sz, .own A197 c198 (rowC (Eint .i64) l194) 3 (Eint .i64).sz]) (fun Qj273 hNj273 hOj273 => ?_) (fun a w hR => ?_)
            · have HOj273 := H
              have H := Hyj273
              refine L_blk (fun Qb309 hNb309 hXb309 hOb309 => ?_)
              refine L_lp (fun k a w => ∃ (i_330 : Int), Is Try.f19.ntmps a [(0, .slice A_a_0 l43.length c_a_0), (1, .slice A_b_1 l129.length c_b_1), (7, .slice A183 l180.length c184), (8, .slice A197 l194.length c198), (10, .int .i64 i_330)] ∧ Hp S0 w0 w [.own A_a_0 c_a_0 (rowC (Eint .i64) l43) 3 (Eint .i64).sz, .own A_b_1 c_b_1 (rowC (Eint .i64) l129) 3 (Eint .i64).sz, .own A183 c184 (rowC (Eint .i64) l180) 3 (Eint .i64).sz, .own A197 c198 (rowC (Eint .i64) l194) 3 (Eint .i64).sz] ∧ valiselaw5_apartInts.l7 k i_330 l_a_0 l_b_1 l43 l129 = some yj273) FU (fun a ha => ⟨_, Is.cons ha (Is.cons ha (Is.cons ha (Is.cons ha (Is.cons ha (Is.nil ha) rfl) rfl) rfl) rfl) rfl, HS272.sel [0, 1, 2, 3] rfl, H⟩) (fun kp329 a w331 hI Qp329 hNp329 hOp329 => ?_)
              obtain ⟨i_330, ha, HS332, HAp329⟩ := hI
              cases kp329 with
              | zero => cases (show (none : Option _) = some _ from HAp329)
              | succ kp329 =>
                have H := (valiselaw5_apartInts.l7.eq_2 ..).symm.trans HAp329
                refine wpLF_app ?_ ha
                refine L_seq ?_
                refine L_seq ?_
                refine L_region ?_
                refine F_val rfl rfl rfl (O_move rfl rfl) ?_
                refine F_val rfl rfl rfl (O_move rfl rfl) ?_
                refine F_val rfl rfl rfl (O_len rfl rfl Try.underlying22) ?_
                refine F_val rfl rfl rfl (O_lt rfl rfl rfl) ?_
                refine F_nil ?_
                refine L_condP rfl (fun c333 => ?_) (fun c333 => ?_)
                · have H := of_pos H c333
                  refine L_skip ?_
                  refine L_seq ?_
                  refine L_blk (fun Q334 hN334 hX334 hO334 => ?_)
                  refine L_seq ?_
                  refine L_region ?_
                  refine F_val rfl rfl rfl (O_move rfl rfl) ?_
                  refine F_val rfl rfl rfl (O_move rfl rfl) ?_
                  obtain ⟨⟨g335, g336⟩, H⟩ := of_gd H
                  refine F_val rfl rfl rfl (O_idx rfl rfl rfl Try.underlying22 size3 g335 g336 (Cells.isA (HS332.cells_own (i := 1) rfl) (rowC_ne (E := (Eint .i64)) g335 g336 (by decide)))) ?_
                  refine F_val rfl rfl rfl (O_loadC rfl rfl flat3 (HS332.cells_own (i := 1) rfl) (int_cell g335 g336)) ?_
                  refine F_val rfl rfl rfl (O_ne rfl rfl rfl) ?_
                  refine F_nil ?_
                  refine L_condP rfl (fun c337 => ?_) (fun c337 => ?_)
                  · have H := of_pos H c337
                    refine L_seq ?_
                    refine L_region ?_
                    refine F_val rfl rfl rfl (O_assign rfl rfl) ?_
                    refine F_nil ?_
                    obtain ⟨g338, H⟩ := of_gd H
                    obtain ⟨g339, H⟩ := of_gd H
                    refine L_ret (fun a ha => (hO334 .ret a _ rfl (hOp329 .ret a _ rfl (hOb309 .ret a _ rfl (hOj273 .ret a _ rfl (post_ret1 ha rfl rfl ?_))))))
                    obtain rfl := Option.some.inj H
                    obtain rfl := Option.some.inj (show (some (false, l43, l129) : Option (Bool × List Int × List Int)) = some _ from HOj273)
                    exact ⟨rfl, HS332.sel [0, 1] rfl, g338, g339⟩
                  · have H := of_neg H c337
                    refine L_skip ?_
                    refine L_endB hN334 ?_
                    refine L_region ?_
                    refine F_val rfl rfl rfl (O_move rfl rfl) ?_
                    refine F_val rfl rfl rfl (O_add rfl rfl rfl) ?_
                    obtain ⟨x340, h341, H⟩ := of_bnd H
                    refine F_val rfl rfl rfl (O_assign' rfl rfl (congrArg (Value.int .i64) h341)) ?_
                    refine F_nil ?_
                    refine L_nil (fun a ha => hNp329 _ a _ (Nat.lt_succ_self _) ⟨_, Is.cons ha (Is.cons ha (Is.cons ha (Is.cons ha (Is.cons ha (Is.nil ha) rfl) rfl) rfl) rfl) rfl, HS332.sel [0, 1, 2, 3] rfl, H⟩)
                · have H := of_neg H c333
                  refine L_exitB (fun a w h => hOp329 (.exit 6) a w rfl (hXb309 a w h)) ?_
                  refine L_nil (fun a ha => hNj273 a _ ⟨(Option.some.inj H).symm, Is.cons ha (Is.cons ha (Is.cons ha (Is.cons ha (Is.nil ha) rfl) rfl) rfl) rfl, HS332.sel [0, 1, 2, 3] rfl⟩)
            · obtain ⟨rfl, ha, HS343⟩ := hR
              refine wpLF_app ?_ ha
              have H := (onR_inr _ _ _).symm.trans H
              refine L_seq ?_
              refine L_region ?_
              refine F_val rfl rfl rfl (O_move rfl rfl) ?_
              refine F_val rfl rfl rfl (O_move rfl rfl) ?_
              refine F_val rfl rfl rfl (O_len rfl rfl Try.underlying22) ?_
              obtain ⟨⟨g344, g345⟩, H⟩ := of_gd H
              refine F_val rfl rfl rfl (O_idx rfl rfl rfl Try.underlying22 size3 g344 g345 (Cells.isA (HS343.cells_own (i := 2) rfl) (rowC_ne (E := (Eint .i64)) g344 g345 (by decide)))) ?_
              refine F_val rfl rfl rfl (O_loadC rfl rfl flat3 (HS343.cells_own (i := 2) rfl) (int_cell g344 g345)) ?_
              refine F_val rfl rfl rfl (O_eq rfl rfl rfl) ?_
              refine F_val rfl rfl rfl (O_move rfl rfl) ?_
              obtain ⟨b348, Hb348, H⟩ := of_bind H
              refine F_grp 7 [(70, .bool b348)] ?_ ?_
              · rcases Decidable.em (rd l180 (l43.length : Int) = 5) with c352 | c352
                · refine F_know (i := 63) rfl (dec_t c352) ?_
                  have H := of_pos Hb348 c352
                  refine F_gval rfl rfl rfl rfl rfl rfl (O_move rfl rfl) ?_
                  refine F_gval rfl rfl rfl rfl rfl rfl (O_move rfl rfl) ?_
                  refine F_gval rfl rfl rfl rfl rfl rfl (O_len rfl rfl Try.underlying22) ?_
                  obtain ⟨⟨g353, g354⟩, H⟩ := of_gd H
                  refine F_gval rfl rfl rfl rfl rfl rfl (O_idx rfl rfl rfl Try.underlying22 size3 g353 g354 (Cells.isA (HS343.cells_own (i := 3) rfl) (rowC_ne (E := (Eint .i64)) g353 g354 (by decide)))) ?_
                  refine F_gval rfl rfl rfl rfl rfl rfl (O_loadC rfl rfl flat3 (HS343.cells_own (i := 3) rfl) (int_cell g353 g354)) ?_
                  refine F_gval rfl rfl rfl rfl rfl rfl (O_eq rfl rfl rfl) ?_
                  refine F_val rfl rfl rfl (O_pickT rfl rfl rfl) ?_
                  refine F_know (i := 70) rfl (congrArg Value.bool (Option.some.inj H)) ?_
                  exact F_grpE (fun a ha => Is.cons ha (Is.nil ha) rfl)
                · refine F_know (i := 63) rfl (dec_f c352) ?_
                  have H := of_neg Hb348 c352
                  refine F_gskip rfl rfl rfl rfl rfl rfl rfl ?_
                  refine F_gskip rfl rfl rfl rfl rfl rfl rfl ?_
                  refine F_gskip rfl rfl rfl rfl rfl rfl rfl ?_
                  refine F_gskip rfl rfl rfl rfl rfl rfl rfl ?_
                  refine F_gskip rfl rfl rfl rfl rfl rfl rfl ?_
                  refine F_gskip rfl rfl rfl rfl rfl rfl rfl ?_
                  refine F_val rfl rfl rfl (O_pickF rfl rfl rfl) ?_
                  refine F_know (i := 70) rfl (congrArg Value.bool (Option.some.inj H)) ?_
                  exact F_grpE (fun a ha => Is.cons ha (Is.nil ha) rfl)
              · skip
                refine F_val rfl rfl rfl (O_assign rfl rfl) ?_
                refine F_nil ?_
                obtain ⟨g355, H⟩ := of_gd H
                obtain ⟨g356, H⟩ := of_gd H
                refine L_ret (fun a ha => (post_ret1 ha rfl rfl ?_))
                obtain rfl := Option.some.inj H
                exact ⟨rfl, HS343.sel [0, 1] rfl, g355, g356⟩

/-! function 5: valise/valiselaw5.CodeWords -/
theorem valiselaw5_CodeWords.calls {S0 : Nat → Prop} {w0 : World} {A_lens_0 : Option Addr} {c_lens_0 : Nat} {l_lens_0 : List Int} {r : Bool} (HS0 : Hp S0 w0 w0 [.rd A_lens_0 (rowC (Eint .i64) l_lens_0)]) (hc_lens_0 : l_lens_0.length ≤ c_lens_0) (h : valiselaw5_CodeWords.f l_lens_0 = some r) :
    Calls Try.prog 5 ([.slice A_lens_0 l_lens_0.length c_lens_0] : List Value).toArray w0 (fun e w => e = .returned (.bool r) ∧ Hp S0 w0 w []) := by
  have H : (((valiselaw5_framed.f l_lens_0).bind fun z5 => gd ((0 : Int) ≤ (l_lens_0.length : Int) ∧ (l_lens_0.length : Int) ≤ (z5.length : Int)) ((code_Codes.f (z5.take ((l_lens_0.length : Int) : Int).toNat)).bind fun (z17, z18) => (valiseref5_Codes.f l_lens_0).bind fun (z28, z29) => (if z18 ≠ z29 then (some true) else ((valiselaw5_same.f z17 z28).bind fun z54 => some (!z54))).bind fun b47 => (if b47 = true then (some true) else ((valiselaw5_whole.f z5 l_lens_0).bind fun z71 => some (!z71))).bind fun b64 => if b64 = true then (some false) else ((code_Codes.f (z5.take ((l_lens_0.length : Int) : Int).toNat)).bind fun (z81, z82) => (code_Codes.f [1, 2, 2]).bind fun (z97, z98) => (valiselaw5_same.f z81 z28).bind fun z106 => (if (!z106) = true then (some true) else ((valiselaw5_same.f z17 z28).bind fun z123 => some (!z123))).bind fun b116 => if b116 = true then (some false) else ((valiselaw5_same.f z97 [0, 2, 3]).bind fun z136 => if (!z136) = true then (some false) else ((valiselaw5_spoil.f z17).bind fun z147 => (code_Codes.f (z5.take ((l_lens_0.length : Int) : Int).toNat)).bind fun (z156, z157) => (valiselaw5_same.f z81 z28).bind fun z165 => (if (!z165) = true then (some true) else ((valiselaw5_same.f z156 z28).bind fun z182 => some (!z182))).bind fun b175 => if b175 = true then (some false) else ((valiselaw5_same.f z97 [0, 2, 3]).bind fun z195 => (if (!z195) = true then (some true) else ((valiselaw5_whole.f z5 l_lens_0).bind fun z212 => some (!z212))).bind fun b205 => if b205 = true then (some false) else ((valiselaw5_backward.f l_lens_0).bind fun z222 => bnd (cpyV z5 ((l_lens_0.length : Int) : Int).toNat z222) fun l230 => (code_Codes.f (l230.take ((l_lens_0.length : Int) : Int).toNat)).bind fun (z237, z238) => (valiseref5_Codes.f z222).bind fun (z248, z249) => (valiselaw5_same.f z237 z248).bind fun z257 => (if (z257 = true) ∧ (z238 = z249) then ((valiselaw5_same.f z81 z28).bind fun z290 => some z290) else (some false)).bind fun b283 => (if b283 = true then ((valiselaw5_whole.f l230 z222).bind fun z307 => some z307) else (some false)).bind fun b300 => if b300 = true then ((valiselaw5_apartInts.f z147 z81).bind fun (z317, z318, z319) => if z317 = true then ((valiselaw5_apartInts.f z319 z156).bind fun (z331, z332, z333) => if z331 = true then ((valiselaw5_apartInts.f z333 z97).bind fun (z345, z346, z347) => if z345 = true then ((valiselaw5_apartInts.f z347 z237).bind fun (z359, z360, z361) => some z359) else (some false)) else (some false)) else (some false)) else (some false)))))))) : Option (Bool)) = some r := h
  refine calls_start Try.func5 rfl rfl ?_
  refine L_seq ?_
  refine L_region ?_
  refine F_val rfl rfl rfl (O_assign rfl rfl) ?_
  refine F_nil ?_
  refine L_seq ?_
  refine L_region ?_
  refine F_val rfl rfl rfl (O_move rfl rfl) ?_
  obtain ⟨z5, h4, H⟩ := of_bind H
  refine F_call (xs := [.tmp 21]) rfl rfl rfl rfl Try.func20 nm20 rfl rfl ((valiselaw5_framed.calls (HS0.give [] rfl (Lent.rd HS0 (Lent.nil) (i := 0) rfl ((HS0.cells_rd (i := 0) rfl).self))) hc_lens_0 h4).mono (fun e w hc => ?_))
  obtain ⟨A8, c9, rfl, HSo⟩ := hc
  refine ⟨.slice A8 z5.length c9, rfl, ?_⟩
  have HS7 : Hp S0 w0 w [.rd A_lens_0 (rowC (Eint .i64) l_lens_0), .own A8 c9 (rowC (Eint .i64) z5) 3 (Eint .i64).sz] := (HS0.back [] HSo rfl).sel [0, 1] rfl
  refine F_val rfl rfl rfl (O_assign rfl rfl) ?_
  refine F_nil ?_
  refine L_seq ?_
  refine L_region ?_
  refine F_val rfl rfl rfl (O_move rfl rfl) ?_
  refine F_val rfl rfl rfl (O_move rfl rfl) ?_
  refine F_val rfl rfl rfl (O_len rfl rfl Try.underlying22) ?_
  obtain ⟨⟨g11, g12⟩, H⟩ := of_gd H
  refine F_val rfl rfl rfl (O_toE z5 rfl rfl rfl Try.underlying22 size3 g11 g12 (HS7.own_capE (i := 1) rfl (by decide))) ?_
  refine F_val rfl rfl rfl (O_assign rfl rfl) ?_
  refine F_nil ?_
  refine L_seq ?_
  refine L_region ?_
  refine F_val rfl rfl rfl (O_move rfl rfl) ?_
  obtain ⟨⟨z17, z18⟩, h16, H⟩ := of_bind H
  refine F_call (xs := [.tmp 28]) rfl rfl rfl rfl Try.func25 nm25 rfl rfl ((code_Codes.calls (HS7.give [] rfl (Lent.own HS7 (Lent.nil) (i := 1) rfl rfl (Cells.take (HS7.cells_own (i := 1) rfl) ((l_lens_0.length : Int) : Int).toNat))) (Nat.le_trans (List.length_take_le' _ _) (HS7.own_capE (i := 1) rfl (by decide))) h16).mono (fun e w hc => ?_))
  obtain ⟨A21, c22, rfl, HSo⟩ := hc
  refine ⟨.tuple #[.slice A21 z17.length c22, .int .i64 z18], rfl, ?_⟩
  have HS20 : Hp S0 w0 w [.rd A_lens_0 (rowC (Eint .i64) l_lens_0), .own A8 c9 (rowC (Eint .i64) z5) 3 (Eint .i64).sz, .own A21 c22 (rowC (Eint .i64) z17) 3 (Eint .i64).sz] := (HS7.back [] HSo rfl).sel [0, 1, 2] rfl
  refine F_val rfl rfl rfl (O_move rfl rfl) ?_
  refine F_val rfl rfl rfl (O_extract (v := .slice A21 z17.length c22) rfl rfl rfl) ?_
  refine F_val rfl rfl rfl (O_extract (v := .int .i64 z18) rfl rfl rfl) ?_
  refine F_val rfl rfl rfl (O_assign rfl rfl) ?_
  refine F_val rfl rfl rfl (O_assign rfl rfl) ?_
  refine F_nil ?_
  refine L_seq ?_
  refine L_region ?_
  refine F_val rfl rfl rfl (O_move rfl rfl) ?_
  obtain ⟨⟨z28, z29⟩, h27, H⟩ := of_bind H
  refine F_call (xs := [.tmp 33]) rfl rfl rfl rfl Try.func26 nm26 rfl rfl ((valiseref5_Codes.calls (HS20.give [] rfl (Lent.rd HS20 (Lent.nil) (i := 0) rfl ((HS20.cells_rd (i := 0) rfl).self))) hc_lens_0 h27).mono (fun e w hc => ?_))
  obtain ⟨A32, c33, rfl, HSo⟩ := hc
  refine ⟨.tuple #[.slice A32 z28.length c33, .int .i64 z29], rfl, ?_⟩
  have HS31 : Hp S0 w0 w [.rd A_lens_0 (rowC (Eint .i64) l_lens_0), .own A8 c9 (rowC (Eint .i64) z5) 3 (Eint .i64).sz, .own A21 c22 (rowC (Eint .i64) z17) 3 (Eint .i64).sz, .own A32 c33 (rowC (Eint .i64) z28) 3 (Eint .i64).sz] := (HS20.back [] HSo rfl).sel [0, 1, 2, 3] rfl
  refine F_val rfl rfl rfl (O_move rfl rfl) ?_
  refine F_val rfl rfl rfl (O_extract (v := .slice A32 z28.length c33) rfl rfl rfl) ?_
  refine F_val rfl rfl rfl (O_extract (v := .int .i64 z29) rfl rfl rfl) ?_
  refine F_val rfl rfl rfl (O_assign rfl rfl) ?_
  refine F_val rfl rfl rfl (O_assign rfl rfl) ?_
  refine F_nil ?_
  refine L_seq ?_
  refine L_seq ?_
  refine L_region ?_
  refine F_val rfl rfl rfl (O_move rfl rfl) ?_
  refine F_qcall (v := .int .i64 z18) (xs := [.tmp 37]) rfl rfl rfl rfl Try.func23 nm23 rfl rfl ((valiselaw5_num.calls (HS31.give [] rfl (Lent.nil)) (rfl : valiselaw5_num.f z18 = some z18)).mono (fun e w hc => ?_)) (fun w38 hw39 => ?_)
  · obtain ⟨rfl, h⟩ := hc
    exact ⟨rfl, h.chg0⟩
  have HS40 := HS31.keep hw39
  refine F_val rfl rfl rfl (O_move rfl rfl) ?_
  refine F_val rfl rfl rfl (O_ne rfl rfl rfl) ?_
  refine F_val rfl rfl rfl (O_move rfl rfl) ?_
  obtain ⟨b47, Hb47, H⟩ := of_bind H
  refine F_grpQ 5 [(46, .bool b47), (0, .slice A_lens_0 l_lens_0.length c_lens_0), (3, .slice A8 z5.length c9), (4, .slice A8 (z5.take ((l_lens_0.length : Int) : Int).toNat).length c9), (5, .slice A21 z17.length c22), (7, .slice A32 z28.length c33)] ?_ (fun w48 hw49 => ?_)
  · rcases Decidable.em (z18 ≠ z29) with c51 | c51
    · refine F_know (i := 41) rfl (dec_t c51) ?_
      have H := of_pos Hb47 c51
      refine F_gskip rfl rfl rfl rfl rfl rfl rfl ?_
      refine F_gskip rfl rfl rfl rfl rfl rfl rfl ?_
      refine F_gskip rfl rfl rfl rfl rfl rfl rfl ?_
      refine F_gskip rfl rfl rfl rfl rfl rfl rfl ?_
      refine F_val rfl rfl rfl (O_pickT rfl rfl rfl) ?_
      refine F_know (i := 46) rfl (congrArg Value.bool (Option.some.inj H)) ?_
      exact F_grpQE (Chg.refl NoB _) (fun a ha => Is.cons ha (Is.cons ha (Is.cons ha (Is.cons ha (Is.cons ha (Is.cons ha (Is.nil ha) rfl) rfl) rfl) rfl) rfl) rfl)
    · refine F_know (i := 41) rfl (dec_f c51) ?_
      have H := of_neg Hb47 c51
      refine F_gval rfl rfl rfl rfl rfl rfl (O_move rfl rfl) ?_
      refine F_gval rfl rfl rfl rfl rfl rfl (O_move rfl rfl) ?_
      obtain ⟨z54, h53, H⟩ := of_bind H
      refine F_gqcall (v := .bool z54) (xs := [.tmp 42, .tmp 43]) rfl rfl rfl rfl rfl rfl rfl Try.func15 nm15 rfl rfl ((valiselaw5_same.calls (HS40.give [] rfl (Lent.own HS40 (Lent.own HS40 (Lent.nil) (i := 3) rfl rfl ((HS40.cells_own (i := 3) rfl).self)) (i := 2) rfl rfl ((HS40.cells_own (i := 2) rfl).self))) (HS40.own_capE (i := 2) rfl (by decide)) (HS40.own_capE (i := 3) rfl (by decide)) h53).mono (fun e w hc => ?_)) (fun w55 hw56 => ?_)
      · obtain ⟨rfl, h⟩ := hc
        exact ⟨rfl, h.chg0⟩
      have HS57 := HS40.keep hw56
      refine F_gval rfl rfl rfl rfl rfl rfl (O_notb rfl rfl) ?_
      refine F_val rfl rfl rfl (O_pickF rfl rfl rfl) ?_
      refine F_know (i := 46) rfl (congrArg Value.bool (Option.some.inj H)) ?_
      exact F_grpQE ((Chg.refl NoB _).trans hw56) (fun a ha => Is.cons ha (Is.cons ha (Is.cons ha (Is.cons ha (Is.cons ha (Is.cons ha (Is.nil ha) rfl) rfl) rfl) rfl) rfl) rfl)
  · have HS50 := HS40.keep hw49
    refine F_val rfl rfl rfl (O_move rfl rfl) ?_
    obtain ⟨b64, Hb64, H⟩ := of_bind H
    refine F_grpQ 5 [(52, .bool b64), (0, .slice A_lens_0 l_lens_0.length c_lens_0), (3, .slice A8 z5.length c9), (4, .slice A8 (z5.take ((l_lens_0.length : Int) : Int).toNat).length c9), (5, .slice A21 z17.length c22), (7, .slice A32 z28.length c33)] ?_ (fun w65 hw66 => ?_)
    · rcases Decidable.em (b47 = true) with c68 | c68
      · refine F_know (i := 47) rfl (congrArg Value.bool c68) ?_
        have H := of_pos Hb64 c68
        refine F_gskip rfl rfl rfl rfl rfl rfl rfl ?_
        refine F_gskip rfl rfl rfl rfl rfl rfl rfl ?_
        refine F_gskip rfl rfl rfl rfl rfl rfl rfl ?_
        refine F_gskip rfl rfl rfl rfl rfl rfl rfl ?_
        refine F_val rfl rfl rfl (O_pickT rfl rfl rfl) ?_
        refine F_know (i := 52) rfl (congrArg Value.bool (Option.some.inj H)) ?_
        exact F_grpQE (Chg.refl NoB _) (fun a ha => Is.cons ha (Is.cons ha (Is.cons ha (Is.cons ha (Is.cons ha (Is.cons ha (Is.nil ha) rfl) rfl) rfl) rfl) rfl) rfl)
      · refine F_know (i := 47) rfl (congrArg Value.bool (Bool.eq_false_iff.mpr c68)) ?_
        have H := of_neg Hb64 c68
        refine F_gval rfl rfl rfl rfl rfl rfl (O_move rfl rfl) ?_
        refine F_gval rfl rfl rfl rfl rfl rfl (O_move rfl rfl) ?_
        obtain ⟨z71, h70, H⟩ := of_bind H
        refine F_gqcall (v := .bool z71) (xs := [.tmp 48, .tmp 49]) rfl rfl rfl rfl rfl rfl rfl Try.func24 nm24 rfl rfl ((valiselaw5_whole.calls (HS50.give [] rfl (Lent.own HS50 (Lent.rd HS50 (Lent.nil) (i := 0) rfl ((HS50.cells_rd (i := 0) rfl).self)) (i := 1) rfl rfl ((HS50.cells_own (i := 1) rfl).self))) (HS50.own_capE (i := 1) rfl (by decide)) hc_lens_0 h70).mono (fun e w hc => ?_)) (fun w72 hw73 => ?_)
        · obtain ⟨rfl, h⟩ := hc
          exact ⟨rfl, h.chg0⟩
        have HS74 := HS50.keep hw73
        refine F_gval rfl rfl rfl rfl rfl rfl (O_notb rfl rfl) ?_
        refine F_val rfl rfl rfl (O_pickF rfl rfl rfl) ?_
        refine F_know (i := 52) rfl (congrArg Value.bool (Option.some.inj H)) ?_
        exact F_grpQE ((Chg.refl NoB _).trans hw73) (fun a ha => Is.cons ha (Is.cons ha (Is.cons ha (Is.cons ha (Is.cons ha (Is.cons ha (Is.nil ha) rfl) rfl) rfl) rfl) rfl) rfl)
    · have HS67 := HS50.keep hw66
      refine F_nil ?_
      refine L_cond rfl (fun c75 => ?_) (fun c75 => ?_)
      · have H := of_pos H c75
        refine L_seq ?_
        have HS76 : Hp S0 w0 w65 [.rd A_lens_0 (rowC (Eint .i64) l_lens_0)] := HS67.sel [0] rfl
        refine L_region ?_
        refine F_val rfl rfl rfl (O_assign rfl rfl) ?_
        refine F_nil ?_
        refine L_ret (fun a ha => (post_ret1 ha rfl rfl ?_))
        obtain rfl := Option.some.inj H
        exact ⟨rfl, HS76.sel [] rfl⟩
      · have H := of_neg H (by rw [c75]; exact Bool.false_ne_true)
        refine L_skip ?_
        refine L_seq ?_
        refine L_region ?_
        refine F_val rfl rfl rfl (O_move rfl rfl) ?_
        obtain ⟨⟨z81, z82⟩, h80, H⟩ := of_bind H
        refine F_call (xs := [.tmp 54]) rfl rfl rfl rfl Try.func25 nm25 rfl rfl ((code_Codes.calls (HS67.give [] rfl (Lent.own HS67 (Lent.nil) (i := 1) rfl rfl (Cells.take (HS67.cells_own (i := 1) rfl) ((l_lens_0.length : Int) : Int).toNat))) (Nat.le_trans (List.length_take_le' _ _) (HS67.own_capE (i := 1) rfl (by decide))) h80).mono (fun e w hc => ?_))
        obtain ⟨A85, c86, rfl, HSo⟩ := hc
        refine ⟨.tuple #[.slice A85 z81.length c86, .int .i64 z82], rfl, ?_⟩
        have HS84 : Hp S0 w0 w [.rd A_lens_0 (rowC (Eint .i64) l_lens_0), .own A8 c9 (rowC (Eint .i64) z5) 3 (Eint .i64).sz, .own A21 c22 (rowC (Eint .i64) z17) 3 (Eint .i64).sz, .own A32 c33 (rowC (Eint .i64) z28) 3 (Eint .i64).sz, .own A85 c86 (rowC (Eint .i64) z81) 3 (Eint .i64).sz] := (HS67.back [] HSo rfl).sel [0, 1, 2, 3, 4] rfl
        refine F_val rfl rfl rfl (O_move rfl rfl) ?_
        refine F_val rfl rfl rfl (O_extract (v := .slice A85 z81.length c86) rfl rfl rfl) ?_
        refine F_val rfl rfl rfl (O_extract (v := .int .i64 z82) rfl rfl rfl) ?_
        refine F_val rfl rfl rfl (O_assign rfl rfl) ?_
        refine F_val rfl rfl rfl (O_assign rfl rfl) ?_
        refine F_nil ?_
        refine L_seq ?_
        refine L_region ?_
        refine F_litE (E := (Eint .i64)) (e := 3) [(0, .int .i64 1), (1, .int .i64 2), (2, .int .i64 2)] [1, 2, 2] rfl rfl rfl rfl rfl rfl rfl (by decide) (fun w => by kernel_rfl) HS84 (fun w88 A90 c91 HS89 => ?_)
        have HS89 : Hp S0 w0 w88 [.rd A_lens_0 (rowC (Eint .i64) l_lens_0), .own A8 c9 (rowC (Eint .i64) z5) 3 (Eint .i64).sz, .own A21 c22 (rowC (Eint .i64) z17) 3 (Eint .i64).sz, .own A32 c33 (rowC (Eint .i64) z28) 3 (Eint .i64).sz, .own A85 c86 (rowC (Eint .i64) z81) 3 (Eint .i64).sz, .own A90 c91 (rowC (Eint .i64) [1, 2, 2]) 3 (Eint .i64).sz] := HS89
        obtain ⟨⟨z97, z98⟩, h96, H⟩ := of_bind H
        refine F_call (xs := [.tmp 59]) rfl rfl rfl rfl Try.func25 nm25 rfl rfl ((code_Codes.calls (HS89.give [] rfl (Lent.own HS89 (Lent.nil) (i := 5) rfl rfl ((HS89.cells_own (i := 5) rfl).self))) (HS89.own_capE (i := 5) rfl (by decide)) h96).mono (fun e w hc => ?_))
        obtain ⟨A101, c102, rfl, HSo⟩ := hc
        refine ⟨.tuple #[.slice A101 z97.length c102, .int .i64 z98], rfl, ?_⟩
        have HS100 : Hp S0 w0 w [.rd A_lens_0 (rowC (Eint .i64) l_lens_0), .own A8 c9 (rowC (Eint .i64) z5) 3 (Eint .i64).sz, .own A21 c22 (rowC (Eint .i64) z17) 3 (Eint .i64).sz, .own A32 c33 (rowC (Eint .i64) z28) 3 (Eint .i64).sz, .own A85 c86 (rowC (Eint .i64) z81) 3 (Eint .i64).sz, .own A90 c91 (rowC (Eint .i64) [1, 2, 2]) 3 (Eint .i64).sz, .own A101 c102 (rowC (Eint .i64) z97) 3 (Eint .i64).sz] := (HS89.back [] HSo rfl).sel [0, 1, 2, 3, 4, 5, 6] rfl
        refine F_val rfl rfl rfl (O_move rfl rfl) ?_
        refine F_val rfl rfl rfl (O_extract (v := .slice A101 z97.length c102) rfl rfl rfl) ?_
        refine F_val rfl rfl rfl (O_extract (v := .int .i64 z98) rfl rfl rfl) ?_
        refine F_val rfl rfl rfl (O_assign rfl rfl) ?_
        refine F_val rfl rfl rfl (O_assign rfl rfl) ?_
        refine F_nil ?_
        refine L_seq ?_
        refine L_seq ?_
        refine L_region ?_
        refine F_val rfl rfl rfl (O_move rfl rfl) ?_
        refine F_val rfl rfl rfl (O_move rfl rfl) ?_
        obtain ⟨z106, h105, H⟩ := of_bind H
        refine F_qcall (v := .bool z106) (xs := [.tmp 63, .tmp 64]) rfl rfl rfl rfl Try.func15 nm15 rfl rfl ((valiselaw5_same.calls (HS100.give [] rfl (Lent.own HS100 (Lent.own HS100 (Lent.nil) (i := 3) rfl rfl ((HS100.cells_own (i := 3) rfl).self)) (i := 4) rfl rfl ((HS100.cells_own (i := 4) rfl).self))) (HS100.own_capE (i := 4) rfl (by decide)) (HS100.own_capE (i := 3) rfl (by decide)) h105).mono (fun e w hc => ?_)) (fun w107 hw108 => ?_)
        · obtain ⟨rfl, h⟩ := hc
          exact ⟨rfl, h.chg0⟩
        have HS109 := HS100.keep hw108
        refine F_val rfl rfl rfl (O_notb rfl rfl) ?_
        refine F_val rfl rfl rfl (O_move rfl rfl) ?_
        obtain ⟨b116, Hb116, H⟩ := of_bind H
        refine F_grpQ 5 [(72, .bool b116), (0, .slice A_lens_0 l_lens_0.length c_lens_0), (3, .slice A8 z5.length c9), (4, .slice A8 (z5.take ((l_lens_0.length : Int) : Int).toNat).length c9), (5, .slice A21 z17.length c22), (7, .slice A32 z28.length c33), (9, .slice A85 z81.length c86), (11, .slice A101 z97.length c102)] ?_ (fun w117 hw118 => ?_)
        · rcases Decidable.em ((!z106) = true) with c120 | c120
          · refine F_know (i := 67) rfl (congrArg Value.bool c120) ?_
            have H := of_pos Hb116 c120
            refine F_gskip rfl rfl rfl rfl rfl rfl rfl ?_
            refine F_gskip rfl rfl rfl rfl rfl rfl rfl ?_
            refine F_gskip rfl rfl rfl rfl rfl rfl rfl ?_
            refine F_gskip rfl rfl rfl rfl rfl rfl rfl ?_
            refine F_val rfl rfl rfl (O_pickT rfl rfl rfl) ?_
            refine F_know (i := 72) rfl (congrArg Value.bool (Option.some.inj H)) ?_
            exact F_grpQE (Chg.refl NoB _) (fun a ha => Is.cons ha (Is.cons ha (Is.cons ha (Is.cons ha (Is.cons ha (Is.cons ha (Is.cons ha (Is.cons ha (Is.nil ha) rfl) rfl) rfl) rfl) rfl) rfl) rfl) rfl)
          · refine F_know (i := 67) rfl (congrArg Value.bool (Bool.eq_false_iff.mpr c120)) ?_
            have H := of_neg Hb116 c120
            refine F_gval rfl rfl rfl rfl rfl rfl (O_move rfl rfl) ?_
            refine F_gval rfl rfl rfl rfl rfl rfl (O_move rfl rfl) ?_
            obtain ⟨z123, h122, H⟩ := of_bind H
            refine F_gqcall (v := .bool z123) (xs := [.tmp 68, .tmp 69]) rfl rfl rfl rfl rfl rfl rfl Try.func15 nm15 rfl rfl ((valiselaw5_same.calls (HS109.give [] rfl (Lent.own HS109 (Lent.own HS109 (Lent.nil) (i := 3) rfl rfl ((HS109.cells_own (i := 3) rfl).self)) (i := 2) rfl rfl ((HS109.cells_own (i := 2) rfl).self))) (HS109.own_capE (i := 2) rfl (by decide)) (HS109.own_capE (i := 3) rfl (by decide)) h122).mono (fun e w hc => ?_)) (fun w124 hw125 => ?_)
            · obtain ⟨rfl, h⟩ := hc
              exact ⟨rfl, h.chg0⟩
            have HS126 := HS109.keep hw125
            refine F_gval rfl rfl rfl rfl rfl rfl (O_notb rfl rfl) ?_
            refine F_val rfl rfl rfl (O_pickF rfl rfl rfl) ?_
            refine F_know (i := 72) rfl (congrArg Value.bool (Option.some.inj H)) ?_
            exact F_grpQE ((Chg.refl NoB _).trans hw125) (fun a ha => Is.cons ha (Is.cons ha (Is.cons ha (Is.cons ha (Is.cons ha (Is.cons ha (Is.cons ha (Is.cons ha (Is.nil ha) rfl) rfl) rfl) rfl) rfl) rfl) rfl) rfl)
        · have HS119 := HS109.keep hw118
          refine F_val rfl rfl rfl (O_move rfl rfl) ?_
          rcases Decidable.em (b116 = true) with c127 | c127
          · have H := of_pos H c127
            refine F_know (i := 73) rfl (congrArg Value.bool c127) ?_
            refine F_gskip rfl rfl rfl rfl rfl rfl rfl ?_
            refine F_gskip rfl rfl rfl rfl rfl rfl rfl ?_
            refine F_gskip rfl rfl rfl rfl rfl rfl rfl ?_
            refine F_gskip rfl rfl rfl rfl rfl rfl rfl ?_
            refine F_val rfl rfl rfl (O_pickT rfl rfl rfl) ?_
            refine F_nil ?_
            refine L_cond rfl (fun _ => ?_) (fun hx => by cases hx)
            refine L_seq ?_
            have HS128 : Hp S0 w0 w117 [.rd A_lens_0 (rowC (Eint .i64) l_lens_0)] := HS119.sel [0] rfl
            refine L_region ?_
            refine F_val rfl rfl rfl (O_assign rfl rfl) ?_
            refine F_nil ?_
            refine L_ret (fun a ha => (post_ret1 ha rfl rfl ?_))
            obtain rfl := Option.some.inj H
            exact ⟨rfl, HS128.sel [] rfl⟩
          · have H := of_neg H c127
            refine F_know (i := 73) rfl (congrArg Value.bool (Bool.eq_false_iff.mpr c127)) ?_
            refine F_gval rfl rfl rfl rfl rfl rfl (O_move rfl rfl) ?_
            refine F_ung rfl rfl rfl rfl ?_
            refine F_litE (E := (Eint .i64)) (e := 3) [(0, .int .i64 0), (1, .int .i64 2), (2, .int .i64 3)] [0, 2, 3] rfl rfl rfl rfl rfl rfl rfl (by decide) (fun w => by kernel_rfl) HS119 (fun w129 A131 c132 HS130 => ?_)
            have HS130 : Hp S0 w0 w129 [.rd A_lens_0 (rowC (Eint .i64) l_lens_0), .own A8 c9 (rowC (Eint .i64) z5) 3 (Eint .i64).sz, .own A21 c22 (rowC (Eint .i64) z17) 3 (Eint .i64).sz, .own A32 c33 (rowC (Eint .i64) z28) 3 (Eint .i64).sz, .own A85 c86 (rowC (Eint .i64) z81) 3 (Eint .i64).sz, .own A90 c91 (rowC (Eint .i64) [1, 2, 2]) 3 (Eint .i64).sz, .own A101 c102 (rowC (Eint .i64) z97) 3 (Eint .i64).sz, .own A131 c132 (rowC (Eint .i64) [0, 2, 3]) 3 (Eint .i64).sz] := HS130
            obtain ⟨z136, h135, H⟩ := of_bind H
            refine F_gqcall (v := .bool z136) (xs := [.tmp 74, .tmp 75]) rfl rfl rfl rfl rfl rfl rfl Try.func15 nm15 rfl rfl ((valiselaw5_same.calls (HS130.give [] rfl (Lent.own HS130 (Lent.own HS130 (Lent.nil) (i := 7) rfl rfl ((HS130.cells_own (i := 7) rfl).self)) (i := 6) rfl rfl ((HS130.cells_own (i := 6) rfl).self))) (HS130.own_capE (i := 6) rfl (by decide)) (HS130.own_capE (i := 7) rfl (by decide)) h135).mono (fun e w hc => ?_)) (fun w137 hw138 => ?_)
            · obtain ⟨rfl, h⟩ := hc
              exact ⟨rfl, h.chg0⟩
            have HS139 := HS130.keep hw138
            refine F_gval rfl rfl rfl rfl rfl rfl (O_notb rfl rfl) ?_
            refine F_val rfl rfl rfl (O_pickF rfl rfl rfl) ?_
            refine F_nil ?_
            refine L_cond rfl (fun c140 => ?_) (fun c140 => ?_)
            · have H := of_pos H c140
              refine L_seq ?_
              have HS141 : Hp S0 w0 w137 [.rd A_lens_0 (rowC (Eint .i64) l_lens_0)] := HS139.sel [0] rfl
              refine L_region ?_
              refine F_val rfl rfl rfl (O_assign rfl rfl) ?_
              refine F_nil ?_
              refine L_ret (fun a ha => (post_ret1 ha rfl rfl ?_))
              obtain rfl := Option.some.inj H
              exact ⟨rfl, HS141.sel [] rfl⟩
            · have H := of_neg H (by rw [c140]; exact Bool.false_ne_true)
              refine L_skip ?_
              refine L_seq ?_
              have HS142 : Hp S0 w0 w137 [.rd A_lens_0 (rowC (Eint .i64) l_lens_0), .own A8 c9 (rowC (Eint .i64) z5) 3 (Eint .i64).sz, .own A21 c22 (rowC (Eint .i64) z17) 3 (Eint .i64).sz, .own A32 c33 (rowC (Eint .i64) z28) 3 (Eint .i64).sz, .own A85 c86 (rowC (Eint .i64) z81) 3 (Eint .i64).sz, .own A101 c102 (rowC (Eint .i64) z97) 3 (Eint .i64).sz] := HS139.sel [0, 1, 2, 3, 4, 6] rfl
              refine L_region ?_
              refine F_val rfl rfl rfl (O_move rfl rfl) ?_
              obtain ⟨z147, h146, H⟩ := of_bind H
              refine F_call (xs := [.tmp 79]) rfl rfl rfl rfl Try.func18 nm18 rfl rfl ((valiselaw5_spoil.calls (HS142.give [2] rfl (Lent.nil)) h146).mono (fun e w hc => ?_))
              obtain ⟨rfl, HSo, hl150⟩ := hc
              refine ⟨.tuple #[], rfl, ?_⟩
              have HS149 : Hp S0 w0 w [.rd A_lens_0 (rowC (Eint .i64) l_lens_0), .own A8 c9 (rowC (Eint .i64) z5) 3 (Eint .i64).sz, .own A21 c22 (rowC (Eint .i64) z147) 3 (Eint .i64).sz, .own A32 c33 (rowC (Eint .i64) z28) 3 (Eint .i64).sz, .own A85 c86 (rowC (Eint .i64) z81) 3 (Eint .i64).sz, .own A101 c102 (rowC (Eint .i64) z97) 3 (Eint .i64).sz] := (HS142.back [2] HSo rfl).sel [0, 1, 6, 3, 4, 5] rfl
              have e151 : z17.length = z147.length := hl150.symm
              refine F_know (i := 5) rfl (congrArg (fun n => Value.slice A21 n c22) e151) ?_
              refine F_nil ?_
              refine L_seq ?_
              refine L_region ?_
              refine F_val rfl rfl rfl (O_move rfl rfl) ?_
              obtain ⟨⟨z156, z157⟩, h155, H⟩ := of_bind H
              refine F_call (xs := [.tmp 82]) rfl rfl rfl rfl Try.func25 nm25 rfl rfl ((code_Codes.calls (HS149.give [] rfl (Lent.own HS149 (Lent.nil) (i := 1) rfl rfl (Cells.take (HS149.cells_own (i := 1) rfl) ((l_lens_0.length : Int) : Int).toNat))) (Nat.le_trans (List.length_take_le' _ _) (HS149.own_capE (i := 1) rfl (by decide))) h155).mono (fun e w hc => ?_))
              obtain ⟨A160, c161, rfl, HSo⟩ := hc
              refine ⟨.tuple #[.slice A160 z156.length c161, .int .i64 z157], rfl, ?_⟩
              have HS159 : Hp S0 w0 w [.rd A_lens_0 (rowC (Eint .i64) l_lens_0), .own A8 c9 (rowC (Eint .i64) z5) 3 (Eint .i64).sz, .own A21 c22 (rowC (Eint .i64) z147) 3 (Eint .i64).sz, .own A32 c33 (rowC (Eint .i64) z28) 3 (Eint .i64).sz, .own A85 c86 (rowC (Eint .i64) z81) 3 (Eint .i64).sz, .own A101 c102 (rowC (Eint .i64) z97) 3 (Eint .i64).sz, .own A160 c161 (rowC (Eint .i64) z156) 3 (Eint .i64).sz] := (HS149.back [] HSo rfl).sel [0, 1, 2, 3, 4, 5, 6] rfl
              refine F_val rfl rfl rfl (O_move rfl rfl) ?_
              refine F_val rfl rfl rfl (O_extract (v := .slice A160 z156.length c161) rfl rfl rfl) ?_
              refine F_val rfl rfl rfl (O_extract (v := .int .i64 z157) rfl rfl rfl) ?_
              refine F_val rfl rfl rfl (O_assign rfl rfl) ?_
              refine F_val rfl rfl rfl (O_assign rfl rfl) ?_
              refine F_nil ?_
              refine L_seq ?_
              refine L_seq ?_
              refine L_region ?_
              refine F_val rfl rfl rfl (O_move rfl rfl) ?_
              refine F_val rfl rfl rfl (O_move rfl rfl) ?_
              obtain ⟨z165, h164, H⟩ := of_bind H
              refine F_qcall (v := .bool z165) (xs := [.tmp 86, .tmp 87]) rfl rfl rfl rfl Try.func15 nm15 rfl rfl ((valiselaw5_same.calls (HS159.give [] rfl (Lent.own HS159 (Lent.own HS159 (Lent.nil) (i := 3) rfl rfl ((HS159.cells_own (i := 3) rfl).self)) (i := 4) rfl rfl ((HS159.cells_own (i := 4) rfl).self))) (HS159.own_capE (i := 4) rfl (by decide)) (HS159.own_capE (i := 3) rfl (by decide)) h164).mono (fun e w hc => ?_)) (fun w166 hw167 => ?_)
              · obtain ⟨rfl, h⟩ := hc
                exact ⟨rfl, h.chg0⟩
              have HS168 := HS159.keep hw167
              refine F_val rfl rfl rfl (O_notb rfl rfl) ?_
              refine F_val rfl rfl rfl (O_move rfl rfl) ?_
              obtain ⟨b175, Hb175, H⟩ := of_bind H
              refine F_grpQ 5 [(95, .bool b175), (0, .slice A_lens_0 l_lens_0.length c_lens_0), (3, .slice A8 z5.length c9), (4, .slice A8 (z5.take ((l_lens_0.length : Int) : Int).toNat).length c9), (5, .slice A21 z147.length c22), (7, .slice A32 z28.length c33), (9, .slice A85 z81.length c86), (11, .slice A101 z97.length c102), (13, .slice A160 z156.length c161)] ?_ (fun w176 hw177 => ?_)
              · rcases Decidable.em ((!z165) = true) with c179 | c179
                · refine F_know (i := 90) rfl (congrArg Value.bool c179) ?_
                  have H := of_pos Hb175 c179
                  refine F_gskip rfl rfl rfl rfl rfl rfl rfl ?_
                  refine F_gskip rfl rfl rfl rfl rfl rfl rfl ?_
                  refine F_gskip rfl rfl rfl rfl rfl rfl rfl ?_
                  refine F_gskip rfl rfl rfl rfl rfl rfl rfl ?_
                  refine F_val rfl rfl rfl (O_pickT rfl rfl rfl) ?_
                  refine F_know (i := 95) rfl (congrArg Value.bool (Option.some.inj H)) ?_
                  exact F_grpQE (Chg.refl NoB _) (fun a ha => Is.cons ha (Is.cons ha (Is.cons ha (Is.cons ha (Is.cons ha (Is.cons ha (Is.cons ha (Is.cons ha (Is.cons ha (Is.nil ha) rfl) rfl) rfl) rfl) rfl) rfl) rfl) rfl) rfl)
                · refine F_know (i := 90) rfl (congrArg Value.bool (Bool.eq_false_iff.mpr c179)) ?_
                  have H := of_neg Hb175 c179
                  refine F_gval rfl rfl rfl rfl rfl rfl (O_move rfl rfl) ?_
                  refine F_gval rfl rfl rfl rfl rfl rfl (O_move rfl rfl) ?_
                  obtain ⟨z182, h181, H⟩ := of_bind H
                  refine F_gqcall (v := .bool z182) (xs := [.tmp 91, .tmp 92]) rfl rfl rfl rfl rfl rfl rfl Try.func15 nm15 rfl rfl ((valiselaw5_same.calls (HS168.give [] rfl (Lent.own HS168 (Lent.own HS168 (Lent.nil) (i := 3) rfl rfl ((HS168.cells_own (i := 3) rfl).self)) (i := 6) rfl rfl ((HS168.cells_own (i := 6) rfl).self))) (HS168.own_capE (i := 6) rfl (by decide)) (HS168.own_capE (i := 3) rfl (by decide)) h181).mono (fun e w hc => ?_)) (fun w183 hw184 => ?_)
                  · obtain ⟨rfl, h⟩ := hc
                    exact ⟨rfl, h.chg0⟩
                  have HS185 := HS168.keep hw184
                  refine F_gval rfl rfl rfl rfl rfl rfl (O_notb rfl rfl) ?_
                  refine F_val rfl rfl rfl (O_pickF rfl rfl rfl) ?_
                  refine F_know (i := 95) rfl (congrArg Value.bool (Option.some.inj H)) ?_
                  exact F_grpQE ((Chg.refl NoB _).trans hw184) (fun a ha => Is.cons ha (Is.cons ha (Is.cons ha (Is.cons ha (Is.cons ha (Is.cons ha (Is.cons ha (Is.cons ha (Is.cons ha (Is.nil ha) rfl) rfl) rfl) rfl) rfl) rfl) rfl) rfl) rfl)
              · have HS178 := HS168.keep hw177
                refine F_val rfl rfl rfl (O_move rfl rfl) ?_
                rcases Decidable.em (b175 = true) with c186 | c186
                · have H := of_pos H c186
                  refine F_know (i := 96) rfl (congrArg Value.bool c186) ?_
                  refine F_gskip rfl rfl rfl rfl rfl rfl rfl ?_
                  refine F_gskip rfl rfl rfl rfl rfl rfl rfl ?_
                  refine F_gskip rfl rfl rfl rfl rfl rfl rfl ?_
                  refine F_gskip rfl rfl rfl rfl rfl rfl rfl ?_
                  refine F_val rfl rfl rfl (O_pickT rfl rfl rfl) ?_
                  refine F_val rfl rfl rfl (O_move rfl rfl) ?_
                  refine F_gskip rfl rfl rfl rfl rfl rfl rfl ?_
                  refine F_gskip rfl rfl rfl rfl rfl rfl rfl ?_
                  refine F_gskip rfl rfl rfl rfl rfl rfl rfl ?_
                  refine F_gskip rfl rfl rfl rfl rfl rfl rfl ?_
                  refine F_val rfl rfl rfl (O_pickT rfl rfl rfl) ?_
                  refine F_nil ?_
                  refine L_cond rfl (fun _ => ?_) (fun hx => by cases hx)
                  refine L_seq ?_
                  have HS187 : Hp S0 w0 w176 [.rd A_lens_0 (rowC (Eint .i64) l_lens_0)] := HS178.sel [0] rfl
                  refine L_region ?_
                  refine F_val rfl rfl rfl (O_assign rfl rfl) ?_
                  refine F_nil ?_
                  refine L_ret (fun a ha => (post_ret1 ha rfl rfl ?_))
                  obtain rfl := Option.some.inj H
                  exact ⟨rfl, HS187.sel [] rfl⟩
                · have H := of_neg H c186
                  refine F_know (i := 96) rfl (congrArg Value.bool (Bool.eq_false_iff.mpr c186)) ?_
                  refine F_gval rfl rfl rfl rfl rfl rfl (O_move rfl rfl) ?_
                  refine F_ung rfl rfl rfl rfl ?_
                  refine F_litE (E := (Eint .i64)) (e := 3) [(0, .int .i64 0), (1, .int .i64 2), (2, .int .i64 3)] [0, 2, 3] rfl rfl rfl rfl rfl rfl rfl (by decide) (fun w => by kernel_rfl) HS178 (fun w188 A190 c191 HS189 => ?_)
                  have HS189 : Hp S0 w0 w188 [.rd A_lens_0 (rowC (Eint .i64) l_lens_0), .own A8 c9 (rowC (Eint .i64) z5) 3 (Eint .i64).sz, .own A21 c22 (rowC (Eint .i64) z147) 3 (Eint .i64).sz, .own A32 c33 (rowC (Eint .i64) z28) 3 (Eint .i64).sz, .own A85 c86 (rowC (Eint .i64) z81) 3 (Eint .i64).sz, .own A101 c102 (rowC (Eint .i64) z97) 3 (Eint .i64).sz, .own A160 c161 (rowC (Eint .i64) z156) 3 (Eint .i64).sz, .own A190 c191 (rowC (Eint .i64) [0, 2, 3]) 3 (Eint .i64).sz] := HS189
                  obtain ⟨z195, h194, H⟩ := of_bind H
                  refine F_gqcall (v := .bool z195) (xs := [.tmp 97, .tmp 98]) rfl rfl rfl rfl rfl rfl rfl Try.func15 nm15 rfl rfl ((valiselaw5_same.calls (HS189.give [] rfl (Lent.own HS189 (Lent.own HS189 (Lent.nil) (i := 7) rfl rfl ((HS189.cells_own (i := 7) rfl).self)) (i := 5) rfl rfl ((HS189.cells_own (i := 5) rfl).self))) (HS189.own_capE (i := 5) rfl (by decide)) (HS189.own_capE (i := 7) rfl (by decide)) h194).mono (fun e w hc => ?_)) (fun w196 hw197 => ?_)
                  · obtain ⟨rfl, h⟩ := hc
                    exact ⟨rfl, h.chg0⟩
                  have HS198 := HS189.keep hw197
                  refine F_gval rfl rfl rfl rfl rfl rfl (O_notb rfl rfl) ?_
                  refine F_val rfl rfl rfl (O_pickF rfl rfl rfl) ?_
                  refine F_val rfl rfl rfl (O_move rfl rfl) ?_
                  obtain ⟨b205, Hb205, H⟩ := of_bind H
                  refine F_grpQ 5 [(107, .bool b205), (0, .slice A_lens_0 l_lens_0.length c_lens_0), (3, .slice A8 z5.length c9), (4, .slice A8 (z5.take ((l_lens_0.length : Int) : Int).toNat).length c9), (5, .slice A21 z147.length c22), (7, .slice A32 z28.length c33), (9, .slice A85 z81.length c86), (11, .slice A101 z97.length c102), (13, .slice A160 z156.length c161)] ?_ (fun w206 hw207 => ?_)
                  · rcases Decidable.em ((!z195) = true) with c209 | c209
                    · refine F_know (i := 102) rfl (congrArg Value.bool c209) ?_
                      have H := of_pos Hb205 c209
                      refine F_gskip rfl rfl rfl rfl rfl rfl rfl ?_
                      refine F_gskip rfl rfl rfl rfl rfl rfl rfl ?_
                      refine F_gskip rfl rfl rfl rfl rfl rfl rfl ?_
                      refine F_gskip rfl rfl rfl rfl rfl rfl rfl ?_
                      refine F_val rfl rfl rfl (O_pickT rfl rfl rfl) ?_
                      refine F_know (i := 107) rfl (congrArg Value.bool (Option.some.inj H)) ?_
                      exact F_grpQE (Chg.refl NoB _) (fun a ha => Is.cons ha (Is.cons ha (Is.cons ha (Is.cons ha (Is.cons ha (Is.cons ha (Is.cons ha (Is.cons ha (Is.cons ha (Is.nil ha) rfl) rfl) rfl) rfl) rfl) rfl) rfl) rfl) rfl)
                    · refine F_know (i := 102) rfl (congrArg Value.bool (Bool.eq_false_iff.mpr c209)) ?_
                      have H := of_neg Hb205 c209
                      refine F_gval rfl rfl rfl rfl rfl rfl (O_move rfl rfl) ?_
                      refine F_gval rfl rfl rfl rfl rfl rfl (O_move rfl rfl) ?_
                      obtain ⟨z212, h211, H⟩ := of_bind H
                      refine F_gqcall (v := .bool z212) (xs := [.tmp 103, .tmp 104]) rfl rfl rfl rfl rfl rfl rfl Try.func24 nm24 rfl rfl ((valiselaw5_whole.calls (HS198.give [] rfl (Lent.own HS198 (Lent.rd HS198 (Lent.nil) (i := 0) rfl ((HS198.cells_rd (i := 0) rfl).self)) (i := 1) rfl rfl ((HS198.cells_own (i := 1) rfl).self))) (HS198.own_capE (i := 1) rfl (by decide)) hc_lens_0 h211).mono (fun e w hc => ?_)) (fun w213 hw214 => ?_)
                      · obtain ⟨rfl, h⟩ := hc
                        exact ⟨rfl, h.chg0⟩
                      have HS215 := HS198.keep hw214
                      refine F_gval rfl rfl rfl rfl rfl rfl (O_notb rfl rfl) ?_
                      refine F_val rfl rfl rfl (O_pickF rfl rfl rfl) ?_
                      refine F_know (i := 107) rfl (congrArg Value.bool (Option.some.inj H)) ?_
                      exact F_grpQE ((Chg.refl NoB _).trans hw214) (fun a ha => Is.cons ha (Is.cons ha (Is.cons ha (Is.cons ha (Is.cons ha (Is.cons ha (Is.cons ha (Is.cons ha (Is.cons ha (Is.nil ha) rfl) rfl) rfl) rfl) rfl) rfl) rfl) rfl) rfl)
                  · have HS208 := HS198.keep hw207
                    refine F_nil ?_
                    refine L_cond rfl (fun c216 => ?_) (fun c216 => ?_)
                    · have H := of_pos H c216
                      refine L_seq ?_
                      have HS217 : Hp S0 w0 w206 [.rd A_lens_0 (rowC (Eint .i64) l_lens_0)] := HS208.sel [0] rfl
                      refine L_region ?_
                      refine F_val rfl rfl rfl (O_assign rfl rfl) ?_
                      refine F_nil ?_
                      refine L_ret (fun a ha => (post_ret1 ha rfl rfl ?_))
                      obtain rfl := Option.some.inj H
                      exact ⟨rfl, HS217.sel [] rfl⟩
                    · have H := of_neg H (by rw [c216]; exact Bool.false_ne_true)
                      refine L_skip ?_
                      refine L_seq ?_
                      refine L_region ?_
                      refine F_val rfl rfl rfl (O_move rfl rfl) ?_
                      obtain ⟨z222, h221, H⟩ := of_bind H
                      refine F_call (xs := [.tmp 108]) rfl rfl rfl rfl Try.func27 nm27 rfl rfl ((valiselaw5_backward.calls (HS208.give [] rfl (Lent.rd HS208 (Lent.nil) (i := 0) rfl ((HS208.cells_rd (i := 0) rfl).self))) hc_lens_0 h221).mono (fun e w hc => ?_))
                      obtain ⟨A225, c226, rfl, HSo⟩ := hc
                      refine ⟨.slice A225 z222.length c226, rfl, ?_⟩
                      have HS224 : Hp S0 w0 w [.rd A_lens_0 (rowC (Eint .i64) l_lens_0), .own A8 c9 (rowC (Eint .i64) z5) 3 (Eint .i64).sz, .own A21 c22 (rowC (Eint .i64) z147) 3 (Eint .i64).sz, .own A32 c33 (rowC (Eint .i64) z28) 3 (Eint .i64).sz, .own A85 c86 (rowC (Eint .i64) z81) 3 (Eint .i64).sz, .own A101 c102 (rowC (Eint .i64) z97) 3 (Eint .i64).sz, .own A160 c161 (rowC (Eint .i64) z156) 3 (Eint .i64).sz, .own A190 c191 (rowC (Eint .i64) [0, 2, 3]) 3 (Eint .i64).sz, .own A225 c226 (rowC (Eint .i64) z222) 3 (Eint .i64).sz] := (HS208.back [] HSo rfl).sel [0, 1, 2, 3, 4, 5, 6, 7, 8] rfl
                      refine F_val rfl rfl rfl (O_assign rfl rfl) ?_
                      refine F_nil ?_
                      refine L_seq ?_
                      refine L_region ?_
                      refine F_val rfl rfl rfl (O_move rfl rfl) ?_
                      refine F_val rfl rfl rfl (O_move rfl rfl) ?_
                      obtain ⟨l230, h231, H⟩ := of_bnd H
                      refine F_copyV (E := (Eint .i64)) (xs := z5) (ys := z222) (i := 1) rfl rfl rfl rfl Try.underlying22 size3 rfl rfl HS224 rfl (HS224.cells_own (i := 8) rfl) h231 (fun w228 HS229 => ?_)
                      have e232 : z5.length = l230.length := by rw [← h231, cpyV_length]
                      refine F_know (i := 3) rfl (congrArg (fun n => Value.slice A8 n c9) e232) ?_
                      refine F_know (i := 4) rfl (congrArg (fun n => Value.slice A8 n c9) (take_len e232 ((l_lens_0.length : Int) : Int).toNat)) ?_
                      have HS229 : Hp S0 w0 w228 [.rd A_lens_0 (rowC (Eint .i64) l_lens_0), .own A8 c9 (rowC (Eint .i64) l230) 3 (Eint .i64).sz, .own A21 c22 (rowC (Eint .i64) z147) 3 (Eint .i64).sz, .own A32 c33 (rowC (Eint .i64) z28) 3 (Eint .i64).sz, .own A85 c86 (rowC (Eint .i64) z81) 3 (Eint .i64).sz, .own A101 c102 (rowC (Eint .i64) z97) 3 (Eint .i64).sz, .own A160 c161 (rowC (Eint .i64) z156) 3 (Eint .i64).sz, .own A190 c191 (rowC (Eint .i64) [0, 2, 3]) 3 (Eint .i64).sz, .own A225 c226 (rowC (Eint .i64) z222) 3 (Eint .i64).sz] := HS229
                      refine F_nil ?_
                      refine L_seq ?_
                      refine L_region ?_
                      refine F_val rfl rfl rfl (O_move rfl rfl) ?_
                      obtain ⟨⟨z237, z238⟩, h236, H⟩ := of_bind H
                      refine F_call (xs := [.tmp 114]) rfl rfl rfl rfl Try.func25 nm25 rfl rfl ((code_Codes.calls (HS229.give [] rfl (Lent.own HS229 (Lent.nil) (i := 1) rfl rfl (Cells.take (HS229.cells_own (i := 1) rfl) ((l_lens_0.length : Int) : Int).toNat))) (Nat.le_trans (List.length_take_le' _ _) (HS229.own_capE (i := 1) rfl (by decide))) h236).mono (fun e w hc => ?_))
                      obtain ⟨A241, c242, rfl, HSo⟩ := hc
                      refine ⟨.tuple #[.slice A241 z237.length c242, .int .i64 z238], rfl, ?_⟩
                      have HS240 : Hp S0 w0 w [.rd A_lens_0 (rowC (Eint .i64) l_lens_0), .own A8 c9 (rowC (Eint .i64) l230) 3 (Eint .i64).sz, .own A21 c22 (rowC (Eint .i64) z147) 3 (Eint .i64).sz, .own A32 c33 (rowC (Eint .i64) z28) 3 (Eint .i64).sz, .own A85 c86 (rowC (Eint .i64) z81) 3 (Eint .i64).sz, .own A101 c102 (rowC (Eint .i64) z97) 3 (Eint .i64).sz, .own A160 c161 (rowC (Eint .i64) z156) 3 (Eint .i64).sz, .own A190 c191 (rowC (Eint .i64) [0, 2, 3]) 3 (Eint .i64).sz, .own A225 c226 (rowC (Eint .i64) z222) 3 (Eint .i64).sz, .own A241 c242 (rowC (Eint .i64) z237) 3 (Eint .i64).sz] := (HS229.back [] HSo rfl).sel [0, 1, 2, 3, 4, 5, 6, 7, 8, 9] rfl
                      refine F_val rfl rfl rfl (O_move rfl rfl) ?_
                      refine F_val rfl rfl rfl (O_extract (v := .slice A241 z237.length c242) rfl rfl rfl) ?_
                      refine F_val rfl rfl rfl (O_extract (v := .int .i64 z238) rfl rfl rfl) ?_
                      refine F_val rfl rfl rfl (O_assign rfl rfl) ?_
                      refine F_val rfl rfl rfl (O_assign rfl rfl) ?_
                      refine F_nil ?_
                      refine L_seq ?_
                      refine L_region ?_
                      refine F_val rfl rfl rfl (O_move rfl rfl) ?_
                      obtain ⟨⟨z248, z249⟩, h247, H⟩ := of_bind H
                      refine F_call (xs := [.tmp 119]) rfl rfl rfl rfl Try.func26 nm26 rfl rfl ((valiseref5_Codes.calls (HS240.give [] rfl (Lent.own HS240 (Lent.nil) (i := 8) rfl rfl ((HS240.cells_own (i := 8) rfl).self))) (HS240.own_capE (i := 8) rfl (by decide)) h247).mono (fun e w hc => ?_))
                      obtain ⟨A252, c253, rfl, HSo⟩ := hc
                      refine ⟨.tuple #[.slice A252 z248.length c253, .int .i64 z249], rfl, ?_⟩
                      have HS251 : Hp S0 w0 w [.rd A_lens_0 (rowC (Eint .i64) l_lens_0), .own A8 c9 (rowC (Eint .i64) l230) 3 (Eint .i64).sz, .own A21 c22 (rowC (Eint .i64) z147) 3 (Eint .i64).sz, .own A32 c33 (rowC (Eint .i64) z28) 3 (Eint .i64).sz, .own A85 c86 (rowC (Eint .i64) z81) 3 (Eint .i64).sz, .own A101 c102 (rowC (Eint .i64) z97) 3 (Eint .i64).sz, .own A160 c161 (rowC (Eint .i64) z156) 3 (Eint .i64).sz, .own A190 c191 (rowC (Eint .i64) [0, 2, 3]) 3 (Eint .i64).sz, .own A225 c226 (rowC (Eint .i64) z222) 3 (Eint .i64).sz, .own A241 c242 (rowC (Eint .i64) z237) 3 (Eint .i64).sz, .own A252 c253 (rowC (Eint .i64) z248) 3 (Eint .i64).sz] := (HS240.back [] HSo rfl).sel [0, 1, 2, 3, 4, 5, 6, 7, 8, 9, 10] rfl
                      refine F_val rfl rfl rfl (O_move rfl rfl) ?_
                      refine F_val rfl rfl rfl (O_extract (v := .slice A252 z248.length c253) rfl rfl rfl) ?_
                      refine F_val rfl rfl rfl (O_extract (v := .int .i64 z249) rfl rfl rfl) ?_
                      refine F_val rfl rfl rfl (O_assign rfl rfl) ?_
                      refine F_val rfl rfl rfl (O_assign rfl rfl) ?_
                      refine F_nil ?_
                      refine L_seq ?_
                      refine L_region ?_
                      refine F_val rfl rfl rfl (O_move rfl rfl) ?_
                      refine F_val rfl rfl rfl (O_move rfl rfl) ?_
                      obtain ⟨z257, h256, H⟩ := of_bind H
                      refine F_qcall (v := .bool z257) (xs := [.tmp 123, .tmp 124]) rfl rfl rfl rfl Try.func15 nm15 rfl rfl ((valiselaw5_same.calls (HS251.give [] rfl (Lent.own HS251 (Lent.own HS251 (Lent.nil) (i := 10) rfl rfl ((HS251.cells_own (i := 10) rfl).self)) (i := 9) rfl rfl ((HS251.cells_own (i := 9) rfl).self))) (HS251.own_capE (i := 9) rfl (by decide)) (HS251.own_capE (i := 10) rfl (by decide)) h256).mono (fun e w hc => ?_)) (fun w258 hw259 => ?_)
                      · obtain ⟨rfl, h⟩ := hc
                        exact ⟨rfl, h.chg0⟩
                      have HS260 := HS251.keep hw259
                      refine F_val rfl rfl rfl (O_move rfl rfl) ?_
                      refine F_grpQ 5 [(131, .bool (decide ((z257 = true) ∧ (z238 = z249)))), (3, .slice A8 l230.length c9), (5, .slice A21 z147.length c22), (7, .slice A32 z28.length c33), (9, .slice A85 z81.length c86), (11, .slice A101 z97.length c102), (13, .slice A160 z156.length c161), (15, .slice A225 z222.length c226), (16, .slice A241 z237.length c242)] ?_ (fun w267 hw268 => ?_)
                      · rcases Decidable.em (z257 = true) with c270 | c270
                        · refine F_know (i := 126) rfl (congrArg Value.bool c270) ?_
                          refine F_gval rfl rfl rfl rfl rfl rfl (O_move rfl rfl) ?_
                          refine F_gqcall (v := .int .i64 z238) (xs := [.tmp 127]) rfl rfl rfl rfl rfl rfl rfl Try.func23 nm23 rfl rfl ((valiselaw5_num.calls (HS260.give [] rfl (Lent.nil)) (rfl : valiselaw5_num.f z238 = some z238)).mono (fun e w hc => ?_)) (fun w274 hw275 => ?_)
                          · obtain ⟨rfl, h⟩ := hc
                            exact ⟨rfl, h.chg0⟩
                          have HS276 := HS260.keep hw275
                          refine F_gval rfl rfl rfl rfl rfl rfl (O_move rfl rfl) ?_
                          refine F_gval rfl rfl rfl rfl rfl rfl (O_eq rfl rfl rfl) ?_
                          refine F_val rfl rfl rfl (O_pickT rfl rfl rfl) ?_
                          refine F_know (i := 131) rfl (dec_and_t (q := z238 = z249) c270) ?_
                          exact F_grpQE ((Chg.refl NoB _).trans hw275) (fun a ha => Is.cons ha (Is.cons ha (Is.cons ha (Is.cons ha (Is.cons ha (Is.cons ha (Is.cons ha (Is.cons ha (Is.cons ha (Is.nil ha) rfl) rfl) rfl) rfl) rfl) rfl) rfl) rfl) rfl)
                        · refine F_know (i := 126) rfl (congrArg Value.bool (Bool.eq_false_iff.mpr c270)) ?_
                          refine F_gskip rfl rfl rfl rfl rfl rfl rfl ?_
                          refine F_gskip rfl rfl rfl rfl rfl rfl rfl ?_
                          refine F_gskip rfl rfl rfl rfl rfl rfl rfl ?_
                          refine F_gskip rfl rfl rfl rfl rfl rfl rfl ?_
                          refine F_val rfl rfl rfl (O_pickF rfl rfl rfl) ?_
                          refine F_know (i := 131) rfl (dec_and_f (q := z238 = z249) c270) ?_
                          exact F_grpQE (Chg.refl NoB _) (fun a ha => Is.cons ha (Is.cons ha (Is.cons ha (Is.cons ha (Is.cons ha (Is.cons ha (Is.cons ha (Is.cons ha (Is.cons ha (Is.nil ha) rfl) rfl) rfl) rfl) rfl) rfl) rfl) rfl) rfl)
                      · have HS269 := HS260.keep hw268
                        refine F_val rfl rfl rfl (O_move rfl rfl) ?_
                        obtain ⟨b283, Hb283, H⟩ := of_bind H
                        refine F_grpQ 4 [(136, .bool b283), (3, .slice A8 l230.length c9), (5, .slice A21 z147.length c22), (9, .slice A85 z81.length c86), (11, .slice A101 z97.length c102), (13, .slice A160 z156.length c161), (15, .slice A225 z222.length c226), (16, .slice A241 z237.length c242)] ?_ (fun w284 hw285 => ?_)
                        · rcases Decidable.em ((z257 = true) ∧ (z238 = z249)) with c287 | c287
                          · refine F_know (i := 132) rfl (dec_t c287) ?_
                            have H := of_pos Hb283 c287
                            refine F_gval rfl rfl rfl rfl rfl rfl (O_move rfl rfl) ?_
                            refine F_gval rfl rfl rfl rfl rfl rfl (O_move rfl rfl) ?_
                            obtain ⟨z290, h289, H⟩ := of_bind H
                            refine F_gqcall (v := .bool z290) (xs := [.tmp 133, .tmp 134]) rfl rfl rfl rfl rfl rfl rfl Try.func15 nm15 rfl rfl ((valiselaw5_same.calls (HS269.give [] rfl (Lent.own HS269 (Lent.own HS269 (Lent.nil) (i := 3) rfl rfl ((HS269.cells_own (i := 3) rfl).self)) (i := 4) rfl rfl ((HS269.cells_own (i := 4) rfl).self))) (HS269.own_capE (i := 4) rfl (by decide)) (HS269.own_capE (i := 3) rfl (by decide)) h289).mono (fun e w hc => ?_)) (fun w291 hw292 => ?_)
                            · obtain ⟨rfl, h⟩ := hc
                              exact ⟨rfl, h.chg0⟩
                            have HS293 := HS269.keep hw292
                            refine F_val rfl rfl rfl (O_pickT rfl rfl rfl) ?_
                            refine F_know (i := 136) rfl (congrArg Value.bool (Option.some.inj H)) ?_
                            exact F_grpQE ((Chg.refl NoB _).trans hw292) (fun a ha => Is.cons ha (Is.cons ha (Is.cons ha (Is.cons ha (Is.cons ha (Is.cons ha (Is.cons ha (Is.cons ha (Is.nil ha) rfl) rfl) rfl) rfl) rfl) rfl) rfl) rfl)
                          · refine F_know (i := 132) rfl (dec_f c287) ?_
                            have H := of_neg Hb283 c287
                            refine F_gskip rfl rfl rfl rfl rfl rfl rfl ?_
                            refine F_gskip rfl rfl rfl rfl rfl rfl rfl ?_
                            refine F_gskip rfl rfl rfl rfl rfl rfl rfl ?_
                            refine F_val rfl rfl rfl (O_pickF rfl rfl rfl) ?_
                            refine F_know (i := 136) rfl (congrArg Value.bool (Option.some.inj H)) ?_
                            exact F_grpQE (Chg.refl NoB _) (fun a ha => Is.cons ha (Is.cons ha (Is.cons ha (Is.cons ha (Is.cons ha (Is.cons ha (Is.cons ha (Is.cons ha (Is.nil ha) rfl) rfl) rfl) rfl) rfl) rfl) rfl) rfl)
                        · have HS286 := HS269.keep hw285
                          refine F_val rfl rfl rfl (O_move rfl rfl) ?_
                          obtain ⟨b300, Hb300, H⟩ := of_bind H
                          refine F_grpQ 4 [(141, .bool b300), (5, .slice A21 z147.length c22), (9, .slice A85 z81.length c86), (11, .slice A101 z97.length c102), (13, .slice A160 z156.length c161), (16, .slice A241 z237.length c242)] ?_ (fun w301 hw302 => ?_)
                          · rcases Decidable.em (b283 = true) with c304 | c304
                            · refine F_know (i := 137) rfl (congrArg Value.bool c304) ?_
                              have H := of_pos Hb300 c304
                              refine F_gval rfl rfl rfl rfl rfl rfl (O_move rfl rfl) ?_
                              refine F_gval rfl rfl rfl rfl rfl rfl (O_move rfl rfl) ?_
                              obtain ⟨z307, h306, H⟩ := of_bind H
                              refine F_gqcall (v := .bool z307) (xs := [.tmp 138, .tmp 139]) rfl rfl rfl rfl rfl rfl rfl Try.func24 nm24 rfl rfl ((valiselaw5_whole.calls (HS286.give [] rfl (Lent.own HS286 (Lent.own HS286 (Lent.nil) (i := 8) rfl rfl ((HS286.cells_own (i := 8) rfl).self)) (i := 1) rfl rfl ((HS286.cells_own (i := 1) rfl).self))) (HS286.own_capE (i := 1) rfl (by decide)) (HS286.own_capE (i := 8) rfl (by decide)) h306).mono (fun e w hc => ?_)) (fun w308 hw309 => ?_)
                              · obtain ⟨rfl, h⟩ := hc
                                exact ⟨rfl, h.chg0⟩
                              have HS310 := HS286.keep hw309
                              refine F_val rfl rfl rfl (O_pickT rfl rfl rfl) ?_
                              refine F_know (i := 141) rfl (congrArg Value.bool (Option.some.inj H)) ?_
                              exact F_grpQE ((Chg.refl NoB _).trans hw309) (fun a ha => Is.cons ha (Is.cons ha (Is.cons ha (Is.cons ha (Is.cons ha (Is.cons ha (Is.nil ha) rfl) rfl) rfl) rfl) rfl) rfl)
                            · refine F_know (i := 137) rfl (congrArg Value.bool (Bool.eq_false_iff.mpr c304)) ?_
                              have H := of_neg Hb300 c304
                              refine F_gskip rfl rfl rfl rfl rfl rfl rfl ?_
                              refine F_gskip rfl rfl rfl rfl rfl rfl rfl ?_
                              refine F_gskip rfl rfl rfl rfl rfl rfl rfl ?_
                              refine F_val rfl rfl rfl (O_pickF rfl rfl rfl) ?_
                              refine F_know (i := 141) rfl (congrArg Value.bool (Option.some.inj H)) ?_
                              exact F_grpQE (Chg.refl NoB _) (fun a ha => Is.cons ha (Is.cons ha (Is.cons ha (Is.cons ha (Is.cons ha (Is.cons ha (Is.nil ha) rfl) rfl) rfl) rfl) rfl) rfl)
                          · have HS303 := HS286.keep hw302
                            refine F_val rfl rfl rfl (O_assign rfl rfl) ?_
                            refine F_nil ?_
                            refine L_seq ?_
                            have HS311 : Hp S0 w0 w301 [.rd A_lens_0 (rowC (Eint .i64) l_lens_0), .own A21 c22 (rowC (Eint .i64) z147) 3 (Eint .i64).sz, .own A85 c86 (rowC (Eint .i64) z81) 3 (Eint .i64).sz, .own A101 c102 (rowC (Eint .i64) z97) 3 (Eint .i64).sz, .own A160 c161 (rowC (Eint .i64) z156) 3 (Eint .i64).sz, .own A241 c242 (rowC (Eint .i64) z237) 3 (Eint .i64).sz] := HS303.sel [0, 2, 4, 5, 6, 9] rfl
                            refine L_region ?_
                            refine F_val rfl rfl rfl (O_move rfl rfl) ?_
                            refine F_val rfl rfl rfl (O_move rfl rfl) ?_
                            rcases Decidable.em (b300 = true) with c312 | c312
                            · have H := of_pos H c312
                              refine F_know (i := 143) rfl (congrArg Value.bool c312) ?_
                              refine F_gval rfl rfl rfl rfl rfl rfl (O_move rfl rfl) ?_
                              refine F_gval rfl rfl rfl rfl rfl rfl (O_move rfl rfl) ?_
                              obtain ⟨⟨z317, z318, z319⟩, h316, H⟩ := of_bind H
                              refine F_gcall (xs := [.tmp 144, .tmp 145]) rfl rfl rfl rfl rfl rfl rfl Try.func19 nm19 rfl rfl ((valiselaw5_apartInts.calls (HS311.give [1, 2] rfl (Lent.nil)) h316).mono (fun e w hc => ?_))
                              obtain ⟨rfl, HSo, hl322, hl323⟩ := hc
                              refine ⟨.bool z317, rfl, ?_⟩
                              have HS321 : Hp S0 w0 w [.rd A_lens_0 (rowC (Eint .i64) l_lens_0), .own A21 c22 (rowC (Eint .i64) z318) 3 (Eint .i64).sz, .own A85 c86 (rowC (Eint .i64) z319) 3 (Eint .i64).sz, .own A101 c102 (rowC (Eint .i64) z97) 3 (Eint .i64).sz, .own A160 c161 (rowC (Eint .i64) z156) 3 (Eint .i64).sz, .own A241 c242 (rowC (Eint .i64) z237) 3 (Eint .i64).sz] := (HS311.back [1, 2] HSo rfl).sel [0, 6, 7, 3, 4, 5] rfl
                              have e324 : z147.length = z318.length := hl322.symm
                              refine F_know (i := 5) rfl (congrArg (fun n => Value.slice A21 n c22) e324) ?_
                              have e325 : z81.length = z319.length := hl323.symm
                              refine F_know (i := 9) rfl (congrArg (fun n => Value.slice A85 n c86) e325) ?_
                              refine F_val rfl rfl rfl (O_pickT rfl rfl rfl) ?_
                              refine F_val rfl rfl rfl (O_move rfl rfl) ?_
                              rcases Decidable.em (z317 = true) with c326 | c326
                              · have H := of_pos H c326
                                refine F_know (i := 148) rfl (congrArg Value.bool c326) ?_
                                refine F_gval rfl rfl rfl rfl rfl rfl (O_move rfl rfl) ?_
                                refine F_gval rfl rfl rfl rfl rfl rfl (O_move rfl rfl) ?_
                                obtain ⟨⟨z331, z332, z333⟩, h330, H⟩ := of_bind H
                                refine F_gcall (xs := [.tmp 149, .tmp 150]) rfl rfl rfl rfl rfl rfl rfl Try.func19 nm19 rfl rfl ((valiselaw5_apartInts.calls (HS321.give [2, 4] rfl (Lent.nil)) h330).mono (fun e w hc => ?_))
                                obtain ⟨rfl, HSo, hl336, hl337⟩ := hc
                                refine ⟨.bool z331, rfl, ?_⟩
                                have HS335 : Hp S0 w0 w [.rd A_lens_0 (rowC (Eint .i64) l_lens_0), .own A21 c22 (rowC (Eint .i64) z318) 3 (Eint .i64).sz, .own A85 c86 (rowC (Eint .i64) z332) 3 (Eint .i64).sz, .own A101 c102 (rowC (Eint .i64) z97) 3 (Eint .i64).sz, .own A160 c161 (rowC (Eint .i64) z333) 3 (Eint .i64).sz, .own A241 c242 (rowC (Eint .i64) z237) 3 (Eint .i64).sz] := (HS321.back [2, 4] HSo rfl).sel [0, 1, 6, 3, 7, 5] rfl
                                have e338 : z319.length = z332.length := hl336.symm
                                refine F_know (i := 9) rfl (congrArg (fun n => Value.slice A85 n c86) e338) ?_
                                have e339 : z156.length = z333.length := hl337.symm
                                refine F_know (i := 13) rfl (congrArg (fun n => Value.slice A160 n c161) e339) ?_
                                refine F_val rfl rfl rfl (O_pickT rfl rfl rfl) ?_
                                refine F_val rfl rfl rfl (O_move rfl rfl) ?_
                                rcases Decidable.em (z331 = true) with c340 | c340
                                · have H := of_pos H c340
                                  refine F_know (i := 153) rfl (congrArg Value.bool c340) ?_
                                  refine F_gval rfl rfl rfl rfl rfl rfl (O_move rfl rfl) ?_
                                  refine F_gval rfl rfl rfl rfl rfl rfl (O_move rfl rfl) ?_
                                  obtain ⟨⟨z345, z346, z347⟩, h344, H⟩ := of_bind H
                                  refine F_gcall (xs := [.tmp 154, .tmp 155]) rfl rfl rfl rfl rfl rfl rfl Try.func19 nm19 rfl rfl ((valiselaw5_apartInts.calls (HS335.give [4, 3] rfl (Lent.nil)) h344).mono (fun e w hc => ?_))
                                  obtain ⟨rfl, HSo, hl350, hl351⟩ := hc
                                  refine ⟨.bool z345, rfl, ?_⟩
                                  have HS349 : Hp S0 w0 w [.rd A_lens_0 (rowC (Eint .i64) l_lens_0), .own A21 c22 (rowC (Eint .i64) z318) 3 (Eint .i64).sz, .own A85 c86 (rowC (Eint .i64) z332) 3 (Eint .i64).sz, .own A101 c102 (rowC (Eint .i64) z347) 3 (Eint .i64).sz, .own A160 c161 (rowC (Eint .i64) z346) 3 (Eint .i64).sz, .own A241 c242 (rowC (Eint .i64) z237) 3 (Eint .i64).sz] := (HS335.back [4, 3] HSo rfl).sel [0, 1, 2, 7, 6, 5] rfl
                                  have e352 : z333.length = z346.length := hl350.symm
                                  refine F_know (i := 13) rfl (congrArg (fun n => Value.slice A160 n c161) e352) ?_
                                  have e353 : z97.length = z347.length := hl351.symm
                                  refine F_know (i := 11) rfl (congrArg (fun n => Value.slice A101 n c102) e353) ?_
                                  refine F_val rfl rfl rfl (O_pickT rfl rfl rfl) ?_
                                  refine F_val rfl rfl rfl (O_move rfl rfl) ?_
                                  rcases Decidable.em (z345 = true) with c354 | c354
                                  · have H := of_pos H c354
                                    refine F_know (i := 158) rfl (congrArg Value.bool c354) ?_
                                    refine F_gval rfl rfl rfl rfl rfl rfl (O_move rfl rfl) ?_
                                    refine F_gval rfl rfl rfl rfl rfl rfl (O_move rfl rfl) ?_
                                    obtain ⟨⟨z359, z360, z361⟩, h358, H⟩ := of_bind H
                                    refine F_gcall (xs := [.tmp 159, .tmp 160]) rfl rfl rfl rfl rfl rfl rfl Try.func19 nm19 rfl rfl ((valiselaw5_apartInts.calls (HS349.give [3, 5] rfl (Lent.nil)) h358).mono (fun e w hc => ?_))
                                    obtain ⟨rfl, HSo, hl364, hl365⟩ := hc
                                    refine ⟨.bool z359, rfl, ?_⟩
                                    have HS363 : Hp S0 w0 w [.rd A_lens_0 (rowC (Eint .i64) l_lens_0), .own A21 c22 (rowC (Eint .i64) z318) 3 (Eint .i64).sz, .own A85 c86 (rowC (Eint .i64) z332) 3 (Eint .i64).sz, .own A101 c102 (rowC (Eint .i64) z360) 3 (Eint .i64).sz, .own A160 c161 (rowC (Eint .i64) z346) 3 (Eint .i64).sz, .own A241 c242 (rowC (Eint .i64) z361) 3 (Eint .i64).sz] := (HS349.back [3, 5] HSo rfl).sel [0, 1, 2, 6, 4, 7] rfl
                                    have e366 : z347.length = z360.length := hl364.symm
                                    refine F_know (i := 11) rfl (congrArg (fun n => Value.slice A101 n c102) e366) ?_
                                    have e367 : z237.length = z361.length := hl365.symm
                                    refine F_know (i := 16) rfl (congrArg (fun n => Value.slice A241 n c242) e367) ?_
                                    refine F_val rfl rfl rfl (O_pickT rfl rfl rfl) ?_
                                    refine F_val rfl rfl rfl (O_assign rfl rfl) ?_
                                    refine F_nil ?_
                                    refine L_ret (fun a ha => (post_ret1 ha rfl rfl ?_))
                                    obtain rfl := Option.some.inj H
                                    exact ⟨rfl, HS363.sel [] rfl⟩
                                  · have H := of_neg H c354
                                    refine F_know (i := 158) rfl (congrArg Value.bool (Bool.eq_false_iff.mpr c354)) ?_
                                    refine F_gskip rfl rfl rfl rfl rfl rfl rfl ?_
                                    refine F_gskip rfl rfl rfl rfl rfl rfl rfl ?_
                                    refine F_gskip rfl rfl rfl rfl rfl rfl rfl ?_
                                    refine F_val rfl rfl rfl (O_pickF rfl rfl rfl) ?_
                                    refine F_val rfl rfl rfl (O_assign rfl rfl) ?_
                                    refine F_nil ?_
                                    refine L_ret (fun a ha => (post_ret1 ha rfl rfl ?_))
                                    obtain rfl := Option.some.inj H
                                    exact ⟨rfl, HS349.sel [] rfl⟩
                                · have H := of_neg H c340
                                  refine F_know (i := 153) rfl (congrArg Value.bool (Bool.eq_false_iff.mpr c340)) ?_
                                  refine F_gskip rfl rfl rfl rfl rfl rfl rfl ?_
                                  refine F_gskip rfl rfl rfl rfl rfl rfl rfl ?_
                                  refine F_gskip rfl rfl rfl rfl rfl rfl rfl ?_
                                  refine F_val rfl rfl rfl (O_pickF rfl rfl rfl) ?_
                                  refine F_val rfl rfl rfl (O_move rfl rfl) ?_
                                  refine F_gskip rfl rfl rfl rfl rfl rfl rfl ?_
                                  refine F_gskip rfl rfl rfl rfl rfl rfl rfl ?_
                                  refine F_gskip rfl rfl rfl rfl rfl rfl rfl ?_
                                  refine F_val rfl rfl rfl (O_pickF rfl rfl rfl) ?_
                                  refine F_val rfl rfl rfl (O_assign rfl rfl) ?_
                                  refine F_nil ?_
                                  refine L_ret (fun a ha => (post_ret1 ha rfl rfl ?_))
                                  obtain rfl := Option.some.inj H
                                  exact ⟨rfl, HS335.sel [] rfl⟩
                              · have H := of_neg H c326
                                refine F_know (i := 148) rfl (congrArg Value.bool (Bool.eq_false_iff.mpr c326)) ?_
                                refine F_gskip rfl rfl rfl rfl rfl rfl rfl ?_
                                refine F_gskip rfl rfl rfl rfl rfl rfl rfl ?_
                                refine F_gskip rfl rfl rfl rfl rfl rfl rfl ?_
                                refine F_val rfl rfl rfl (O_pickF rfl rfl rfl) ?_
                                refine F_val rfl rfl rfl (O_move rfl rfl) ?_
                                refine F_gskip rfl rfl rfl rfl rfl rfl rfl ?_
                                refine F_gskip rfl rfl rfl rfl rfl rfl rfl ?_
                                refine F_gskip rfl rfl rfl rfl rfl rfl rfl ?_
                                refine F_val rfl rfl rfl (O_pickF rfl rfl rfl) ?_
                                refine F_val rfl rfl rfl (O_move rfl rfl) ?_
                                refine F_gskip rfl rfl rfl rfl rfl rfl rfl ?_
                                refine F_gskip rfl rfl rfl rfl rfl rfl rfl ?_
                                refine F_gskip rfl rfl rfl rfl rfl rfl rfl ?_
                                refine F_val rfl rfl rfl (O_pickF rfl rfl rfl) ?_
                                refine F_val rfl rfl rfl (O_assign rfl rfl) ?_
                                refine F_nil ?_
                                refine L_ret (fun a ha => (post_ret1 ha rfl rfl ?_))
                                obtain rfl := Option.some.inj H
                                exact ⟨rfl, HS321.sel [] rfl⟩
                            · have H := of_neg H c312
                              refine F_know (i := 143) rfl (congrArg Value.bool (Bool.eq_false_iff.mpr c312)) ?_
                              refine F_gskip rfl rfl rfl rfl rfl rfl rfl ?_
                              refine F_gskip rfl rfl rfl rfl rfl rfl rfl ?_
                              refine F_gskip rfl rfl rfl rfl rfl rfl rfl ?_
                              refine F_val rfl rfl rfl (O_pickF rfl rfl rfl) ?_
                              refine F_val rfl rfl rfl (O_move rfl rfl) ?_
                              refine F_gskip rfl rfl rfl rfl rfl rfl rfl ?_
                              refine F_gskip rfl rfl rfl rfl rfl rfl rfl ?_
                              refine F_gskip rfl rfl rfl rfl rfl rfl rfl ?_
                              refine F_val rfl rfl rfl (O_pickF rfl rfl rfl) ?_
                              refine F_val rfl rfl rfl (O_move rfl rfl) ?_
                              refine F_gskip rfl rfl rfl rfl rfl rfl rfl ?_
                              refine F_gskip rfl rfl rfl rfl rfl rfl rfl ?_
                              refine F_gskip rfl rfl rfl rfl rfl rfl rfl ?_
                              refine F_val rfl rfl rfl (O_pickF rfl rfl rfl) ?_
                              refine F_val rfl rfl rfl (O_move rfl rfl) ?_
                              refine F_gskip rfl rfl rfl rfl rfl rfl rfl ?_
                              refine F_gskip rfl rfl rfl rfl rfl rfl rfl ?_
                              refine F_gskip rfl rfl rfl rfl rfl rfl rfl ?_
                              refine F_val rfl rfl rfl (O_pickF rfl rfl rfl) ?_
                              refine F_val rfl rfl rfl (O_assign rfl rfl) ?_
                              refine F_nil ?_
                              refine L_ret (fun a ha => (post_ret1 ha rfl rfl ?_))
                              obtain rfl := Option.some.inj H
                              exact ⟨rfl, HS311.sel [] rfl⟩

end Go.Proofs.Ytfglehdaimgaeaa
