import Derived.Test.YtfglehdaimgaeaaChecked
import Derived.Test.YtfglehdaimgaeaaGCodeChecksPure
set_option linter.unusedVariables false
set_option linter.unusedSimpArgs false
set_option maxRecDepth 10000
set_option maxHeartbeats 1000000
namespace Go.Proofs.Ytfglehdaimgaeaa
open Go Go.V Go.V.Pu
theorem mix : Try.prog.follows .mixedOrders = true := by kernel_rfl
theorem info3 : (Try.prog.info? 3).map (fun i => (i.zero, i.size, i.bytes)) = some (some (.int .i64 0), 1, 8) := by kernel_rfl
theorem size3 : (Try.prog.info? 3).map (·.size) = some 1 := by kernel_rfl
theorem nm28 : (Try.f28.name == "runtime.NumGoroutine") = false := by kernel_rfl
theorem nm20 : (Try.f20.name == "runtime.NumGoroutine") = false := by kernel_rfl
theorem zero82 : (Try.prog.info? 82).map (·.zero) = some (some (.agg #[.int .i64 0, .int .i64 0, .int .i64 0, .int .i64 0, .int .i64 0, .int .i64 0, .int .i64 0, .int .i64 0, .int .i64 0, .int .i64 0, .int .i64 0, .int .i64 0, .int .i64 0, .int .i64 0, .int .i64 0, .int .i64 0])) := by kernel_rfl
theorem wide82 : Wide Try.prog 82 16 := Wide.of Try.underlying82 rfl (by kernel_rfl)
theorem size82 : (Try.prog.info? 82).map (·.size) = some 16 := by kernel_rfl
theorem flat3 : Flat Try.prog 3 := Flat.of Try.underlying3 rfl
theorem zarr82 (w : World) : (Instr.build 82 #[]).run Try.prog w = .ok (.agg (rowC (Eint .i64) (List.replicate 16 (0 : Int))).toArray) w := by kernel_rfl
theorem nm57 : (Try.f57.name == "runtime.NumGoroutine") = false := by kernel_rfl
theorem nm58 : (Try.f58.name == "runtime.NumGoroutine") = false := by kernel_rfl
theorem nm21 : (Try.f21.name == "runtime.NumGoroutine") = false := by kernel_rfl
theorem nm59 : (Try.f59.name == "runtime.NumGoroutine") = false := by kernel_rfl
theorem nm74 : (Try.f74.name == "runtime.NumGoroutine") = false := by kernel_rfl
theorem nm60 : (Try.f60.name == "runtime.NumGoroutine") = false := by kernel_rfl
theorem nm22 : (Try.f22.name == "runtime.NumGoroutine") = false := by kernel_rfl
theorem nm23 : (Try.f23.name == "runtime.NumGoroutine") = false := by kernel_rfl
theorem nm15 : (Try.f15.name == "runtime.NumGoroutine") = false := by kernel_rfl
theorem nm24 : (Try.f24.name == "runtime.NumGoroutine") = false := by kernel_rfl
/-! function 28: valise/valiselaw5.copied -/
theorem valiselaw5_copied.calls {S0 : Nat → Prop} {w0 : World} {A_l_0 : Option Addr} {c_l_0 : Nat} {l_l_0 : List Int} {r : List Int} (HS0 : Hp S0 w0 w0 [.rd A_l_0 (rowC (Eint .i64) l_l_0)]) (hc_l_0 : l_l_0.length ≤ c_l_0) (h : valiselaw5_copied.f l_l_0 = some r) :
    Calls Try.prog 28 ([.slice A_l_0 l_l_0.length c_l_0] : List Value).toArray w0 (fun e w => ∃ (A1 : Option Addr), ∃ (c1 : Nat), e = .returned (.slice A1 r.length c1) ∧ Hp S0 w0 w [.own A1 c1 (rowC (Eint .i64) r) 3 (Eint .i64).sz]) := by
  have H : ((gd ((0 : Int) ≤ (l_l_0.length : Int) ∧ (l_l_0.length : Int) ≤ (IntKind.i64.wrap ((l_l_0.length : Int) + 4))) (gd ((IntKind.i64.wrap ((l_l_0.length : Int) + 4)) * 8 ≤ 281474976710656) (bnd (List.replicate ((l_l_0.length : Int) : Int).toNat (0 : Int)) fun l6 => bnd (cpy l6 l_l_0) fun l13 => some l13))) : Option (List Int)) = some r := h
  refine calls_start Try.func28 rfl rfl ?_
  refine L_seq ?_
  refine L_region ?_
  refine F_val rfl rfl rfl (O_assign rfl rfl) ?_
  refine F_nil ?_
  refine L_seq ?_
  refine L_region ?_
  refine F_val rfl rfl rfl (O_move rfl rfl) ?_
  refine F_val rfl rfl rfl (O_len rfl rfl Try.underlying22) ?_
  refine F_val rfl rfl rfl (O_move rfl rfl) ?_
  refine F_val rfl rfl rfl (O_len rfl rfl Try.underlying22) ?_
  refine F_val rfl rfl rfl (O_add rfl rfl rfl) ?_
  obtain ⟨⟨g3, g4⟩, H⟩ := of_gd H
  obtain ⟨g5, H⟩ := of_gd H
  obtain ⟨l6, h7, H⟩ := of_bnd H
  refine F_makeCE (E := (Eint .i64)) rfl rfl rfl rfl rfl rfl Try.underlying22 info3 rfl (by decide) (by decide) g3 g4 g5 HS0 h7 (fun w1 A8 c9 HS2 => ?_)
  have HS2 : Hp S0 w0 w1 [.rd A_l_0 (rowC (Eint .i64) l_l_0), .own A8 c9 (rowC (Eint .i64) l6) 3 (Eint .i64).sz] := HS2
  refine F_val rfl rfl rfl (O_assign rfl rfl) ?_
  refine F_nil ?_
  refine L_seq ?_
  refine L_region ?_
  refine F_val rfl rfl rfl (O_move rfl rfl) ?_
  refine F_val rfl rfl rfl (O_move rfl rfl) ?_
  obtain ⟨l13, h14, H⟩ := of_bnd H
  refine F_copyE (E := (Eint .i64)) (xs := l6) (ys := l_l_0) (i := 1) rfl rfl rfl rfl Try.underlying22 size3 rfl rfl HS2 rfl (HS2.cells_rd (i := 0) rfl) h14 (fun w11 HS12 => ?_)
  have e15 : l6.length = l13.length := by rw [← h14, cpy_length]
  refine F_know (i := 3) rfl (congrArg (fun n => Value.slice A8 n c9) e15) ?_
  have HS12 : Hp S0 w0 w11 [.rd A_l_0 (rowC (Eint .i64) l_l_0), .own A8 c9 (rowC (Eint .i64) l13) 3 (Eint .i64).sz] := HS12
  refine F_nil ?_
  refine L_seq ?_
  refine L_region ?_
  refine F_val rfl rfl rfl (O_move rfl rfl) ?_
  refine F_val rfl rfl rfl (O_assign rfl rfl) ?_
  refine F_nil ?_
  refine L_ret (fun a ha => (post_ret1 ha rfl rfl ?_))
  obtain rfl := Option.some.inj H
  exact ⟨_, _, rfl, HS12.sel [1] rfl⟩

/-! function 20: valise/valiselaw5.framed -/
theorem valiselaw5_framed.calls {S0 : Nat → Prop} {w0 : World} {A_l_0 : Option Addr} {c_l_0 : Nat} {l_l_0 : List Int} {r : List Int} (HS0 : Hp S0 w0 w0 [.rd A_l_0 (rowC (Eint .i64) l_l_0)]) (hc_l_0 : l_l_0.length ≤ c_l_0) (h : valiselaw5_framed.f l_l_0 = some r) :
    Calls Try.prog 20 ([.slice A_l_0 l_l_0.length c_l_0] : List Value).toArray w0 (fun e w => ∃ (A1 : Option Addr), ∃ (c1 : Nat), e = .returned (.slice A1 r.length c1) ∧ Hp S0 w0 w [.own A1 c1 (rowC (Eint .i64) r) 3 (Eint .i64).sz]) := by
  have H : (((valiselaw5_copied.f l_l_0).bind fun z5 => bnd (z5 ++ [(-71), (-72), (-73)]) fun l18 => gd ((l18.length : Int) * 8 ≤ 140737488355328) (some l18)) : Option (List Int)) = some r := h
  refine calls_start Try.func20 rfl rfl ?_
  refine L_seq ?_
  refine L_region ?_
  refine F_val rfl rfl rfl (O_assign rfl rfl) ?_
  refine F_nil ?_
  refine L_seq ?_
  refine L_region ?_
  refine F_val rfl rfl rfl (O_move rfl rfl) ?_
  obtain ⟨z5, h4, H⟩ := of_bind H
  refine F_call (xs := [.tmp 4]) rfl rfl rfl rfl Try.func28 nm28 rfl rfl ((valiselaw5_copied.calls (HS0.give [] rfl (Lent.rd HS0 (Lent.nil) (i := 0) rfl ((HS0.cells_rd (i := 0) rfl).self))) hc_l_0 h4).mono (fun e w hc => ?_))
  obtain ⟨A8, c9, rfl, HSo⟩ := hc
  refine ⟨.slice A8 z5.length c9, rfl, ?_⟩
  have HS7 : Hp S0 w0 w [.rd A_l_0 (rowC (Eint .i64) l_l_0), .own A8 c9 (rowC (Eint .i64) z5) 3 (Eint .i64).sz] := (HS0.back [] HSo rfl).sel [0, 1] rfl
  refine F_val rfl rfl rfl (O_assign rfl rfl) ?_
  refine F_nil ?_
  refine L_seq ?_
  refine L_region ?_
  refine F_val rfl rfl rfl (O_move rfl rfl) ?_
  refine F_litE (E := (Eint .i64)) (e := 3) [(0, .int .i64 (-71)), (1, .int .i64 (-72)), (2, .int .i64 (-73))] [(-71), (-72), (-73)] rfl rfl rfl rfl rfl rfl rfl (by decide) (fun w => by kernel_rfl) HS7 (fun w11 A13 c14 HS12 => ?_)
  have HS12 : Hp S0 w0 w11 [.rd A_l_0 (rowC (Eint .i64) l_l_0), .own A8 c9 (rowC (Eint .i64) z5) 3 (Eint .i64).sz, .own A13 c14 (rowC (Eint .i64) [(-71), (-72), (-73)]) 3 (Eint .i64).sz] := HS12
  obtain ⟨l18, h19, H⟩ := of_bnd H
  obtain ⟨g20, H⟩ := of_gd H
  refine F_appE (E := (Eint .i64)) (xs := z5) (ys := [(-71), (-72), (-73)]) (i := 1) rfl rfl rfl rfl Try.underlying22 info3 rfl (by decide) (by decide) rfl rfl HS12 rfl (HS12.cells_own (i := 2) rfl) h19 g20 (fun w16 A21 c22 HS17 => ?_)
  have HS17 : Hp S0 w0 w16 [.rd A_l_0 (rowC (Eint .i64) l_l_0), .own A21 c22 (rowC (Eint .i64) l18) 3 (Eint .i64).sz, .own A13 c14 (rowC (Eint .i64) [(-71), (-72), (-73)]) 3 (Eint .i64).sz] := HS17
  refine F_val rfl rfl rfl (O_assign rfl rfl) ?_
  refine F_nil ?_
  refine L_ret (fun a ha => (post_ret1 ha rfl rfl ?_))
  obtain rfl := Option.some.inj H
  exact ⟨_, _, rfl, HS17.sel [1] rfl⟩

/-! function 57: valise/code.count -/
theorem code_count.calls {S0 : Nat → Prop} {w0 : World} {A_lens_0 : Option Addr} {c_lens_0 : Nat} {l_lens_0 : List Int} {r : List Int × Int} (HS0 : Hp S0 w0 w0 [.rd A_lens_0 (rowC (Eint .i64) l_lens_0)]) (hc_lens_0 : l_lens_0.length ≤ c_lens_0) (h : code_count.f l_lens_0 = some r) :
    Calls Try.prog 57 ([.slice A_lens_0 l_lens_0.length c_lens_0] : List Value).toArray w0 (fun e w => e = .returned (.tuple #[.agg (rowC (Eint .i64) r.1).toArray, .int .i64 r.2]) ∧ Hp S0 w0 w []) := by
  have H : ((if 288 < (l_lens_0.length : Int) then (some ((List.replicate 16 (0 : Int)), 1)) else ((code_count.l1 FU (List.replicate 16 (0 : Int)) 0 l_lens_0).bind fun (yj12 : Sum (List Int × Int) (List Int)) => onR yj12 (fun r => some r) fun y83 => gd (y83.length = 16) (bnd (y83.set (0 : Int).toNat 0) fun l158 => some (l158, 0)))) : Option (List Int × Int)) = some r := h
  refine calls_start Try.func57 rfl rfl ?_
  refine L_seq ?_
  refine L_region ?_
  refine F_alloc (C := rowC (Eint .i64) (List.replicate 16 (0 : Int))) rfl rfl rfl rfl zero82 rfl HS0 (fun w1 g3 HS2 => ?_)
  have HS2 : Hp S0 w0 w1 [.rd A_lens_0 (rowC (Eint .i64) l_lens_0), .box g3 (rowC (Eint .i64) (List.replicate 16 (0 : Int))) 82] := HS2
  refine F_val rfl rfl rfl (O_assign rfl rfl) ?_
  refine F_nil ?_
  refine L_seq ?_
  refine L_region ?_
  refine F_alloc (C := rowC (Eint .i64) (List.replicate 16 (0 : Int))) rfl rfl rfl rfl zero82 rfl HS2 (fun w5 g7 HS6 => ?_)
  have HS6 : Hp S0 w0 w5 [.rd A_lens_0 (rowC (Eint .i64) l_lens_0), .box g3 (rowC (Eint .i64) (List.replicate 16 (0 : Int))) 82, .box g7 (rowC (Eint .i64) (List.replicate 16 (0 : Int))) 82] := HS6
  refine F_nil ?_
  refine L_seq ?_
  refine L_seq ?_
  refine L_region ?_
  refine F_val rfl rfl rfl (O_move rfl rfl) ?_
  refine F_val rfl rfl rfl (O_len rfl rfl Try.underlying22) ?_
  refine F_val rfl rfl rfl (O_gt rfl rfl rfl) ?_
  refine F_nil ?_
  refine L_condP rfl (fun c9 => ?_) (fun c9 => ?_)
  · have H := of_pos H c9
    refine L_seq ?_
    refine L_region ?_
    refine F_val rfl rfl rfl (O_loadSg [] (rowC (Eint .i64) (List.replicate 16 (0 : Int))) [] rfl rfl wide82 (HS6.cells_box (i := 2) rfl) (by simp only [List.append_assoc, List.cons_append, List.nil_append, List.append_nil]) rfl (row_len List.length_replicate) (by decide)) ?_
    refine F_stSg 1 (rowC (Eint .i64) (List.replicate 16 (0 : Int))) [] (rowC (Eint .i64) (List.replicate 16 (0 : Int))) (rowC (Eint .i64) (List.replicate 16 (0 : Int))) [] rfl rfl rfl rfl rfl size82 HS6 rfl rfl ones_row (by simp only [List.append_assoc, List.cons_append, List.nil_append, List.append_nil]) (by simp only [List.append_assoc, List.cons_append, List.nil_append, List.append_nil]) rfl (row_len List.length_replicate) (row_len List.length_replicate) (fun w10 HS11 => ?_)
    have HS11 : Hp S0 w0 w10 [.rd A_lens_0 (rowC (Eint .i64) l_lens_0), .box g3 (rowC (Eint .i64) (List.replicate 16 (0 : Int))) 82, .box g7 (rowC (Eint .i64) (List.replicate 16 (0 : Int))) 82] := HS11
    refine F_val rfl rfl rfl (O_assign rfl rfl) ?_
    refine F_nil ?_
    refine L_ret (fun a ha => (post_retc2 ha rfl rfl wide82 (HS11.cells_box (i := 1) rfl) (row_len List.length_replicate) (by decide) rfl ?_))
    obtain rfl := Option.some.inj H
    exact ⟨rfl, HS11.sel [] rfl⟩
  · have H := of_neg H c9
    refine L_skip ?_
    refine L_seq ?_
    refine L_seq ?_
    refine L_region ?_
    refine F_val rfl rfl rfl (O_move rfl rfl) ?_
    refine F_val rfl rfl rfl (O_len rfl rfl Try.underlying22) ?_
    refine F_val rfl rfl rfl (O_move rfl rfl) ?_
    refine F_nil ?_
    obtain ⟨yj12, Hyj12, H⟩ := of_bind H
    refine L_join (fun a w => ∃ (y83 : List Int), yj12 = Sum.inr y83 ∧ Is Try.f57.ntmps a [(2, .pointer (some ⟨g3, 0, none⟩)), (4, .pointer (some ⟨g7, 0, none⟩))] ∧ Hp S0 w0 w [.rd A_lens_0 (rowC (Eint .i64) l_lens_0), .box g3 (rowC (Eint .i64) (List.replicate 16 (0 : Int))) 82, .box g7 (rowC (Eint .i64) y83) 82]) (fun Qj12 hNj12 hOj12 => ?_) (fun a w hR => ?_)
    · have HOj12 := H
      have H := Hyj12
      refine L_blk (fun Qb84 hNb84 hXb84 hOb84 => ?_)
      refine L_lp (fun k a w => ∃ (y129 : List Int), ∃ (t130 : Int), Is Try.f57.ntmps a [(2, .pointer (some ⟨g3, 0, none⟩)), (4, .pointer (some ⟨g7, 0, none⟩)), (11, .slice A_lens_0 l_lens_0.length c_lens_0), (12, .int .i64 (l_lens_0.length : Int)), (13, .int .i64 t130)] ∧ Hp S0 w0 w [.rd A_lens_0 (rowC (Eint .i64) l_lens_0), .box g3 (rowC (Eint .i64) (List.replicate 16 (0 : Int))) 82, .box g7 (rowC (Eint .i64) y129) 82] ∧ code_count.l1 k y129 t130 l_lens_0 = some yj12) FU (fun a ha => ⟨_, _, Is.cons ha (Is.cons ha (Is.cons ha (Is.cons ha (Is.cons ha (Is.nil ha) rfl) rfl) rfl) rfl) rfl, HS6.sel [0, 1, 2] rfl, H⟩) (fun kp128 a w131 hI Qp128 hNp128 hOp128 => ?_)
      obtain ⟨y129, t130, ha, HS132, HAp128⟩ := hI
      cases kp128 with
      | zero => cases (show (none : Option _) = some _ from HAp128)
      | succ kp128 =>
        have H := (code_count.l1.eq_2 ..).symm.trans HAp128
        refine wpLF_app ?_ ha
        refine L_seq ?_
        refine L_region ?_
        refine F_val rfl rfl rfl (O_lt rfl rfl rfl) ?_
        refine F_nil ?_
        refine L_seq ?_
        refine L_condP rfl (fun c133 => ?_) (fun c133 => ?_)
        · have H := of_pos H c133
          refine L_skip ?_
          refine L_seq ?_
          refine L_blk (fun Q134 hN134 hX134 hO134 => ?_)
          refine L_seq ?_
          refine L_region ?_
          obtain ⟨⟨g135, g136⟩, H⟩ := of_gd H
          refine F_val rfl rfl rfl (O_idx rfl rfl rfl Try.underlying22 size3 g135 g136 (Cells.isA (HS132.cells_rd (i := 0) rfl) (rowC_ne (E := (Eint .i64)) g135 g136 (by decide)))) ?_
          refine F_val rfl rfl rfl (O_loadC rfl rfl flat3 (HS132.cells_rd (i := 0) rfl) (int_cell g135 g136)) ?_
          obtain ⟨x137, h138, H⟩ := of_bnd H
          refine F_val rfl rfl rfl (O_assign' rfl rfl (congrArg (Value.int .i64) h138)) ?_
          refine F_nil ?_
          refine L_seq ?_
          refine L_seq ?_
          refine L_region ?_
          refine F_val rfl rfl rfl (O_move rfl rfl) ?_
          refine F_val rfl rfl rfl (O_lt rfl rfl rfl) ?_
          refine F_val rfl rfl rfl (O_move rfl rfl) ?_
          refine F_grp 3 [(22, .bool (decide ((x137 < 0) ∨ (15 < x137)))), (2, .pointer (some ⟨g3, 0, none⟩)), (4, .pointer (some ⟨g7, 0, none⟩)), (6, .int .i64 x137), (11, .slice A_lens_0 l_lens_0.length c_lens_0), (12, .int .i64 (l_lens_0.length : Int)), (13, .int .i64 t130)] ?_ ?_
          · rcases Decidable.em (x137 < 0) with c142 | c142
            · refine F_know (i := 19) rfl (dec_t c142) ?_
              refine F_gskip rfl rfl rfl rfl rfl rfl rfl ?_
              refine F_gskip rfl rfl rfl rfl rfl rfl rfl ?_
              refine F_val rfl rfl rfl (O_pickT rfl rfl rfl) ?_
              refine F_know (i := 22) rfl (dec_or_t (q := 15 < x137) c142) ?_
              exact F_grpE (fun a ha => Is.cons ha (Is.cons ha (Is.cons ha (Is.cons ha (Is.cons ha (Is.cons ha (Is.cons ha (Is.nil ha) rfl) rfl) rfl) rfl) rfl) rfl) rfl)
            · refine F_know (i := 19) rfl (dec_f c142) ?_
              refine F_gval rfl rfl rfl rfl rfl rfl (O_move rfl rfl) ?_
              refine F_gval rfl rfl rfl rfl rfl rfl (O_gt rfl rfl rfl) ?_
              refine F_val rfl rfl rfl (O_pickF rfl rfl rfl) ?_
              refine F_know (i := 22) rfl (dec_or_f (q := 15 < x137) c142) ?_
              exact F_grpE (fun a ha => Is.cons ha (Is.cons ha (Is.cons ha (Is.cons ha (Is.cons ha (Is.cons ha (Is.cons ha (Is.nil ha) rfl) rfl) rfl) rfl) rfl) rfl) rfl)
          · skip
            refine F_nil ?_
            refine L_condP rfl (fun c143 => ?_) (fun c143 => ?_)
            · have H := of_pos H c143
              refine L_seq ?_
              refine L_region ?_
              refine F_val rfl rfl rfl (O_build (vs := []) (v := .agg (rowC (Eint .i64) (List.replicate 16 (0 : Int))).toArray) rfl rfl rfl zarr82) ?_
              refine F_stSg 1 (rowC (Eint .i64) (List.replicate 16 (0 : Int))) [] (rowC (Eint .i64) (List.replicate 16 (0 : Int))) (rowC (Eint .i64) (List.replicate 16 (0 : Int))) [] rfl rfl rfl rfl rfl size82 HS132 rfl rfl ones_row (by simp only [List.append_assoc, List.cons_append, List.nil_append, List.append_nil]) (by simp only [List.append_assoc, List.cons_append, List.nil_append, List.append_nil]) rfl (row_len List.length_replicate) (row_len List.length_replicate) (fun w144 HS145 => ?_)
              have HS145 : Hp S0 w0 w144 [.rd A_lens_0 (rowC (Eint .i64) l_lens_0), .box g3 (rowC (Eint .i64) (List.replicate 16 (0 : Int))) 82, .box g7 (rowC (Eint .i64) y129) 82] := HS145
              refine F_val rfl rfl rfl (O_assign rfl rfl) ?_
              refine F_nil ?_
              refine L_ret (fun a ha => (hO134 .ret a _ rfl (hOp128 .ret a _ rfl (hOb84 .ret a _ rfl (hOj12 .ret a _ rfl (post_retc2 ha rfl rfl wide82 (HS145.cells_box (i := 1) rfl) (row_len List.length_replicate) (by decide) rfl ?_))))))
              obtain rfl := Option.some.inj H
              obtain rfl := Option.some.inj (show (some ((List.replicate 16 (0 : Int)), 50) : Option (List Int × Int)) = some _ from HOj12)
              exact ⟨rfl, HS145.sel [] rfl⟩
            · have H := of_neg H c143
              refine L_skip ?_
              refine L_region ?_
              refine F_val rfl rfl rfl (O_move rfl rfl) ?_
              obtain ⟨⟨g146, g147⟩, H⟩ := of_gd H
              refine F_val rfl rfl rfl (O_idxA rfl rfl rfl Try.underlying82 size3 g146 g147) ?_
              obtain ⟨g148, H⟩ := of_gd H
              refine F_val rfl rfl rfl (O_loadB rfl rfl flat3 (HS132.cells_box (i := 2) rfl) (at0 (int_cell g146 (arr_lt g148 g147)))) ?_
              refine F_val rfl rfl rfl (O_add rfl rfl rfl) ?_
              refine F_val rfl rfl rfl (O_idxA rfl rfl rfl Try.underlying82 size3 g146 g147) ?_
              obtain ⟨l151, h152, H⟩ := of_bnd H
              refine F_stAr (E := (Eint .i64)) (xs := y129) (q := x137) (a := IntKind.i64.wrap ((rd y129 x137) + 1)) (off := 0) 2 (rowC (Eint .i64) l151) [] [] rfl rfl rfl rfl rfl size3 HS132 rfl rfl (by simp only [List.append_assoc, List.cons_append, List.nil_append, List.append_nil]) rfl g146 (arr_lt g148 g147) h152 (by simp only [List.append_assoc, List.cons_append, List.nil_append, List.append_nil]) (fun w149 HS150 => ?_)
              have hl153 : l151.length = 16 := by rw [← h152, List.length_set]; exact g148
              have HS150 : Hp S0 w0 w149 [.rd A_lens_0 (rowC (Eint .i64) l_lens_0), .box g3 (rowC (Eint .i64) (List.replicate 16 (0 : Int))) 82, .box g7 (rowC (Eint .i64) l151) 82] := HS150
              refine F_nil ?_
              refine L_endB hN134 ?_
              refine L_region ?_
              refine F_val rfl rfl rfl (O_add rfl rfl rfl) ?_
              refine F_val rfl rfl rfl (O_move rfl rfl) ?_
              refine F_nil ?_
              refine L_nil (fun a ha => hNp128 _ a _ (Nat.lt_succ_self _) ⟨_, _, Is.cons ha (Is.cons ha (Is.cons ha (Is.cons ha (Is.cons ha (Is.nil ha) rfl) rfl) rfl) rfl) rfl, HS150.sel [0, 1, 2] rfl, H⟩)
        · have H := of_neg H c133
          refine L_exitB (fun a w h => hOp128 (.exit 0) a w rfl (hXb84 a w h)) ?_
          refine L_nil (fun a ha => hNj12 a _ ⟨_, (Option.some.inj H).symm, Is.cons ha (Is.cons ha (Is.nil ha) rfl) rfl, HS132.sel [0, 1, 2] rfl⟩)
    · obtain ⟨y83, rfl, ha, HS155⟩ := hR
      refine wpLF_app ?_ ha
      have H := (onR_inr _ _ _).symm.trans H
      refine L_seq ?_
      refine L_region ?_
      refine F_val rfl rfl rfl (O_idxA rfl rfl rfl Try.underlying82 size3 (by decide) (by decide)) ?_
      obtain ⟨g160, H⟩ := of_gd H
      obtain ⟨l158, h159, H⟩ := of_bnd H
      refine F_stAr (E := (Eint .i64)) (xs := y83) (q := 0) (a := 0) (off := 0) 2 (rowC (Eint .i64) l158) [] [] rfl rfl rfl rfl rfl size3 HS155 rfl rfl (by simp only [List.append_assoc, List.cons_append, List.nil_append, List.append_nil]) rfl (by decide) (arr_lt g160 (by decide)) h159 (by simp only [List.append_assoc, List.cons_append, List.nil_append, List.append_nil]) (fun w156 HS157 => ?_)
      have hl161 : l158.length = 16 := by rw [← h159, List.length_set]; exact g160
      have HS157 : Hp S0 w0 w156 [.rd A_lens_0 (rowC (Eint .i64) l_lens_0), .box g3 (rowC (Eint .i64) (List.replicate 16 (0 : Int))) 82, .box g7 (rowC (Eint .i64) l158) 82] := HS157
      refine F_nil ?_
      refine L_seq ?_
      refine L_region ?_
      refine F_val rfl rfl rfl (O_loadSg [] (rowC (Eint .i64) l158) [] rfl rfl wide82 (HS157.cells_box (i := 2) rfl) (by simp only [List.append_assoc, List.cons_append, List.nil_append, List.append_nil]) rfl (row_len hl161) (by decide)) ?_
      refine F_stSg 1 (rowC (Eint .i64) l158) [] (rowC (Eint .i64) (List.replicate 16 (0 : Int))) (rowC (Eint .i64) l158) [] rfl rfl rfl rfl rfl size82 HS157 rfl rfl ones_row (by simp only [List.append_assoc, List.cons_append, List.nil_append, List.append_nil]) (by simp only [List.append_assoc, List.cons_append, List.nil_append, List.append_nil]) rfl (row_len List.length_replicate) (row_len hl161) (fun w162 HS163 => ?_)
      have HS163 : Hp S0 w0 w162 [.rd A_lens_0 (rowC (Eint .i64) l_lens_0), .box g3 (rowC (Eint .i64) l158) 82, .box g7 (rowC (Eint .i64) l158) 82] := HS163
      refine F_val rfl rfl rfl (O_assign rfl rfl) ?_
      refine F_nil ?_
      refine L_ret (fun a ha => (post_retc2 ha rfl rfl wide82 (HS163.cells_box (i := 1) rfl) (row_len hl161) (by decide) rfl ?_))
      obtain rfl := Option.some.inj H
      exact ⟨rfl, HS163.sel [] rfl⟩

/-! function 58: valise/code.shape -/
theorem code_shape.calls {S0 : Nat → Prop} {w0 : World} {l_n_0 : List Int} {r : Int} (HS0 : Hp S0 w0 w0 []) (h : code_shape.f l_n_0 = some r) :
    Calls Try.prog 58 ([.agg (rowC (Eint .i64) l_n_0).toArray] : List Value).toArray w0 (fun e w => e = .returned (.int .i64 r) ∧ Hp S0 w0 w []) := by
  have H : (((code_shape.l1 FU 0 0 1 l_n_0).bind fun (words_49, used_50) => if words_49 = 0 then (some 0) else ((if words_49 = 1 then (gd (l_n_0.length = 16) (some (decide (rd l_n_0 1 = 1)))) else (some false)).bind fun b99 => if b99 = true then (some 1) else (if 32768 < used_50 then (some 3) else (if used_50 = 32768 then (some 4) else (some 2))))) : Option (Int)) = some r := h
  refine calls_start Try.func58 rfl rfl ?_
  refine L_seq ?_
  refine L_region ?_
  refine F_box (C := rowC (Eint .i64) l_n_0) rfl rfl rfl rfl rfl rfl HS0 (fun w1 g3 HS2 => ?_)
  have HS2 : Hp S0 w0 w1 [.box g3 (rowC (Eint .i64) l_n_0) 82] := HS2
  refine F_val rfl rfl rfl (O_assign rfl rfl) ?_
  refine F_nil ?_
  refine L_seq ?_
  refine L_region ?_
  refine F_val rfl rfl rfl (O_assign rfl rfl) ?_
  refine F_val rfl rfl rfl (O_assign rfl rfl) ?_
  refine F_nil ?_
  refine L_seq ?_
  refine L_seq ?_
  refine L_region ?_
  refine F_val rfl rfl rfl (O_assign rfl rfl) ?_
  refine F_nil ?_
  obtain ⟨yj5, Hyj5, H⟩ := of_bind H
  refine L_join (fun a w => ∃ (words_49 : Int), ∃ (used_50 : Int), yj5 = (words_49, used_50) ∧ Is Try.f58.ntmps a [(1, .pointer (some ⟨g3, 0, none⟩)), (3, .int .i64 words_49), (4, .int .i64 used_50)] ∧ Hp S0 w0 w [.box g3 (rowC (Eint .i64) l_n_0) 82]) (fun Qj5 hNj5 hOj5 => ?_) (fun a w hR => ?_)
  · skip
    have H := Hyj5
    refine L_blk (fun Qb51 hNb51 hXb51 hOb51 => ?_)
    refine L_lp (fun k a w => ∃ (words_77 : Int), ∃ (used_78 : Int), ∃ (l_79 : Int), Is Try.f58.ntmps a [(1, .pointer (some ⟨g3, 0, none⟩)), (3, .int .i64 words_77), (4, .int .i64 used_78), (5, .int .i64 l_79)] ∧ Hp S0 w0 w [.box g3 (rowC (Eint .i64) l_n_0) 82] ∧ code_shape.l1 k words_77 used_78 l_79 l_n_0 = some yj5) FU (fun a ha => ⟨_, _, _, Is.cons ha (Is.cons ha (Is.cons ha (Is.cons ha (Is.nil ha) rfl) rfl) rfl) rfl, HS2.sel [0] rfl, H⟩) (fun kp76 a w80 hI Qp76 hNp76 hOp76 => ?_)
    obtain ⟨words_77, used_78, l_79, ha, HS81, HAp76⟩ := hI
    cases kp76 with
    | zero => cases (show (none : Option _) = some _ from HAp76)
    | succ kp76 =>
      have H := (code_shape.l1.eq_2 ..).symm.trans HAp76
      refine wpLF_app ?_ ha
      refine L_seq ?_
      refine L_seq ?_
      refine L_region ?_
      refine F_val rfl rfl rfl (O_move rfl rfl) ?_
      refine F_val rfl rfl rfl (O_le rfl rfl rfl) ?_
      refine F_nil ?_
      refine L_condP rfl (fun c82 => ?_) (fun c82 => ?_)
      · have H := of_pos H c82
        refine L_skip ?_
        refine L_seq ?_
        refine L_blk (fun Q83 hN83 hX83 hO83 => ?_)
        refine L_seq ?_
        refine L_region ?_
        refine F_val rfl rfl rfl (O_move rfl rfl) ?_
        refine F_val rfl rfl rfl (O_move rfl rfl) ?_
        obtain ⟨⟨g84, g85⟩, H⟩ := of_gd H
        refine F_val rfl rfl rfl (O_idxA rfl rfl rfl Try.underlying82 size3 g84 g85) ?_
        obtain ⟨g86, H⟩ := of_gd H
        refine F_val rfl rfl rfl (O_loadB rfl rfl flat3 (HS81.cells_box (i := 0) rfl) (at0 (int_cell g84 (arr_lt g86 g85)))) ?_
        refine F_val rfl rfl rfl (O_add rfl rfl rfl) ?_
        obtain ⟨x87, h88, H⟩ := of_bnd H
        refine F_val rfl rfl rfl (O_assign' rfl rfl (congrArg (Value.int .i64) h88)) ?_
        refine F_nil ?_
        refine L_region ?_
        refine F_val rfl rfl rfl (O_move rfl rfl) ?_
        refine F_val rfl rfl rfl (O_move rfl rfl) ?_
        refine F_val rfl rfl rfl (O_idxA rfl rfl rfl Try.underlying82 size3 g84 g85) ?_
        refine F_val rfl rfl rfl (O_loadB rfl rfl flat3 (HS81.cells_box (i := 0) rfl) (at0 (int_cell g84 (arr_lt g86 g85)))) ?_
        refine F_val rfl rfl rfl (O_move rfl rfl) ?_
        refine F_val rfl rfl rfl (O_sub rfl rfl rfl) ?_
        obtain ⟨g89, H⟩ := of_gd H
        refine F_val rfl rfl rfl (O_shl rfl rfl rfl g89) ?_
        refine F_val rfl rfl rfl (O_add rfl rfl rfl) ?_
        obtain ⟨x90, h91, H⟩ := of_bnd H
        refine F_val rfl rfl rfl (O_assign' rfl rfl (congrArg (Value.int .i64) h91)) ?_
        refine F_nil ?_
        refine L_endB hN83 ?_
        refine L_region ?_
        refine F_val rfl rfl rfl (O_move rfl rfl) ?_
        refine F_val rfl rfl rfl (O_add rfl rfl rfl) ?_
        obtain ⟨x92, h93, H⟩ := of_bnd H
        refine F_val rfl rfl rfl (O_assign' rfl rfl (congrArg (Value.int .i64) h93)) ?_
        refine F_nil ?_
        refine L_nil (fun a ha => hNp76 _ a _ (Nat.lt_succ_self _) ⟨_, _, _, Is.cons ha (Is.cons ha (Is.cons ha (Is.cons ha (Is.nil ha) rfl) rfl) rfl) rfl, HS81.sel [0] rfl, H⟩)
      · have H := of_neg H c82
        refine L_exitB (fun a w h => hOp76 (.exit 0) a w rfl (hXb51 a w h)) ?_
        refine L_nil (fun a ha => hNj5 a _ ⟨_, _, (Option.some.inj H).symm, Is.cons ha (Is.cons ha (Is.cons ha (Is.nil ha) rfl) rfl) rfl, HS81.sel [0] rfl⟩)
  · obtain ⟨words_49, used_50, rfl, ha, HS95⟩ := hR
    refine wpLF_app ?_ ha
    refine L_seq ?_
    refine L_blk (fun Q96 hN96 hX96 hO96 => ?_)
    refine L_seq ?_
    refine L_region ?_
    refine F_val rfl rfl rfl (O_move rfl rfl) ?_
    refine F_val rfl rfl rfl (O_eq rfl rfl rfl) ?_
    refine F_val rfl rfl rfl (O_assign rfl rfl) ?_
    refine F_nil ?_
    refine L_condP rfl (fun c97 => ?_) (fun c97 => ?_)
    · have H := of_pos H c97
      refine L_seq ?_
      refine L_region ?_
      refine F_val rfl rfl rfl (O_assign rfl rfl) ?_
      refine F_nil ?_
      refine L_ret (fun a ha => (hO96 .ret a _ rfl (post_ret1 ha rfl rfl ?_)))
      obtain rfl := Option.some.inj H
      exact ⟨rfl, HS95.sel [] rfl⟩
    · have H := of_neg H c97
      refine L_seq ?_
      refine L_region ?_
      refine F_val rfl rfl rfl (O_move rfl rfl) ?_
      refine F_val rfl rfl rfl (O_eq rfl rfl rfl) ?_
      refine F_val rfl rfl rfl (O_move rfl rfl) ?_
      obtain ⟨b99, Hb99, H⟩ := of_bind H
      refine F_grp 4 [(33, .bool b99), (4, .int .i64 used_50)] ?_ ?_
      · rcases Decidable.em (words_49 = 1) with c103 | c103
        · refine F_know (i := 29) rfl (dec_t c103) ?_
          have H := of_pos Hb99 c103
          refine F_gval rfl rfl rfl rfl rfl rfl (O_idxA rfl rfl rfl Try.underlying82 size3 (by decide) (by decide)) ?_
          obtain ⟨g104, H⟩ := of_gd H
          refine F_gval rfl rfl rfl rfl rfl rfl (O_loadB rfl rfl flat3 (HS95.cells_box (i := 0) rfl) (at0 (int_cell (by decide) (arr_lt g104 (by decide))))) ?_
          refine F_gval rfl rfl rfl rfl rfl rfl (O_eq rfl rfl rfl) ?_
          refine F_val rfl rfl rfl (O_pickT rfl rfl rfl) ?_
          refine F_know (i := 33) rfl (congrArg Value.bool (Option.some.inj H)) ?_
          exact F_grpE (fun a ha => Is.cons ha (Is.cons ha (Is.nil ha) rfl) rfl)
        · refine F_know (i := 29) rfl (dec_f c103) ?_
          have H := of_neg Hb99 c103
          refine F_gskip rfl rfl rfl rfl rfl rfl rfl ?_
          refine F_gskip rfl rfl rfl rfl rfl rfl rfl ?_
          refine F_gskip rfl rfl rfl rfl rfl rfl rfl ?_
          refine F_val rfl rfl rfl (O_pickF rfl rfl rfl) ?_
          refine F_know (i := 33) rfl (congrArg Value.bool (Option.some.inj H)) ?_
          exact F_grpE (fun a ha => Is.cons ha (Is.cons ha (Is.nil ha) rfl) rfl)
      · skip
        refine F_val rfl rfl rfl (O_assign rfl rfl) ?_
        refine F_nil ?_
        refine L_cond rfl (fun c105 => ?_) (fun c105 => ?_)
        · have H := of_pos H c105
          refine L_seq ?_
          refine L_region ?_
          refine F_val rfl rfl rfl (O_assign rfl rfl) ?_
          refine F_nil ?_
          refine L_ret (fun a ha => (hO96 .ret a _ rfl (post_ret1 ha rfl rfl ?_)))
          obtain rfl := Option.some.inj H
          exact ⟨rfl, HS95.sel [] rfl⟩
        · have H := of_neg H (by rw [c105]; exact Bool.false_ne_true)
          refine L_seq ?_
          refine L_region ?_
          refine F_val rfl rfl rfl (O_move rfl rfl) ?_
          refine F_val rfl rfl rfl (O_gt rfl rfl rfl) ?_
          refine F_val rfl rfl rfl (O_assign rfl rfl) ?_
          refine F_nil ?_
          refine L_condP rfl (fun c106 => ?_) (fun c106 => ?_)
          · have H := of_pos H c106
            refine L_seq ?_
            refine L_region ?_
            refine F_val rfl rfl rfl (O_assign rfl rfl) ?_
            refine F_nil ?_
            refine L_ret (fun a ha => (hO96 .ret a _ rfl (post_ret1 ha rfl rfl ?_)))
            obtain rfl := Option.some.inj H
            exact ⟨rfl, HS95.sel [] rfl⟩
          · have H := of_neg H c106
            refine L_seq ?_
            refine L_region ?_
            refine F_val rfl rfl rfl (O_move rfl rfl) ?_
            refine F_val rfl rfl rfl (O_eq rfl rfl rfl) ?_
            refine F_val rfl rfl rfl (O_assign rfl rfl) ?_
            refine F_nil ?_
            refine L_condP rfl (fun c107 => ?_) (fun c107 => ?_)
            · have H := of_pos H c107
              refine L_seq ?_
              refine L_region ?_
              refine F_val rfl rfl rfl (O_assign rfl rfl) ?_
              refine F_nil ?_
              refine L_ret (fun a ha => (hO96 .ret a _ rfl (post_ret1 ha rfl rfl ?_)))
              obtain rfl := Option.some.inj H
              exact ⟨rfl, HS95.sel [] rfl⟩
            · have H := of_neg H c107
              refine L_skip ?_
              refine L_endB hN96 ?_
              refine L_seq ?_
              refine L_region ?_
              refine F_val rfl rfl rfl (O_assign rfl rfl) ?_
              refine F_nil ?_
              refine L_ret (fun a ha => (post_ret1 ha rfl rfl ?_))
              obtain rfl := Option.some.inj H
              exact ⟨rfl, HS95.sel [] rfl⟩

/-! function 21: valise/code.Check -/
theorem code_Check.calls {S0 : Nat → Prop} {w0 : World} {A_lens_0 : Option Addr} {c_lens_0 : Nat} {l_lens_0 : List Int} {r : Int × Int} (HS0 : Hp S0 w0 w0 [.rd A_lens_0 (rowC (Eint .i64) l_lens_0)]) (hc_lens_0 : l_lens_0.length ≤ c_lens_0) (h : code_Check.f l_lens_0 = some r) :
    Calls Try.prog 21 ([.slice A_lens_0 l_lens_0.length c_lens_0] : List Value).toArray w0 (fun e w => e = .returned (.tuple #[.int .i64 r.1, .int .i64 r.2]) ∧ Hp S0 w0 w []) := by
  have H : (((code_count.f l_lens_0).bind fun (z5, z6) => gd (z5.length = 16) (if z6 ≠ 0 then (some (0, z6)) else ((code_shape.f z5).bind fun z19 => some (z19, 0)))) : Option (Int × Int)) = some r := h
  refine calls_start Try.func21 rfl rfl ?_
  refine L_seq ?_
  refine L_region ?_
  refine F_val rfl rfl rfl (O_assign rfl rfl) ?_
  refine F_val rfl rfl rfl (O_assign rfl rfl) ?_
  refine F_nil ?_
  refine L_seq ?_
  refine L_region ?_
  refine F_val rfl rfl rfl (O_move rfl rfl) ?_
  obtain ⟨⟨z5, z6⟩, h4, H⟩ := of_bind H
  refine F_call (xs := [.tmp 7]) rfl rfl rfl rfl Try.func57 nm57 rfl rfl ((code_count.calls (HS0.give [] rfl (Lent.rd HS0 (Lent.nil) (i := 0) rfl ((HS0.cells_rd (i := 0) rfl).self))) hc_lens_0 h4).mono (fun e w hc => ?_))
  obtain ⟨rfl, HSo⟩ := hc
  refine ⟨.tuple #[.agg (rowC (Eint .i64) z5).toArray, .int .i64 z6], rfl, ?_⟩
  have HS8 : Hp S0 w0 w [.rd A_lens_0 (rowC (Eint .i64) l_lens_0)] := (HS0.back [] HSo rfl).sel [0] rfl
  refine F_val rfl rfl rfl (O_move rfl rfl) ?_
  refine F_val rfl rfl rfl (O_extract (v := .agg (rowC (Eint .i64) z5).toArray) rfl rfl rfl) ?_
  refine F_val rfl rfl rfl (O_extract (v := .int .i64 z6) rfl rfl rfl) ?_
  refine F_alloc (C := rowC (Eint .i64) (List.replicate 16 (0 : Int))) rfl rfl rfl rfl zero82 rfl HS8 (fun w9 g11 HS10 => ?_)
  have HS10 : Hp S0 w0 w9 [.rd A_lens_0 (rowC (Eint .i64) l_lens_0), .box g11 (rowC (Eint .i64) (List.replicate 16 (0 : Int))) 82] := HS10
  obtain ⟨g15, H⟩ := of_gd H
  refine F_stSg 1 (rowC (Eint .i64) z5) [] (rowC (Eint .i64) (List.replicate 16 (0 : Int))) (rowC (Eint .i64) z5) [] rfl rfl rfl rfl rfl size82 HS10 rfl rfl ones_row (by simp only [List.append_assoc, List.cons_append, List.nil_append, List.append_nil]) (by simp only [List.append_assoc, List.cons_append, List.nil_append, List.append_nil]) rfl (row_len List.length_replicate) (row_len g15) (fun w13 HS14 => ?_)
  have HS14 : Hp S0 w0 w13 [.rd A_lens_0 (rowC (Eint .i64) l_lens_0), .box g11 (rowC (Eint .i64) z5) 82] := HS14
  refine F_val rfl rfl rfl (O_assign rfl rfl) ?_
  refine F_nil ?_
  refine L_seq ?_
  refine L_seq ?_
  refine L_region ?_
  refine F_val rfl rfl rfl (O_move rfl rfl) ?_
  refine F_val rfl rfl rfl (O_ne rfl rfl rfl) ?_
  refine F_nil ?_
  refine L_condP rfl (fun c16 => ?_) (fun c16 => ?_)
  · have H := of_pos H c16
    refine L_seq ?_
    refine L_region ?_
    refine F_val rfl rfl rfl (O_move rfl rfl) ?_
    refine F_val rfl rfl rfl (O_assign rfl rfl) ?_
    refine F_val rfl rfl rfl (O_assign rfl rfl) ?_
    refine F_nil ?_
    refine L_ret (fun a ha => (post_ret2 ha rfl rfl rfl ?_))
    obtain rfl := Option.some.inj H
    exact ⟨rfl, HS14.sel [] rfl⟩
  · have H := of_neg H c16
    refine L_skip ?_
    refine L_seq ?_
    refine L_region ?_
    refine F_val rfl rfl rfl (O_loadSg [] (rowC (Eint .i64) z5) [] rfl rfl wide82 (HS14.cells_box (i := 1) rfl) (by simp only [List.append_assoc, List.cons_append, List.nil_append, List.append_nil]) rfl (row_len g15) (by decide)) ?_
    obtain ⟨z19, h18, H⟩ := of_bind H
    refine F_qcall (v := .int .i64 z19) (xs := [.tmp 14]) rfl rfl rfl rfl Try.func58 nm58 rfl rfl ((code_shape.calls (HS14.give [] rfl (Lent.nil)) h18).mono (fun e w hc => ?_)) (fun w20 hw21 => ?_)
    · obtain ⟨rfl, h⟩ := hc
      exact ⟨rfl, h.chg0⟩
    have HS22 := HS14.keep hw21
    refine F_val rfl rfl rfl (O_assign rfl rfl) ?_
    refine F_val rfl rfl rfl (O_assign rfl rfl) ?_
    refine F_nil ?_
    refine L_ret (fun a ha => (post_ret2 ha rfl rfl rfl ?_))
    obtain rfl := Option.some.inj H
    exact ⟨rfl, HS22.sel [] rfl⟩

/-! function 59: valise/valiseref5.valid -/
theorem valiseref5_valid.calls {S0 : Nat → Prop} {w0 : World} {A_lens_0 : Option Addr} {c_lens_0 : Nat} {l_lens_0 : List Int} {r : Int} (HS0 : Hp S0 w0 w0 [.rd A_lens_0 (rowC (Eint .i64) l_lens_0)]) (hc_lens_0 : l_lens_0.length ≤ c_lens_0) (h : valiseref5_valid.f l_lens_0 = some r) :
    Calls Try.prog 59 ([.slice A_lens_0 l_lens_0.length c_lens_0] : List Value).toArray w0 (fun e w => e = .returned (.int .i64 r) ∧ Hp S0 w0 w []) := by
  have H : ((if 288 < (l_lens_0.length : Int) then (some 1) else ((valiseref5_valid.l1 FU 0 l_lens_0).bind fun (yj2 : Sum (Int) (Unit)) => onR yj2 (fun r => some r) fun () => some 0)) : Option (Int)) = some r := h
  refine calls_start Try.func59 rfl rfl ?_
  refine L_seq ?_
  refine L_region ?_
  refine F_val rfl rfl rfl (O_assign rfl rfl) ?_
  refine F_nil ?_
  refine L_seq ?_
  refine L_seq ?_
  refine L_region ?_
  refine F_val rfl rfl rfl (O_move rfl rfl) ?_
  refine F_val rfl rfl rfl (O_len rfl rfl Try.underlying22) ?_
  refine F_val rfl rfl rfl (O_gt rfl rfl rfl) ?_
  refine F_nil ?_
  refine L_condP rfl (fun c1 => ?_) (fun c1 => ?_)
  · have H := of_pos H c1
    refine L_seq ?_
    refine L_region ?_
    refine F_val rfl rfl rfl (O_assign rfl rfl) ?_
    refine F_nil ?_
    refine L_ret (fun a ha => (post_ret1 ha rfl rfl ?_))
    obtain rfl := Option.some.inj H
    exact ⟨rfl, HS0.sel [] rfl⟩
  · have H := of_neg H c1
    refine L_skip ?_
    refine L_seq ?_
    refine L_seq ?_
    refine L_region ?_
    refine F_val rfl rfl rfl (O_assign rfl rfl) ?_
    refine F_nil ?_
    obtain ⟨yj2, Hyj2, H⟩ := of_bind H
    refine L_join (fun a w => yj2 = Sum.inr () ∧ Is Try.f59.ntmps a [] ∧ Hp S0 w0 w [.rd A_lens_0 (rowC (Eint .i64) l_lens_0)]) (fun Qj2 hNj2 hOj2 => ?_) (fun a w hR => ?_)
    · have HOj2 := H
      have H := Hyj2
      refine L_blk (fun Qb42 hNb42 hXb42 hOb42 => ?_)
      refine L_lp (fun k a w => ∃ (i_67 : Int), Is Try.f59.ntmps a [(0, .slice A_lens_0 l_lens_0.length c_lens_0), (3, .int .i64 i_67)] ∧ Hp S0 w0 w [.rd A_lens_0 (rowC (Eint .i64) l_lens_0)] ∧ valiseref5_valid.l1 k i_67 l_lens_0 = some yj2) FU (fun a ha => ⟨_, Is.cons ha (Is.cons ha (Is.nil ha) rfl) rfl, HS0.sel [0] rfl, H⟩) (fun kp66 a w68 hI Qp66 hNp66 hOp66 => ?_)
      obtain ⟨i_67, ha, HS69, HAp66⟩ := hI
      cases kp66 with
      | zero => cases (show (none : Option _) = some _ from HAp66)
      | succ kp66 =>
        have H := (valiseref5_valid.l1.eq_2 ..).symm.trans HAp66
        refine wpLF_app ?_ ha
        refine L_seq ?_
        refine L_seq ?_
        refine L_region ?_
        refine F_val rfl rfl rfl (O_move rfl rfl) ?_
        refine F_val rfl rfl rfl (O_move rfl rfl) ?_
        refine F_val rfl rfl rfl (O_len rfl rfl Try.underlying22) ?_
        refine F_val rfl rfl rfl (O_lt rfl rfl rfl) ?_
        refine F_nil ?_
        refine L_condP rfl (fun c70 => ?_) (fun c70 => ?_)
        · have H := of_pos H c70
          refine L_skip ?_
          refine L_seq ?_
          refine L_blk (fun Q71 hN71 hX71 hO71 => ?_)
          refine L_seq ?_
          refine L_region ?_
          refine F_val rfl rfl rfl (O_move rfl rfl) ?_
          refine F_val rfl rfl rfl (O_move rfl rfl) ?_
          obtain ⟨⟨g72, g73⟩, H⟩ := of_gd H
          refine F_val rfl rfl rfl (O_idx rfl rfl rfl Try.underlying22 size3 g72 g73 (Cells.isA (HS69.cells_rd (i := 0) rfl) (rowC_ne (E := (Eint .i64)) g72 g73 (by decide)))) ?_
          refine F_val rfl rfl rfl (O_loadC rfl rfl flat3 (HS69.cells_rd (i := 0) rfl) (int_cell g72 g73)) ?_
          refine F_val rfl rfl rfl (O_lt rfl rfl rfl) ?_
          refine F_val rfl rfl rfl (O_move rfl rfl) ?_
          refine F_grp 6 [(24, .bool (decide ((rd l_lens_0 i_67 < 0) ∨ (15 < rd l_lens_0 i_67)))), (0, .slice A_lens_0 l_lens_0.length c_lens_0), (3, .int .i64 i_67)] ?_ ?_
          · rcases Decidable.em (rd l_lens_0 i_67 < 0) with c77 | c77
            · refine F_know (i := 18) rfl (dec_t c77) ?_
              refine F_gskip rfl rfl rfl rfl rfl rfl rfl ?_
              refine F_gskip rfl rfl rfl rfl rfl rfl rfl ?_
              refine F_gskip rfl rfl rfl rfl rfl rfl rfl ?_
              refine F_gskip rfl rfl rfl rfl rfl rfl rfl ?_
              refine F_gskip rfl rfl rfl rfl rfl rfl rfl ?_
              refine F_val rfl rfl rfl (O_pickT rfl rfl rfl) ?_
              refine F_know (i := 24) rfl (dec_or_t (q := 15 < rd l_lens_0 i_67) c77) ?_
              exact F_grpE (fun a ha => Is.cons ha (Is.cons ha (Is.cons ha (Is.nil ha) rfl) rfl) rfl)
            · refine F_know (i := 18) rfl (dec_f c77) ?_
              refine F_gval rfl rfl rfl rfl rfl rfl (O_move rfl rfl) ?_
              refine F_gval rfl rfl rfl rfl rfl rfl (O_move rfl rfl) ?_
              refine F_gval rfl rfl rfl rfl rfl rfl (O_idx rfl rfl rfl Try.underlying22 size3 g72 g73 (Cells.isA (HS69.cells_rd (i := 0) rfl) (rowC_ne (E := (Eint .i64)) g72 g73 (by decide)))) ?_
              refine F_gval rfl rfl rfl rfl rfl rfl (O_loadC rfl rfl flat3 (HS69.cells_rd (i := 0) rfl) (int_cell g72 g73)) ?_
              refine F_gval rfl rfl rfl rfl rfl rfl (O_gt rfl rfl rfl) ?_
              refine F_val rfl rfl rfl (O_pickF rfl rfl rfl) ?_
              refine F_know (i := 24) rfl (dec_or_f (q := 15 < rd l_lens_0 i_67) c77) ?_
              exact F_grpE (fun a ha => Is.cons ha (Is.cons ha (Is.cons ha (Is.nil ha) rfl) rfl) rfl)
          · skip
            refine F_nil ?_
            refine L_condP rfl (fun c78 => ?_) (fun c78 => ?_)
            · have H := of_pos H c78
              refine L_seq ?_
              refine L_region ?_
              refine F_val rfl rfl rfl (O_assign rfl rfl) ?_
              refine F_nil ?_
              refine L_ret (fun a ha => (hO71 .ret a _ rfl (hOp66 .ret a _ rfl (hOb42 .ret a _ rfl (hOj2 .ret a _ rfl (post_ret1 ha rfl rfl ?_))))))
              obtain rfl := Option.some.inj H
              obtain rfl := Option.some.inj (show (some 50 : Option (Int)) = some _ from HOj2)
              exact ⟨rfl, HS69.sel [] rfl⟩
            · have H := of_neg H c78
              refine L_skip ?_
              refine L_endB hN71 ?_
              refine L_region ?_
              refine F_val rfl rfl rfl (O_move rfl rfl) ?_
              refine F_val rfl rfl rfl (O_add rfl rfl rfl) ?_
              obtain ⟨x79, h80, H⟩ := of_bnd H
              refine F_val rfl rfl rfl (O_assign' rfl rfl (congrArg (Value.int .i64) h80)) ?_
              refine F_nil ?_
              refine L_nil (fun a ha => hNp66 _ a _ (Nat.lt_succ_self _) ⟨_, Is.cons ha (Is.cons ha (Is.nil ha) rfl) rfl, HS69.sel [0] rfl, H⟩)
        · have H := of_neg H c70
          refine L_exitB (fun a w h => hOp66 (.exit 0) a w rfl (hXb42 a w h)) ?_
          refine L_nil (fun a ha => hNj2 a _ ⟨(Option.some.inj H).symm, Is.nil ha, HS69.sel [0] rfl⟩)
    · obtain ⟨rfl, ha, HS82⟩ := hR
      refine wpLF_app ?_ ha
      have H := (onR_inr _ _ _).symm.trans H
      refine L_seq ?_
      refine L_region ?_
      refine F_val rfl rfl rfl (O_assign rfl rfl) ?_
      refine F_nil ?_
      refine L_ret (fun a ha => (post_ret1 ha rfl rfl ?_))
      obtain rfl := Option.some.inj H
      exact ⟨rfl, HS82.sel [] rfl⟩

/-! function 74: valise/valiseref5.rows -/
theorem valiseref5_rows.calls {S0 : Nat → Prop} {w0 : World} {l_0 : Int} {r : Int} (HS0 : Hp S0 w0 w0 []) (h : valiseref5_rows.f l_0 = some r) :
    Calls Try.prog 74 ([.int .i64 l_0] : List Value).toArray w0 (fun e w => e = .returned (.int .i64 r) ∧ Hp S0 w0 w []) := by
  have H : (((valiseref5_rows.l1 FU 1 l_0 ).bind fun n_28 => some n_28) : Option (Int)) = some r := h
  refine calls_start Try.func74 rfl rfl ?_
  refine L_seq ?_
  refine L_region ?_
  refine F_val rfl rfl rfl (O_assign rfl rfl) ?_
  refine F_nil ?_
  refine L_seq ?_
  refine L_region ?_
  refine F_val rfl rfl rfl (O_assign rfl rfl) ?_
  refine F_nil ?_
  refine L_seq ?_
  refine L_seq ?_
  refine L_region ?_
  refine F_val rfl rfl rfl (O_move rfl rfl) ?_
  refine F_val rfl rfl rfl (O_assign rfl rfl) ?_
  refine F_nil ?_
  obtain ⟨yj1, Hyj1, H⟩ := of_bind H
  refine L_join (fun a w => ∃ (n_28 : Int), yj1 = n_28 ∧ Is Try.f74.ntmps a [(3, .int .i64 n_28)] ∧ Hp S0 w0 w []) (fun Qj1 hNj1 hOj1 => ?_) (fun a w hR => ?_)
  · skip
    have H := Hyj1
    refine L_blk (fun Qb29 hNb29 hXb29 hOb29 => ?_)
    refine L_lp (fun k a w => ∃ (n_45 : Int), ∃ (i_46 : Int), Is Try.f74.ntmps a [(3, .int .i64 n_45), (4, .int .i64 i_46)] ∧ Hp S0 w0 w [] ∧ valiseref5_rows.l1 k n_45 i_46  = some yj1) FU (fun a ha => ⟨_, _, Is.cons ha (Is.cons ha (Is.nil ha) rfl) rfl, HS0.sel [] rfl, H⟩) (fun kp44 a w47 hI Qp44 hNp44 hOp44 => ?_)
    obtain ⟨n_45, i_46, ha, HS48, HAp44⟩ := hI
    cases kp44 with
    | zero => cases (show (none : Option _) = some _ from HAp44)
    | succ kp44 =>
      have H := (valiseref5_rows.l1.eq_2 ..).symm.trans HAp44
      refine wpLF_app ?_ ha
      refine L_seq ?_
      refine L_seq ?_
      refine L_region ?_
      refine F_val rfl rfl rfl (O_move rfl rfl) ?_
      refine F_val rfl rfl rfl (O_lt rfl rfl rfl) ?_
      refine F_nil ?_
      refine L_condP rfl (fun c49 => ?_) (fun c49 => ?_)
      · have H := of_pos H c49
        refine L_skip ?_
        refine L_seq ?_
        refine L_blk (fun Q50 hN50 hX50 hO50 => ?_)
        refine L_region ?_
        refine F_val rfl rfl rfl (O_move rfl rfl) ?_
        refine F_val rfl rfl rfl (O_mul rfl rfl rfl) ?_
        obtain ⟨x51, h52, H⟩ := of_bnd H
        refine F_val rfl rfl rfl (O_assign' rfl rfl (congrArg (Value.int .i64) h52)) ?_
        refine F_nil ?_
        refine L_endB hN50 ?_
        refine L_region ?_
        refine F_val rfl rfl rfl (O_move rfl rfl) ?_
        refine F_val rfl rfl rfl (O_add rfl rfl rfl) ?_
        obtain ⟨x53, h54, H⟩ := of_bnd H
        refine F_val rfl rfl rfl (O_assign' rfl rfl (congrArg (Value.int .i64) h54)) ?_
        refine F_nil ?_
        refine L_nil (fun a ha => hNp44 _ a _ (Nat.lt_succ_self _) ⟨_, _, Is.cons ha (Is.cons ha (Is.nil ha) rfl) rfl, HS48.sel [] rfl, H⟩)
      · have H := of_neg H c49
        refine L_exitB (fun a w h => hOp44 (.exit 0) a w rfl (hXb29 a w h)) ?_
        refine L_nil (fun a ha => hNj1 a _ ⟨_, (Option.some.inj H).symm, Is.cons ha (Is.nil ha) rfl, HS48.sel [] rfl⟩)
  · obtain ⟨n_28, ej, ha, HS56⟩ := hR
    obtain rfl := ej.symm
    refine wpLF_app ?_ ha
    refine L_seq ?_
    refine L_region ?_
    refine F_val rfl rfl rfl (O_move rfl rfl) ?_
    refine F_val rfl rfl rfl (O_assign rfl rfl) ?_
    refine F_nil ?_
    refine L_ret (fun a ha => (post_ret1 ha rfl rfl ?_))
    obtain rfl := Option.some.inj H
    exact ⟨rfl, HS56.sel [] rfl⟩

/-! function 60: valise/valiseref5.used -/
theorem valiseref5_used.calls {S0 : Nat → Prop} {w0 : World} {A_lens_0 : Option Addr} {c_lens_0 : Nat} {l_lens_0 : List Int} {r : Int × Int} (HS0 : Hp S0 w0 w0 [.rd A_lens_0 (rowC (Eint .i64) l_lens_0)]) (hc_lens_0 : l_lens_0.length ≤ c_lens_0) (h : valiseref5_used.f l_lens_0 = some r) :
    Calls Try.prog 60 ([.slice A_lens_0 l_lens_0.length c_lens_0] : List Value).toArray w0 (fun e w => e = .returned (.tuple #[.int .i64 r.1, .int .i64 r.2]) ∧ Hp S0 w0 w []) := by
  have H : (((valiseref5_used.l1 FU 0 0 0 l_lens_0).bind fun (sum_111, n_112) => some (sum_111, n_112)) : Option (Int × Int)) = some r := h
  refine calls_start Try.func60 rfl rfl ?_
  refine L_seq ?_
  refine L_region ?_
  refine F_val rfl rfl rfl (O_assign rfl rfl) ?_
  refine F_val rfl rfl rfl (O_assign rfl rfl) ?_
  refine F_nil ?_
  refine L_seq ?_
  refine L_region ?_
  refine F_val rfl rfl rfl (O_assign rfl rfl) ?_
  refine F_nil ?_
  refine L_seq ?_
  refine L_region ?_
  refine F_val rfl rfl rfl (O_assign rfl rfl) ?_
  refine F_nil ?_
  refine L_seq ?_
  refine L_seq ?_
  refine L_region ?_
  refine F_val rfl rfl rfl (O_assign rfl rfl) ?_
  refine F_nil ?_
  obtain ⟨yj1, Hyj1, H⟩ := of_bind H
  refine L_join (fun a w => ∃ (sum_111 : Int), ∃ (n_112 : Int), yj1 = (sum_111, n_112) ∧ Is Try.f60.ntmps a [(4, .int .i64 sum_111), (5, .int .i64 n_112)] ∧ Hp S0 w0 w [.rd A_lens_0 (rowC (Eint .i64) l_lens_0)]) (fun Qj1 hNj1 hOj1 => ?_) (fun a w hR => ?_)
  · skip
    have H := Hyj1
    refine L_blk (fun Qb113 hNb113 hXb113 hOb113 => ?_)
    refine L_lp (fun k a w => ∃ (sum_184 : Int), ∃ (n_185 : Int), ∃ (i_186 : Int), Is Try.f60.ntmps a [(0, .slice A_lens_0 l_lens_0.length c_lens_0), (4, .int .i64 sum_184), (5, .int .i64 n_185), (6, .int .i64 i_186)] ∧ Hp S0 w0 w [.rd A_lens_0 (rowC (Eint .i64) l_lens_0)] ∧ valiseref5_used.l1 k sum_184 n_185 i_186 l_lens_0 = some yj1) FU (fun a ha => ⟨_, _, _, Is.cons ha (Is.cons ha (Is.cons ha (Is.cons ha (Is.nil ha) rfl) rfl) rfl) rfl, HS0.sel [0] rfl, H⟩) (fun kp183 a w187 hI Qp183 hNp183 hOp183 => ?_)
    obtain ⟨sum_184, n_185, i_186, ha, HS188, HAp183⟩ := hI
    cases kp183 with
    | zero => cases (show (none : Option _) = some _ from HAp183)
    | succ kp183 =>
      have H := (valiseref5_used.l1.eq_2 ..).symm.trans HAp183
      refine wpLF_app ?_ ha
      refine L_seq ?_
      refine L_seq ?_
      refine L_region ?_
      refine F_val rfl rfl rfl (O_move rfl rfl) ?_
      refine F_val rfl rfl rfl (O_move rfl rfl) ?_
      refine F_val rfl rfl rfl (O_len rfl rfl Try.underlying22) ?_
      refine F_val rfl rfl rfl (O_lt rfl rfl rfl) ?_
      refine F_nil ?_
      refine L_condP rfl (fun c189 => ?_) (fun c189 => ?_)
      · have H := of_pos H c189
        refine L_skip ?_
        refine L_seq ?_
        refine L_blk (fun Q190 hN190 hX190 hO190 => ?_)
        refine L_seq ?_
        refine L_region ?_
        refine F_val rfl rfl rfl (O_move rfl rfl) ?_
        refine F_val rfl rfl rfl (O_move rfl rfl) ?_
        obtain ⟨⟨g191, g192⟩, H⟩ := of_gd H
        refine F_val rfl rfl rfl (O_idx rfl rfl rfl Try.underlying22 size3 g191 g192 (Cells.isA (HS188.cells_rd (i := 0) rfl) (rowC_ne (E := (Eint .i64)) g191 g192 (by decide)))) ?_
        refine F_val rfl rfl rfl (O_loadC rfl rfl flat3 (HS188.cells_rd (i := 0) rfl) (int_cell g191 g192)) ?_
        refine F_val rfl rfl rfl (O_gt rfl rfl rfl) ?_
        refine F_nil ?_
        obtain ⟨yj193, Hyj193, H⟩ := of_bind H
        refine L_join (fun a w => ∃ (sum_205 : Int), ∃ (n_206 : Int), yj193 = (sum_205, n_206) ∧ Is Try.f60.ntmps a [(0, .slice A_lens_0 l_lens_0.length c_lens_0), (4, .int .i64 sum_205), (5, .int .i64 n_206), (6, .int .i64 i_186)] ∧ Hp S0 w0 w [.rd A_lens_0 (rowC (Eint .i64) l_lens_0)]) (fun Qj193 hNj193 hOj193 => ?_) (fun a w hR => ?_)
        · skip
          have H := Hyj193
          refine L_condP rfl (fun c207 => ?_) (fun c207 => ?_)
          · have H := of_pos H c207
            refine L_seq ?_
            refine L_region ?_
            refine F_val rfl rfl rfl (O_move rfl rfl) ?_
            refine F_val rfl rfl rfl (O_move rfl rfl) ?_
            refine F_val rfl rfl rfl (O_move rfl rfl) ?_
            refine F_val rfl rfl rfl (O_idx rfl rfl rfl Try.underlying22 size3 g191 g192 (Cells.isA (HS188.cells_rd (i := 0) rfl) (rowC_ne (E := (Eint .i64)) g191 g192 (by decide)))) ?_
            refine F_val rfl rfl rfl (O_loadC rfl rfl flat3 (HS188.cells_rd (i := 0) rfl) (int_cell g191 g192)) ?_
            obtain ⟨z210, h209, H⟩ := of_bind H
            refine F_qcall (v := .int .i64 z210) (xs := [.tmp 22]) rfl rfl rfl rfl Try.func74 nm74 rfl rfl ((valiseref5_rows.calls (HS188.give [] rfl (Lent.nil)) h209).mono (fun e w hc => ?_)) (fun w211 hw212 => ?_)
            · obtain ⟨rfl, h⟩ := hc
              exact ⟨rfl, h.chg0⟩
            have HS213 := HS188.keep hw212
            refine F_val rfl rfl rfl (O_add rfl rfl rfl) ?_
            obtain ⟨x214, h215, H⟩ := of_bnd H
            refine F_val rfl rfl rfl (O_assign' rfl rfl (congrArg (Value.int .i64) h215)) ?_
            refine F_nil ?_
            refine L_region ?_
            refine F_val rfl rfl rfl (O_move rfl rfl) ?_
            refine F_val rfl rfl rfl (O_add rfl rfl rfl) ?_
            obtain ⟨x216, h217, H⟩ := of_bnd H
            refine F_val rfl rfl rfl (O_assign' rfl rfl (congrArg (Value.int .i64) h217)) ?_
            refine F_nil ?_
            refine L_nil (fun a ha => hNj193 a _ ⟨_, _, (Option.some.inj H).symm, Is.cons ha (Is.cons ha (Is.cons ha (Is.cons ha (Is.nil ha) rfl) rfl) rfl) rfl, HS213.sel [0] rfl⟩)
          · have H := of_neg H c207
            refine L_skip ?_
            refine L_nil (fun a ha => hNj193 a _ ⟨_, _, (Option.some.inj H).symm, Is.cons ha (Is.cons ha (Is.cons ha (Is.cons ha (Is.nil ha) rfl) rfl) rfl) rfl, HS188.sel [0] rfl⟩)
        · obtain ⟨sum_205, n_206, rfl, ha, HS219⟩ := hR
          refine wpLF_app ?_ ha
          refine L_endB hN190 ?_
          refine L_region ?_
          refine F_val rfl rfl rfl (O_move rfl rfl) ?_
          refine F_val rfl rfl rfl (O_add rfl rfl rfl) ?_
          obtain ⟨x220, h221, H⟩ := of_bnd H
          refine F_val rfl rfl rfl (O_assign' rfl rfl (congrArg (Value.int .i64) h221)) ?_
          refine F_nil ?_
          refine L_nil (fun a ha => hNp183 _ a _ (Nat.lt_succ_self _) ⟨_, _, _, Is.cons ha (Is.cons ha (Is.cons ha (Is.cons ha (Is.nil ha) rfl) rfl) rfl) rfl, HS219.sel [0] rfl, H⟩)
      · have H := of_neg H c189
        refine L_exitB (fun a w h => hOp183 (.exit 0) a w rfl (hXb113 a w h)) ?_
        refine L_nil (fun a ha => hNj1 a _ ⟨_, _, (Option.some.inj H).symm, Is.cons ha (Is.cons ha (Is.nil ha) rfl) rfl, HS188.sel [0] rfl⟩)
  · obtain ⟨sum_111, n_112, rfl, ha, HS223⟩ := hR
    refine wpLF_app ?_ ha
    refine L_seq ?_
    refine L_region ?_
    refine F_val rfl rfl rfl (O_move rfl rfl) ?_
    refine F_val rfl rfl rfl (O_move rfl rfl) ?_
    refine F_val rfl rfl rfl (O_assign rfl rfl) ?_
    refine F_val rfl rfl rfl (O_assign rfl rfl) ?_
    refine F_nil ?_
    refine L_ret (fun a ha => (post_ret2 ha rfl rfl rfl ?_))
    obtain rfl := Option.some.inj H
    exact ⟨rfl, HS223.sel [] rfl⟩

/-! function 22: valise/valiseref5.Check -/
theorem valiseref5_Check.calls {S0 : Nat → Prop} {w0 : World} {A_lens_0 : Option Addr} {c_lens_0 : Nat} {l_lens_0 : List Int} {r : Int × Int} (HS0 : Hp S0 w0 w0 [.rd A_lens_0 (rowC (Eint .i64) l_lens_0)]) (hc_lens_0 : l_lens_0.length ≤ c_lens_0) (h : valiseref5_Check.f l_lens_0 = some r) :
    Calls Try.prog 22 ([.slice A_lens_0 l_lens_0.length c_lens_0] : List Value).toArray w0 (fun e w => e = .returned (.tuple #[.int .i64 r.1, .int .i64 r.2]) ∧ Hp S0 w0 w []) := by
  have H : (((valiseref5_valid.f l_lens_0).bind fun z3 => if z3 ≠ 0 then (some (0, z3)) else ((valiseref5_used.f l_lens_0).bind fun (z10, z11) => if z11 = 0 then (some (0, 0)) else (if (z11 = 1) ∧ (z10 = 16384) then (some (1, 0)) else (if 32768 < z10 then (some (3, 0)) else (if z10 = 32768 then (some (4, 0)) else (some (2, 0))))))) : Option (Int × Int)) = some r := h
  refine calls_start Try.func22 rfl rfl ?_
  refine L_seq ?_
  refine L_region ?_
  refine F_val rfl rfl rfl (O_assign rfl rfl) ?_
  refine F_val rfl rfl rfl (O_assign rfl rfl) ?_
  refine F_nil ?_
  refine L_seq ?_
  refine L_region ?_
  refine F_val rfl rfl rfl (O_move rfl rfl) ?_
  obtain ⟨z3, h2, H⟩ := of_bind H
  refine F_qcall (v := .int .i64 z3) (xs := [.tmp 7]) rfl rfl rfl rfl Try.func59 nm59 rfl rfl ((valiseref5_valid.calls (HS0.give [] rfl (Lent.rd HS0 (Lent.nil) (i := 0) rfl ((HS0.cells_rd (i := 0) rfl).self))) hc_lens_0 h2).mono (fun e w hc => ?_)) (fun w4 hw5 => ?_)
  · obtain ⟨rfl, h⟩ := hc
    exact ⟨rfl, h.chg0⟩
  have HS6 := HS0.keep hw5
  refine F_val rfl rfl rfl (O_assign rfl rfl) ?_
  refine F_nil ?_
  refine L_seq ?_
  refine L_seq ?_
  refine L_region ?_
  refine F_val rfl rfl rfl (O_move rfl rfl) ?_
  refine F_val rfl rfl rfl (O_ne rfl rfl rfl) ?_
  refine F_nil ?_
  refine L_condP rfl (fun c7 => ?_) (fun c7 => ?_)
  · have H := of_pos H c7
    refine L_seq ?_
    refine L_region ?_
    refine F_val rfl rfl rfl (O_move rfl rfl) ?_
    refine F_val rfl rfl rfl (O_assign rfl rfl) ?_
    refine F_val rfl rfl rfl (O_assign rfl rfl) ?_
    refine F_nil ?_
    refine L_ret (fun a ha => (post_ret2 ha rfl rfl rfl ?_))
    obtain rfl := Option.some.inj H
    exact ⟨rfl, HS6.sel [] rfl⟩
  · have H := of_neg H c7
    refine L_skip ?_
    refine L_seq ?_
    refine L_region ?_
    refine F_val rfl rfl rfl (O_move rfl rfl) ?_
    obtain ⟨⟨z10, z11⟩, h9, H⟩ := of_bind H
    refine F_qcall (v := .tuple #[.int .i64 z10, .int .i64 z11]) (xs := [.tmp 13]) rfl rfl rfl rfl Try.func60 nm60 rfl rfl ((valiseref5_used.calls (HS6.give [] rfl (Lent.rd HS6 (Lent.nil) (i := 0) rfl ((HS6.cells_rd (i := 0) rfl).self))) hc_lens_0 h9).mono (fun e w hc => ?_)) (fun w12 hw13 => ?_)
    · obtain ⟨rfl, h⟩ := hc
      exact ⟨rfl, h.chg0⟩
    have HS14 := HS6.keep hw13
    refine F_val rfl rfl rfl (O_move rfl rfl) ?_
    refine F_val rfl rfl rfl (O_extract (v := .int .i64 z10) rfl rfl rfl) ?_
    refine F_val rfl rfl rfl (O_extract (v := .int .i64 z11) rfl rfl rfl) ?_
    refine F_val rfl rfl rfl (O_assign rfl rfl) ?_
    refine F_val rfl rfl rfl (O_assign rfl rfl) ?_
    refine F_nil ?_
    refine L_seq ?_
    refine L_blk (fun Q15 hN15 hX15 hO15 => ?_)
    refine L_seq ?_
    refine L_region ?_
    refine F_val rfl rfl rfl (O_move rfl rfl) ?_
    refine F_val rfl rfl rfl (O_eq rfl rfl rfl) ?_
    refine F_val rfl rfl rfl (O_assign rfl rfl) ?_
    refine F_nil ?_
    refine L_condP rfl (fun c16 => ?_) (fun c16 => ?_)
    · have H := of_pos H c16
      refine L_seq ?_
      refine L_region ?_
      refine F_val rfl rfl rfl (O_assign rfl rfl) ?_
      refine F_val rfl rfl rfl (O_assign rfl rfl) ?_
      refine F_nil ?_
      refine L_ret (fun a ha => (hO15 .ret a _ rfl (post_ret2 ha rfl rfl rfl ?_)))
      obtain rfl := Option.some.inj H
      exact ⟨rfl, HS14.sel [] rfl⟩
    · have H := of_neg H c16
      refine L_seq ?_
      refine L_region ?_
      refine F_val rfl rfl rfl (O_move rfl rfl) ?_
      refine F_val rfl rfl rfl (O_eq rfl rfl rfl) ?_
      refine F_val rfl rfl rfl (O_move rfl rfl) ?_
      refine F_grp 3 [(26, .bool (decide ((z11 = 1) ∧ (z10 = 16384)))), (5, .int .i64 z10)] ?_ ?_
      · rcases Decidable.em (z11 = 1) with c20 | c20
        · refine F_know (i := 23) rfl (dec_t c20) ?_
          refine F_gval rfl rfl rfl rfl rfl rfl (O_move rfl rfl) ?_
          refine F_gval rfl rfl rfl rfl rfl rfl (O_eq rfl rfl rfl) ?_
          refine F_val rfl rfl rfl (O_pickT rfl rfl rfl) ?_
          refine F_know (i := 26) rfl (dec_and_t (q := z10 = 16384) c20) ?_
          exact F_grpE (fun a ha => Is.cons ha (Is.cons ha (Is.nil ha) rfl) rfl)
        · refine F_know (i := 23) rfl (dec_f c20) ?_
          refine F_gskip rfl rfl rfl rfl rfl rfl rfl ?_
          refine F_gskip rfl rfl rfl rfl rfl rfl rfl ?_
          refine F_val rfl rfl rfl (O_pickF rfl rfl rfl) ?_
          refine F_know (i := 26) rfl (dec_and_f (q := z10 = 16384) c20) ?_
          exact F_grpE (fun a ha => Is.cons ha (Is.cons ha (Is.nil ha) rfl) rfl)
      · skip
        refine F_val rfl rfl rfl (O_assign rfl rfl) ?_
        refine F_nil ?_
        refine L_condP rfl (fun c21 => ?_) (fun c21 => ?_)
        · have H := of_pos H c21
          refine L_seq ?_
          refine L_region ?_
          refine F_val rfl rfl rfl (O_assign rfl rfl) ?_
          refine F_val rfl rfl rfl (O_assign rfl rfl) ?_
          refine F_nil ?_
          refine L_ret (fun a ha => (hO15 .ret a _ rfl (post_ret2 ha rfl rfl rfl ?_)))
          obtain rfl := Option.some.inj H
          exact ⟨rfl, HS14.sel [] rfl⟩
        · have H := of_neg H c21
          refine L_seq ?_
          refine L_region ?_
          refine F_val rfl rfl rfl (O_move rfl rfl) ?_
          refine F_val rfl rfl rfl (O_gt rfl rfl rfl) ?_
          refine F_val rfl rfl rfl (O_assign rfl rfl) ?_
          refine F_nil ?_
          refine L_condP rfl (fun c22 => ?_) (fun c22 => ?_)
          · have H := of_pos H c22
            refine L_seq ?_
            refine L_region ?_
            refine F_val rfl rfl rfl (O_assign rfl rfl) ?_
            refine F_val rfl rfl rfl (O_assign rfl rfl) ?_
            refine F_nil ?_
            refine L_ret (fun a ha => (hO15 .ret a _ rfl (post_ret2 ha rfl rfl rfl ?_)))
            obtain rfl := Option.some.inj H
            exact ⟨rfl, HS14.sel [] rfl⟩
          · have H := of_neg H c22
            refine L_seq ?_
            refine L_region ?_
            refine F_val rfl rfl rfl (O_move rfl rfl) ?_
            refine F_val rfl rfl rfl (O_eq rfl rfl rfl) ?_
            refine F_val rfl rfl rfl (O_assign rfl rfl) ?_
            refine F_nil ?_
            refine L_condP rfl (fun c23 => ?_) (fun c23 => ?_)
            · have H := of_pos H c23
              refine L_seq ?_
              refine L_region ?_
              refine F_val rfl rfl rfl (O_assign rfl rfl) ?_
              refine F_val rfl rfl rfl (O_assign rfl rfl) ?_
              refine F_nil ?_
              refine L_ret (fun a ha => (hO15 .ret a _ rfl (post_ret2 ha rfl rfl rfl ?_)))
              obtain rfl := Option.some.inj H
              exact ⟨rfl, HS14.sel [] rfl⟩
            · have H := of_neg H c23
              refine L_skip ?_
              refine L_endB hN15 ?_
              refine L_seq ?_
              refine L_region ?_
              refine F_val rfl rfl rfl (O_assign rfl rfl) ?_
              refine F_val rfl rfl rfl (O_assign rfl rfl) ?_
              refine F_nil ?_
              refine L_ret (fun a ha => (post_ret2 ha rfl rfl rfl ?_))
              obtain rfl := Option.some.inj H
              exact ⟨rfl, HS14.sel [] rfl⟩

/-! function 23: valise/valiselaw5.num -/
theorem valiselaw5_num.calls {S0 : Nat → Prop} {w0 : World} {e_0 : Int} {r : Int} (HS0 : Hp S0 w0 w0 []) (h : valiselaw5_num.f e_0 = some r) :
    Calls Try.prog 23 ([.int .i64 e_0] : List Value).toArray w0 (fun e w => e = .returned (.int .i64 r) ∧ Hp S0 w0 w []) := by
  have H : ((some e_0) : Option (Int)) = some r := h
  refine calls_start Try.func23 rfl rfl ?_
  refine L_seq ?_
  refine L_region ?_
  refine F_val rfl rfl rfl (O_assign rfl rfl) ?_
  refine F_nil ?_
  refine L_seq ?_
  refine L_region ?_
  refine F_val rfl rfl rfl (O_move rfl rfl) ?_
  refine F_val rfl rfl rfl (O_assign rfl rfl) ?_
  refine F_nil ?_
  refine L_ret (fun a ha => (post_ret1 ha rfl rfl ?_))
  obtain rfl := Option.some.inj H
  exact ⟨rfl, HS0.sel [] rfl⟩

/-! function 15: valise/valiselaw5.same -/
theorem valiselaw5_same.calls {S0 : Nat → Prop} {w0 : World} {A_a_0 : Option Addr} {c_a_0 : Nat} {A_b_1 : Option Addr} {c_b_1 : Nat} {l_a_0 : List Int} {l_b_1 : List Int} {r : Bool} (HS0 : Hp S0 w0 w0 [.rd A_a_0 (rowC (Eint .i64) l_a_0), .rd A_b_1 (rowC (Eint .i64) l_b_1)]) (hc_a_0 : l_a_0.length ≤ c_a_0) (hc_b_1 : l_b_1.length ≤ c_b_1) (h : valiselaw5_same.f l_a_0 l_b_1 = some r) :
    Calls Try.prog 15 ([.slice A_a_0 l_a_0.length c_a_0, .slice A_b_1 l_b_1.length c_b_1] : List Value).toArray w0 (fun e w => e = .returned (.bool r) ∧ Hp S0 w0 w []) := by
  have H : ((if (l_a_0.length : Int) ≠ (l_b_1.length : Int) then (some false) else ((valiselaw5_same.l1 FU 0 l_a_0 l_b_1).bind fun (yj2 : Sum (Bool) (Unit)) => onR yj2 (fun r => some r) fun () => some true)) : Option (Bool)) = some r := h
  refine calls_start Try.func15 rfl rfl ?_
  refine L_seq ?_
  refine L_region ?_
  refine F_val rfl rfl rfl (O_assign rfl rfl) ?_
  refine F_nil ?_
  refine L_seq ?_
  refine L_seq ?_
  refine L_region ?_
  refine F_val rfl rfl rfl (O_move rfl rfl) ?_
  refine F_val rfl rfl rfl (O_len rfl rfl Try.underlying22) ?_
  refine F_val rfl rfl rfl (O_move rfl rfl) ?_
  refine F_val rfl rfl rfl (O_len rfl rfl Try.underlying22) ?_
  refine F_val rfl rfl rfl (O_ne rfl rfl rfl) ?_
  refine F_nil ?_
  refine L_condP rfl (fun c1 => ?_) (fun c1 => ?_)
  · have H := of_pos H c1
    refine L_seq ?_
    refine L_region ?_
    refine F_val rfl rfl rfl (O_assign rfl rfl) ?_
    refine F_nil ?_
    refine L_ret (fun a ha => (post_ret1 ha rfl rfl ?_))
    obtain rfl := Option.some.inj H
    exact ⟨rfl, HS0.sel [] rfl⟩
  · have H := of_neg H c1
    refine L_skip ?_
    refine L_seq ?_
    refine L_seq ?_
    refine L_region ?_
    refine F_val rfl rfl rfl (O_assign rfl rfl) ?_
    refine F_nil ?_
    obtain ⟨yj2, Hyj2, H⟩ := of_bind H
    refine L_join (fun a w => yj2 = Sum.inr () ∧ Is Try.f15.ntmps a [] ∧ Hp S0 w0 w [.rd A_a_0 (rowC (Eint .i64) l_a_0), .rd A_b_1 (rowC (Eint .i64) l_b_1)]) (fun Qj2 hNj2 hOj2 => ?_) (fun a w hR => ?_)
    · have HOj2 := H
      have H := Hyj2
      refine L_blk (fun Qb45 hNb45 hXb45 hOb45 => ?_)
      refine L_lp (fun k a w => ∃ (i_72 : Int), Is Try.f15.ntmps a [(0, .slice A_a_0 l_a_0.length c_a_0), (1, .slice A_b_1 l_b_1.length c_b_1), (5, .int .i64 i_72)] ∧ Hp S0 w0 w [.rd A_a_0 (rowC (Eint .i64) l_a_0), .rd A_b_1 (rowC (Eint .i64) l_b_1)] ∧ valiselaw5_same.l1 k i_72 l_a_0 l_b_1 = some yj2) FU (fun a ha => ⟨_, Is.cons ha (Is.cons ha (Is.cons ha (Is.nil ha) rfl) rfl) rfl, HS0.sel [0, 1] rfl, H⟩) (fun kp71 a w73 hI Qp71 hNp71 hOp71 => ?_)
      obtain ⟨i_72, ha, HS74, HAp71⟩ := hI
      cases kp71 with
      | zero => cases (show (none : Option _) = some _ from HAp71)
      | succ kp71 =>
        have H := (valiselaw5_same.l1.eq_2 ..).symm.trans HAp71
        refine wpLF_app ?_ ha
        refine L_seq ?_
        refine L_seq ?_
        refine L_region ?_
        refine F_val rfl rfl rfl (O_move rfl rfl) ?_
        refine F_val rfl rfl rfl (O_move rfl rfl) ?_
        refine F_val rfl rfl rfl (O_len rfl rfl Try.underlying22) ?_
        refine F_val rfl rfl rfl (O_lt rfl rfl rfl) ?_
        refine F_nil ?_
        refine L_condP rfl (fun c75 => ?_) (fun c75 => ?_)
        · have H := of_pos H c75
          refine L_skip ?_
          refine L_seq ?_
          refine L_blk (fun Q76 hN76 hX76 hO76 => ?_)
          refine L_seq ?_
          refine L_quiet mix (by kernel_rfl) ?_
          refine Q_val rfl rfl rfl (fun wq hq => O_move rfl rfl) ?_
          refine Q_val rfl rfl rfl (fun wq hq => O_move rfl rfl) ?_
          obtain ⟨⟨g77, g78⟩, H⟩ := of_gd H
          refine Q_val rfl rfl rfl (fun wq hq => O_idx rfl rfl rfl Try.underlying22 size3 g77 g78 (Cells.isA ((HS74.keep hq).cells_rd (i := 0) rfl) (rowC_ne (E := (Eint .i64)) g77 g78 (by decide)))) ?_
          refine Q_val rfl rfl rfl (fun wq hq => O_loadC rfl rfl flat3 ((HS74.keep hq).cells_rd (i := 0) rfl) (int_cell g77 g78)) ?_
          refine Q_val rfl rfl rfl (fun wq hq => O_move rfl rfl) ?_
          refine Q_val rfl rfl rfl (fun wq hq => O_move rfl rfl) ?_
          obtain ⟨⟨g79, g80⟩, H⟩ := of_gd H
          refine Q_val rfl rfl rfl (fun wq hq => O_idx rfl rfl rfl Try.underlying22 size3 g79 g80 (Cells.isA ((HS74.keep hq).cells_rd (i := 1) rfl) (rowC_ne (E := (Eint .i64)) g79 g80 (by decide)))) ?_
          refine Q_val rfl rfl rfl (fun wq hq => O_loadC rfl rfl flat3 ((HS74.keep hq).cells_rd (i := 1) rfl) (int_cell g79 g80)) ?_
          refine Q_val rfl rfl rfl (fun wq hq => O_ne rfl rfl rfl) ?_
          refine Q_nil (fun w81 hw82 => ?_)
          have HS83 := HS74.keep hw82
          refine L_condP rfl (fun c84 => ?_) (fun c84 => ?_)
          · have H := of_pos H c84
            refine L_seq ?_
            refine L_region ?_
            refine F_val rfl rfl rfl (O_assign rfl rfl) ?_
            refine F_nil ?_
            refine L_ret (fun a ha => (hO76 .ret a _ rfl (hOp71 .ret a _ rfl (hOb45 .ret a _ rfl (hOj2 .ret a _ rfl (post_ret1 ha rfl rfl ?_))))))
            obtain rfl := Option.some.inj H
            obtain rfl := Option.some.inj (show (some false : Option (Bool)) = some _ from HOj2)
            exact ⟨rfl, HS83.sel [] rfl⟩
          · have H := of_neg H c84
            refine L_skip ?_
            refine L_endB hN76 ?_
            refine L_region ?_
            refine F_val rfl rfl rfl (O_move rfl rfl) ?_
            refine F_val rfl rfl rfl (O_add rfl rfl rfl) ?_
            obtain ⟨x85, h86, H⟩ := of_bnd H
            refine F_val rfl rfl rfl (O_assign' rfl rfl (congrArg (Value.int .i64) h86)) ?_
            refine F_nil ?_
            refine L_nil (fun a ha => hNp71 _ a _ (Nat.lt_succ_self _) ⟨_, Is.cons ha (Is.cons ha (Is.cons ha (Is.nil ha) rfl) rfl) rfl, HS83.sel [0, 1] rfl, H⟩)
        · have H := of_neg H c75
          refine L_exitB (fun a w h => hOp71 (.exit 0) a w rfl (hXb45 a w h)) ?_
          refine L_nil (fun a ha => hNj2 a _ ⟨(Option.some.inj H).symm, Is.nil ha, HS74.sel [0, 1] rfl⟩)
    · obtain ⟨rfl, ha, HS88⟩ := hR
      refine wpLF_app ?_ ha
      have H := (onR_inr _ _ _).symm.trans H
      refine L_seq ?_
      refine L_region ?_
      refine F_val rfl rfl rfl (O_assign rfl rfl) ?_
      refine F_nil ?_
      refine L_ret (fun a ha => (post_ret1 ha rfl rfl ?_))
      obtain rfl := Option.some.inj H
      exact ⟨rfl, HS88.sel [] rfl⟩

/-! function 24: valise/valiselaw5.whole -/
theorem valiselaw5_whole.calls {S0 : Nat → Prop} {w0 : World} {A_m_0 : Option Addr} {c_m_0 : Nat} {A_l_1 : Option Addr} {c_l_1 : Nat} {l_m_0 : List Int} {l_l_1 : List Int} {r : Bool} (HS0 : Hp S0 w0 w0 [.rd A_m_0 (rowC (Eint .i64) l_m_0), .rd A_l_1 (rowC (Eint .i64) l_l_1)]) (hc_m_0 : l_m_0.length ≤ c_m_0) (hc_l_1 : l_l_1.length ≤ c_l_1) (h : valiselaw5_whole.f l_m_0 l_l_1 = some r) :
    Calls Try.prog 24 ([.slice A_m_0 l_m_0.length c_m_0, .slice A_l_1 l_l_1.length c_l_1] : List Value).toArray w0 (fun e w => e = .returned (.bool r) ∧ Hp S0 w0 w []) := by
  have H : ((bnd ((l_l_1.length : Int)) fun x1 => (if (l_m_0.length : Int) ≠ IntKind.i64.wrap (x1 + 3) then (some true) else (gd ((0 : Int) ≤ x1 ∧ x1 < (l_m_0.length : Int)) (some (decide (rd l_m_0 x1 ≠ (-71)))))).bind fun b5 => (if b5 = true then (some true) else (gd ((0 : Int) ≤ (IntKind.i64.wrap (x1 + 1)) ∧ (IntKind.i64.wrap (x1 + 1)) < (l_m_0.length : Int)) (some (decide (rd l_m_0 (IntKind.i64.wrap (x1 + 1)) ≠ (-72)))))).bind fun b14 => (if b14 = true then (some true) else (gd ((0 : Int) ≤ (IntKind.i64.wrap (x1 + 2)) ∧ (IntKind.i64.wrap (x1 + 2)) < (l_m_0.length : Int)) (some (decide (rd l_m_0 (IntKind.i64.wrap (x1 + 2)) ≠ (-73)))))).bind fun b23 => if b23 = true then (some false) else (gd ((0 : Int) ≤ x1 ∧ x1 ≤ (l_m_0.length : Int)) ((valiselaw5_same.f (l_m_0.take (x1 : Int).toNat) l_l_1).bind fun z35 => some z35))) : Option (Bool)) = some r := h
  refine calls_start Try.func24 rfl rfl ?_
  refine L_seq ?_
  refine L_region ?_
  refine F_val rfl rfl rfl (O_assign rfl rfl) ?_
  refine F_nil ?_
  refine L_seq ?_
  refine L_region ?_
  refine F_val rfl rfl rfl (O_move rfl rfl) ?_
  refine F_val rfl rfl rfl (O_len rfl rfl Try.underlying22) ?_
  obtain ⟨x1, h2, H⟩ := of_bnd H
  refine F_val rfl rfl rfl (O_assign' rfl rfl (congrArg (Value.int .i64) h2)) ?_
  refine F_nil ?_
  refine L_seq ?_
  refine L_seq ?_
  refine L_region ?_
  refine F_val rfl rfl rfl (O_move rfl rfl) ?_
  refine F_val rfl rfl rfl (O_len rfl rfl Try.underlying22) ?_
  refine F_val rfl rfl rfl (O_move rfl rfl) ?_
  refine F_val rfl rfl rfl (O_add rfl rfl rfl) ?_
  refine F_val rfl rfl rfl (O_ne rfl rfl rfl) ?_
  refine F_val rfl rfl rfl (O_move rfl rfl) ?_
  obtain ⟨b5, Hb5, H⟩ := of_bind H
  refine F_grp 6 [(19, .bool b5), (0, .slice A_m_0 l_m_0.length c_m_0), (1, .slice A_l_1 l_l_1.length c_l_1), (5, .int .i64 x1)] ?_ ?_
  · rcases Decidable.em ((l_m_0.length : Int) ≠ IntKind.i64.wrap (x1 + 3)) with c9 | c9
    · refine F_know (i := 13) rfl (dec_t c9) ?_
      have H := of_pos Hb5 c9
      refine F_gskip rfl rfl rfl rfl rfl rfl rfl ?_
      refine F_gskip rfl rfl rfl rfl rfl rfl rfl ?_
      refine F_gskip rfl rfl rfl rfl rfl rfl rfl ?_
      refine F_gskip rfl rfl rfl rfl rfl rfl rfl ?_
      refine F_gskip rfl rfl rfl rfl rfl rfl rfl ?_
      refine F_val rfl rfl rfl (O_pickT rfl rfl rfl) ?_
      refine F_know (i := 19) rfl (congrArg Value.bool (Option.some.inj H)) ?_
      exact F_grpE (fun a ha => Is.cons ha (Is.cons ha (Is.cons ha (Is.cons ha (Is.nil ha) rfl) rfl) rfl) rfl)
    · refine F_know (i := 13) rfl (dec_f c9) ?_
      have H := of_neg Hb5 c9
      refine F_gval rfl rfl rfl rfl rfl rfl (O_move rfl rfl) ?_
      refine F_gval rfl rfl rfl rfl rfl rfl (O_move rfl rfl) ?_
      obtain ⟨⟨g10, g11⟩, H⟩ := of_gd H
      refine F_gval rfl rfl rfl rfl rfl rfl (O_idx rfl rfl rfl Try.underlying22 size3 g10 g11 (Cells.isA (HS0.cells_rd (i := 0) rfl) (rowC_ne (E := (Eint .i64)) g10 g11 (by decide)))) ?_
      refine F_gval rfl rfl rfl rfl rfl rfl (O_loadC rfl rfl flat3 (HS0.cells_rd (i := 0) rfl) (int_cell g10 g11)) ?_
      refine F_gval rfl rfl rfl rfl rfl rfl (O_ne rfl rfl rfl) ?_
      refine F_val rfl rfl rfl (O_pickF rfl rfl rfl) ?_
      refine F_know (i := 19) rfl (congrArg Value.bool (Option.some.inj H)) ?_
      exact F_grpE (fun a ha => Is.cons ha (Is.cons ha (Is.cons ha (Is.cons ha (Is.nil ha) rfl) rfl) rfl) rfl)
  · skip
    refine F_val rfl rfl rfl (O_move rfl rfl) ?_
    obtain ⟨b14, Hb14, H⟩ := of_bind H
    refine F_grp 7 [(27, .bool b14), (0, .slice A_m_0 l_m_0.length c_m_0), (1, .slice A_l_1 l_l_1.length c_l_1), (5, .int .i64 x1)] ?_ ?_
    · rcases Decidable.em (b5 = true) with c18 | c18
      · refine F_know (i := 20) rfl (congrArg Value.bool c18) ?_
        have H := of_pos Hb14 c18
        refine F_gskip rfl rfl rfl rfl rfl rfl rfl ?_
        refine F_gskip rfl rfl rfl rfl rfl rfl rfl ?_
        refine F_gskip rfl rfl rfl rfl rfl rfl rfl ?_
        refine F_gskip rfl rfl rfl rfl rfl rfl rfl ?_
        refine F_gskip rfl rfl rfl rfl rfl rfl rfl ?_
        refine F_gskip rfl rfl rfl rfl rfl rfl rfl ?_
        refine F_val rfl rfl rfl (O_pickT rfl rfl rfl) ?_
        refine F_know (i := 27) rfl (congrArg Value.bool (Option.some.inj H)) ?_
        exact F_grpE (fun a ha => Is.cons ha (Is.cons ha (Is.cons ha (Is.cons ha (Is.nil ha) rfl) rfl) rfl) rfl)
      · refine F_know (i := 20) rfl (congrArg Value.bool (Bool.eq_false_iff.mpr c18)) ?_
        have H := of_neg Hb14 c18
        refine F_gval rfl rfl rfl rfl rfl rfl (O_move rfl rfl) ?_
        refine F_gval rfl rfl rfl rfl rfl rfl (O_move rfl rfl) ?_
        refine F_gval rfl rfl rfl rfl rfl rfl (O_add rfl rfl rfl) ?_
        obtain ⟨⟨g19, g20⟩, H⟩ := of_gd H
        refine F_gval rfl rfl rfl rfl rfl rfl (O_idx rfl rfl rfl Try.underlying22 size3 g19 g20 (Cells.isA (HS0.cells_rd (i := 0) rfl) (rowC_ne (E := (Eint .i64)) g19 g20 (by decide)))) ?_
        refine F_gval rfl rfl rfl rfl rfl rfl (O_loadC rfl rfl flat3 (HS0.cells_rd (i := 0) rfl) (int_cell g19 g20)) ?_
        refine F_gval rfl rfl rfl rfl rfl rfl (O_ne rfl rfl rfl) ?_
        refine F_val rfl rfl rfl (O_pickF rfl rfl rfl) ?_
        refine F_know (i := 27) rfl (congrArg Value.bool (Option.some.inj H)) ?_
        exact F_grpE (fun a ha => Is.cons ha (Is.cons ha (Is.cons ha (Is.cons ha (Is.nil ha) rfl) rfl) rfl) rfl)
    · skip
      refine F_val rfl rfl rfl (O_move rfl rfl) ?_
      obtain ⟨b23, Hb23, H⟩ := of_bind H
      refine F_grp 7 [(35, .bool b23), (0, .slice A_m_0 l_m_0.length c_m_0), (1, .slice A_l_1 l_l_1.length c_l_1), (5, .int .i64 x1)] ?_ ?_
      · rcases Decidable.em (b14 = true) with c27 | c27
        · refine F_know (i := 28) rfl (congrArg Value.bool c27) ?_
          have H := of_pos Hb23 c27
          refine F_gskip rfl rfl rfl rfl rfl rfl rfl ?_
          refine F_gskip rfl rfl rfl rfl rfl rfl rfl ?_
          refine F_gskip rfl rfl rfl rfl rfl rfl rfl ?_
          refine F_gskip rfl rfl rfl rfl rfl rfl rfl ?_
          refine F_gskip rfl rfl rfl rfl rfl rfl rfl ?_
          refine F_gskip rfl rfl rfl rfl rfl rfl rfl ?_
          refine F_val rfl rfl rfl (O_pickT rfl rfl rfl) ?_
          refine F_know (i := 35) rfl (congrArg Value.bool (Option.some.inj H)) ?_
          exact F_grpE (fun a ha => Is.cons ha (Is.cons ha (Is.cons ha (Is.cons ha (Is.nil ha) rfl) rfl) rfl) rfl)
        · refine F_know (i := 28) rfl (congrArg Value.bool (Bool.eq_false_iff.mpr c27)) ?_
          have H := of_neg Hb23 c27
          refine F_gval rfl rfl rfl rfl rfl rfl (O_move rfl rfl) ?_
          refine F_gval rfl rfl rfl rfl rfl rfl (O_move rfl rfl) ?_
          refine F_gval rfl rfl rfl rfl rfl rfl (O_add rfl rfl rfl) ?_
          obtain ⟨⟨g28, g29⟩, H⟩ := of_gd H
          refine F_gval rfl rfl rfl rfl rfl rfl (O_idx rfl rfl rfl Try.underlying22 size3 g28 g29 (Cells.isA (HS0.cells_rd (i := 0) rfl) (rowC_ne (E := (Eint .i64)) g28 g29 (by decide)))) ?_
          refine F_gval rfl rfl rfl rfl rfl rfl (O_loadC rfl rfl flat3 (HS0.cells_rd (i := 0) rfl) (int_cell g28 g29)) ?_
          refine F_gval rfl rfl rfl rfl rfl rfl (O_ne rfl rfl rfl) ?_
          refine F_val rfl rfl rfl (O_pickF rfl rfl rfl) ?_
          refine F_know (i := 35) rfl (congrArg Value.bool (Option.some.inj H)) ?_
          exact F_grpE (fun a ha => Is.cons ha (Is.cons ha (Is.cons ha (Is.cons ha (Is.nil ha) rfl) rfl) rfl) rfl)
      · skip
        refine F_nil ?_
        refine L_cond rfl (fun c30 => ?_) (fun c30 => ?_)
        · have H := of_pos H c30
          refine L_seq ?_
          refine L_region ?_
          refine F_val rfl rfl rfl (O_assign rfl rfl) ?_
          refine F_nil ?_
          refine L_ret (fun a ha => (post_ret1 ha rfl rfl ?_))
          obtain rfl := Option.some.inj H
          exact ⟨rfl, HS0.sel [] rfl⟩
        · have H := of_neg H (by rw [c30]; exact Bool.false_ne_true)
          refine L_skip ?_
          refine L_seq ?_
          refine L_region ?_
          refine F_val rfl rfl rfl (O_move rfl rfl) ?_
          refine F_val rfl rfl rfl (O_move rfl rfl) ?_
          obtain ⟨⟨g31, g32⟩, H⟩ := of_gd H
          refine F_val rfl rfl rfl (O_toE l_m_0 rfl rfl rfl Try.underlying22 size3 g31 g32 hc_m_0) ?_
          refine F_val rfl rfl rfl (O_move rfl rfl) ?_
          obtain ⟨z35, h34, H⟩ := of_bind H
          refine F_qcall (v := .bool z35) (xs := [.tmp 38, .tmp 39]) rfl rfl rfl rfl Try.func15 nm15 rfl rfl ((valiselaw5_same.calls (HS0.give [] rfl (Lent.rd HS0 (Lent.rd HS0 (Lent.nil) (i := 1) rfl ((HS0.cells_rd (i := 1) rfl).self)) (i := 0) rfl (Cells.take (HS0.cells_rd (i := 0) rfl) (x1 : Int).toNat))) (Nat.le_trans (List.length_take_le' _ _) hc_m_0) hc_l_1 h34).mono (fun e w hc => ?_)) (fun w36 hw37 => ?_)
          · obtain ⟨rfl, h⟩ := hc
            exact ⟨rfl, h.chg0⟩
          have HS38 := HS0.keep hw37
          refine F_val rfl rfl rfl (O_assign rfl rfl) ?_
          refine F_nil ?_
          refine L_ret (fun a ha => (post_ret1 ha rfl rfl ?_))
          obtain rfl := Option.some.inj H
          exact ⟨rfl, HS38.sel [] rfl⟩

/-! function 4: valise/valiselaw5.CodeChecks -/
theorem valiselaw5_CodeChecks.calls {S0 : Nat → Prop} {w0 : World} {A_lens_0 : Option Addr} {c_lens_0 : Nat} {l_lens_0 : List Int} {r : Bool} (HS0 : Hp S0 w0 w0 [.rd A_lens_0 (rowC (Eint .i64) l_lens_0)]) (hc_lens_0 : l_lens_0.length ≤ c_lens_0) (h : valiselaw5_CodeChecks.f l_lens_0 = some r) :
    Calls Try.prog 4 ([.slice A_lens_0 l_lens_0.length c_lens_0] : List Value).toArray w0 (fun e w => e = .returned (.bool r) ∧ Hp S0 w0 w []) := by
  have H : (((valiselaw5_framed.f l_lens_0).bind fun z5 => gd ((0 : Int) ≤ (l_lens_0.length : Int) ∧ (l_lens_0.length : Int) ≤ (z5.length : Int)) ((code_Check.f (z5.take ((l_lens_0.length : Int) : Int).toNat)).bind fun (z15, z16) => (valiseref5_Check.f l_lens_0).bind fun (z22, z23) => (if (z15 = z22) ∧ (z16 = z23) then ((valiselaw5_whole.f z5 l_lens_0).bind fun z56 => some z56) else (some false)).bind fun b49 => some b49)) : Option (Bool)) = some r := h
  refine calls_start Try.func4 rfl rfl ?_
  refine L_seq ?_
  refine L_region ?_
  refine F_val rfl rfl rfl (O_assign rfl rfl) ?_
  refine F_nil ?_
  refine L_seq ?_
  refine L_region ?_
  refine F_val rfl rfl rfl (O_move rfl rfl) ?_
  obtain ⟨z5, h4, H⟩ := of_bind H
  refine F_call (xs := [.tmp 8]) rfl rfl rfl rfl Try.func20 nm20 rfl rfl ((valiselaw5_framed.calls (HS0.give [] rfl (Lent.rd HS0 (Lent.nil) (i := 0) rfl ((HS0.cells_rd (i := 0) rfl).self))) hc_lens_0 h4).mono (fun e w hc => ?_))
  obtain ⟨A8, c9, rfl, HSo⟩ := hc
  refine ⟨.slice A8 z5.length c9, rfl, ?_⟩
  have HS7 : Hp S0 w0 w [.rd A_lens_0 (rowC (Eint .i64) l_lens_0), .own A8 c9 (rowC (Eint .i64) z5) 3 (Eint .i64).sz] := (HS0.back [] HSo rfl).sel [0, 1] rfl
  refine F_val rfl rfl rfl (O_assign rfl rfl) ?_
  refine F_nil ?_
  refine L_seq ?_
  refine L_region ?_
  refine F_val rfl rfl rfl (O_move rfl rfl) ?_
  refine F_val rfl rfl rfl (O_move rfl rfl) ?_
  refine F_val rfl rfl rfl (O_len rfl rfl Try.underlying22) ?_
  obtain ⟨⟨g11, g12⟩, H⟩ := of_gd H
  refine F_val rfl rfl rfl (O_toE z5 rfl rfl rfl Try.underlying22 size3 g11 g12 (HS7.own_capE (i := 1) rfl (by decide))) ?_
  obtain ⟨⟨z15, z16⟩, h14, H⟩ := of_bind H
  refine F_qcall (v := .tuple #[.int .i64 z15, .int .i64 z16]) (xs := [.tmp 14]) rfl rfl rfl rfl Try.func21 nm21 rfl rfl ((code_Check.calls (HS7.give [] rfl (Lent.own HS7 (Lent.nil) (i := 1) rfl rfl (Cells.take (HS7.cells_own (i := 1) rfl) ((l_lens_0.length : Int) : Int).toNat))) (Nat.le_trans (List.length_take_le' _ _) (HS7.own_capE (i := 1) rfl (by decide))) h14).mono (fun e w hc => ?_)) (fun w17 hw18 => ?_)
  · obtain ⟨rfl, h⟩ := hc
    exact ⟨rfl, h.chg0⟩
  have HS19 := HS7.keep hw18
  refine F_val rfl rfl rfl (O_move rfl rfl) ?_
  refine F_val rfl rfl rfl (O_extract (v := .int .i64 z15) rfl rfl rfl) ?_
  refine F_val rfl rfl rfl (O_extract (v := .int .i64 z16) rfl rfl rfl) ?_
  refine F_val rfl rfl rfl (O_assign rfl rfl) ?_
  refine F_val rfl rfl rfl (O_assign rfl rfl) ?_
  refine F_nil ?_
  refine L_seq ?_
  refine L_region ?_
  refine F_val rfl rfl rfl (O_move rfl rfl) ?_
  obtain ⟨⟨z22, z23⟩, h21, H⟩ := of_bind H
  refine F_qcall (v := .tuple #[.int .i64 z22, .int .i64 z23]) (xs := [.tmp 19]) rfl rfl rfl rfl Try.func22 nm22 rfl rfl ((valiseref5_Check.calls (HS19.give [] rfl (Lent.rd HS19 (Lent.nil) (i := 0) rfl ((HS19.cells_rd (i := 0) rfl).self))) hc_lens_0 h21).mono (fun e w hc => ?_)) (fun w24 hw25 => ?_)
  · obtain ⟨rfl, h⟩ := hc
    exact ⟨rfl, h.chg0⟩
  have HS26 := HS19.keep hw25
  refine F_val rfl rfl rfl (O_move rfl rfl) ?_
  refine F_val rfl rfl rfl (O_extract (v := .int .i64 z22) rfl rfl rfl) ?_
  refine F_val rfl rfl rfl (O_extract (v := .int .i64 z23) rfl rfl rfl) ?_
  refine F_val rfl rfl rfl (O_assign rfl rfl) ?_
  refine F_val rfl rfl rfl (O_assign rfl rfl) ?_
  refine F_nil ?_
  refine L_seq ?_
  refine L_region ?_
  refine F_val rfl rfl rfl (O_move rfl rfl) ?_
  refine F_val rfl rfl rfl (O_move rfl rfl) ?_
  refine F_val rfl rfl rfl (O_eq rfl rfl rfl) ?_
  refine F_val rfl rfl rfl (O_move rfl rfl) ?_
  refine F_grpQ 5 [(31, .bool (decide ((z15 = z22) ∧ (z16 = z23)))), (0, .slice A_lens_0 l_lens_0.length c_lens_0), (3, .slice A8 z5.length c9)] ?_ (fun w33 hw34 => ?_)
  · rcases Decidable.em (z15 = z22) with c36 | c36
    · refine F_know (i := 26) rfl (dec_t c36) ?_
      refine F_gval rfl rfl rfl rfl rfl rfl (O_move rfl rfl) ?_
      refine F_gqcall (v := .int .i64 z16) (xs := [.tmp 27]) rfl rfl rfl rfl rfl rfl rfl Try.func23 nm23 rfl rfl ((valiselaw5_num.calls (HS26.give [] rfl (Lent.nil)) (rfl : valiselaw5_num.f z16 = some z16)).mono (fun e w hc => ?_)) (fun w40 hw41 => ?_)
      · obtain ⟨rfl, h⟩ := hc
        exact ⟨rfl, h.chg0⟩
      have HS42 := HS26.keep hw41
      refine F_gval rfl rfl rfl rfl rfl rfl (O_move rfl rfl) ?_
      refine F_gval rfl rfl rfl rfl rfl rfl (O_eq rfl rfl rfl) ?_
      refine F_val rfl rfl rfl (O_pickT rfl rfl rfl) ?_
      refine F_know (i := 31) rfl (dec_and_t (q := z16 = z23) c36) ?_
      exact F_grpQE ((Chg.refl NoB _).trans hw41) (fun a ha => Is.cons ha (Is.cons ha (Is.cons ha (Is.nil ha) rfl) rfl) rfl)
    · refine F_know (i := 26) rfl (dec_f c36) ?_
      refine F_gskip rfl rfl rfl rfl rfl rfl rfl ?_
      refine F_gskip rfl rfl rfl rfl rfl rfl rfl ?_
      refine F_gskip rfl rfl rfl rfl rfl rfl rfl ?_
      refine F_gskip rfl rfl rfl rfl rfl rfl rfl ?_
      refine F_val rfl rfl rfl (O_pickF rfl rfl rfl) ?_
      refine F_know (i := 31) rfl (dec_and_f (q := z16 = z23) c36) ?_
      exact F_grpQE (Chg.refl NoB _) (fun a ha => Is.cons ha (Is.cons ha (Is.cons ha (Is.nil ha) rfl) rfl) rfl)
  · have HS35 := HS26.keep hw34
    refine F_val rfl rfl rfl (O_move rfl rfl) ?_
    obtain ⟨b49, Hb49, H⟩ := of_bind H
    refine F_grpQ 4 [(36, .bool b49)] ?_ (fun w50 hw51 => ?_)
    · rcases Decidable.em ((z15 = z22) ∧ (z16 = z23)) with c53 | c53
      · refine F_know (i := 32) rfl (dec_t c53) ?_
        have H := of_pos Hb49 c53
        refine F_gval rfl rfl rfl rfl rfl rfl (O_move rfl rfl) ?_
        refine F_gval rfl rfl rfl rfl rfl rfl (O_move rfl rfl) ?_
        obtain ⟨z56, h55, H⟩ := of_bind H
        refine F_gqcall (v := .bool z56) (xs := [.tmp 33, .tmp 34]) rfl rfl rfl rfl rfl rfl rfl Try.func24 nm24 rfl rfl ((valiselaw5_whole.calls (HS35.give [] rfl (Lent.own HS35 (Lent.rd HS35 (Lent.nil) (i := 0) rfl ((HS35.cells_rd (i := 0) rfl).self)) (i := 1) rfl rfl ((HS35.cells_own (i := 1) rfl).self))) (HS35.own_capE (i := 1) rfl (by decide)) hc_lens_0 h55).mono (fun e w hc => ?_)) (fun w57 hw58 => ?_)
        · obtain ⟨rfl, h⟩ := hc
          exact ⟨rfl, h.chg0⟩
        have HS59 := HS35.keep hw58
        refine F_val rfl rfl rfl (O_pickT rfl rfl rfl) ?_
        refine F_know (i := 36) rfl (congrArg Value.bool (Option.some.inj H)) ?_
        exact F_grpQE ((Chg.refl NoB _).trans hw58) (fun a ha => Is.cons ha (Is.nil ha) rfl)
      · refine F_know (i := 32) rfl (dec_f c53) ?_
        have H := of_neg Hb49 c53
        refine F_gskip rfl rfl rfl rfl rfl rfl rfl ?_
        refine F_gskip rfl rfl rfl rfl rfl rfl rfl ?_
        refine F_gskip rfl rfl rfl rfl rfl rfl rfl ?_
        refine F_val rfl rfl rfl (O_pickF rfl rfl rfl) ?_
        refine F_know (i := 36) rfl (congrArg Value.bool (Option.some.inj H)) ?_
        exact F_grpQE (Chg.refl NoB _) (fun a ha => Is.cons ha (Is.nil ha) rfl)
    · have HS52 := HS35.keep hw51
      refine F_val rfl rfl rfl (O_assign rfl rfl) ?_
      refine F_nil ?_
      refine L_ret (fun a ha => (post_ret1 ha rfl rfl ?_))
      obtain rfl := Option.some.inj H
      exact ⟨rfl, HS52.sel [] rfl⟩

end Go.Proofs.Ytfglehdaimgaeaa
