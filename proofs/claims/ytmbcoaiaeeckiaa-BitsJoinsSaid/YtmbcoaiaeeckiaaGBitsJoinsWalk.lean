import Derived.Test.YtmbcoaiaeeckiaaChecked
import Derived.Test.YtmbcoaiaeeckiaaGBitsJoinsPure
set_option linter.unusedVariables false
set_option linter.unusedSimpArgs false
set_option maxRecDepth 10000
namespace Go.Proofs.Ytmbcoaiaeeckiaa
open Go Go.V Go.V.Pu
theorem mix : Try.prog.follows .mixedOrders = true := by kernel_rfl
theorem nm18 : (Try.f18.name == "runtime.NumGoroutine") = false := by kernel_rfl
theorem size22 : (Try.prog.info? 22).map (·.size) = some 1 := by kernel_rfl
theorem flat22 : Flat Try.prog 22 := Flat.of Try.underlying22 rfl
theorem nm20 : (Try.f20.name == "runtime.NumGoroutine") = false := by kernel_rfl
theorem field99_1 : FieldAt Try.prog 99 1 1 := fun w a => by kernel_rfl
theorem flat3 : Flat Try.prog 3 := Flat.of Try.underlying3 rfl
theorem field99_0 : FieldAt Try.prog 99 0 0 := fun w a => by kernel_rfl
theorem flat35 : Flat Try.prog 35 := Flat.of Try.underlying35 rfl
theorem info5 : (Try.prog.info? 5).map (fun i => (i.zero, i.size, i.bytes)) = some (some (.int .u8 0), 1, 1) := by kernel_rfl
theorem size35 : (Try.prog.info? 35).map (·.size) = some 1 := by kernel_rfl
theorem size5 : (Try.prog.info? 5).map (·.size) = some 1 := by kernel_rfl
theorem flat5 : Flat Try.prog 5 := Flat.of Try.underlying5 rfl
theorem size3 : (Try.prog.info? 3).map (·.size) = some 1 := by kernel_rfl
theorem nm56 : (Try.f56.name == "runtime.NumGoroutine") = false := by kernel_rfl
theorem nm19 : (Try.f19.name == "runtime.NumGoroutine") = false := by kernel_rfl
theorem nm21 : (Try.f21.name == "runtime.NumGoroutine") = false := by kernel_rfl
theorem nm22 : (Try.f22.name == "runtime.NumGoroutine") = false := by kernel_rfl
theorem nm23 : (Try.f23.name == "runtime.NumGoroutine") = false := by kernel_rfl
theorem nm24 : (Try.f24.name == "runtime.NumGoroutine") = false := by kernel_rfl
/-! function 18: valise/bits.NewWriter -/
theorem bits_NewWriter.calls {S0 : Nat → Prop} {w0 : World} {r : (List Int × Int)} (HS0 : Hp S0 w0 w0 []) (h : bits_NewWriter.f = some r) :
    Calls Try.prog 18 ([] : List Value).toArray w0 (fun e w => ∃ (g1 : Nat), ∃ (A1_0 : Option Addr), ∃ (c1_0 : Nat), e = .returned (.pointer (some ⟨g1, 0, none⟩)) ∧ Hp S0 w0 w [.box g1 [.slice A1_0 r.1.length c1_0, .int .i64 r.2] 99, .own A1_0 c1_0 (rowC (Eint .u8) r.1) 5 (Eint .u8).sz]) := by
  have H : ((some (([] : List Int), 0)) : Option ((List Int × Int))) = some r := h
  refine calls_start Try.func18 rfl rfl ?_
  refine L_seq ?_
  refine L_region ?_
  refine F_val rfl rfl rfl (O_assign rfl rfl) ?_
  refine F_nil ?_
  refine L_seq ?_
  refine L_region ?_
  refine F_val rfl rfl rfl (O_build (vs := []) (v := .agg #[.slice none 0 0, .int .i64 0]) rfl rfl rfl (fun w => by kernel_rfl)) ?_
  have HS5 := HS0.addNil 5 (Eint .u8).sz
  have HS5 : Hp S0 w0 w0 [.own none 0 (rowC (Eint .u8) ([] : List Int)) 5 (Eint .u8).sz] := HS5
  refine F_box (C := [.slice none ([] : List Int).length 0, .int .i64 0]) rfl rfl rfl rfl rfl rfl HS5 (fun w1 g3 HS2 => ?_)
  have HS2 : Hp S0 w0 w1 [.own none 0 (rowC (Eint .u8) ([] : List Int)) 5 (Eint .u8).sz, .box g3 ([.slice none ([] : List Int).length 0, .int .i64 0]) 99] := HS2
  refine F_val rfl rfl rfl (O_assign rfl rfl) ?_
  refine F_nil ?_
  refine L_ret (fun a ha => (post_ret1 ha rfl rfl ?_))
  obtain rfl := Option.some.inj H
  exact ⟨_, _, _, rfl, HS2.sel [1, 0] rfl⟩

/-! function 20: valise/valiselaw3.low -/
theorem valiselaw3_low.calls {S0 : Nat → Prop} {w0 : World} {v_0 : Int} {n_1 : Int} {r : Int} (HS0 : Hp S0 w0 w0 []) (h : valiselaw3_low.f v_0 n_1 = some r) :
    Calls Try.prog 20 ([.int .u32 v_0, .int .i64 n_1] : List Value).toArray w0 (fun e w => e = .returned (.int .u32 r) ∧ Hp S0 w0 w []) := by
  have H : ((gd (¬ (IntKind.u64.wrap n_1) < 0) (some (IntKind.u32.wrap (band .u64 (IntKind.u64.wrap v_0) (IntKind.u64.wrap ((shl .u64 1 (IntKind.u64.wrap n_1)) - 1)))))) : Option (Int)) = some r := h
  refine calls_start Try.func20 rfl rfl ?_
  refine L_seq ?_
  refine L_region ?_
  refine F_val rfl rfl rfl (O_assign rfl rfl) ?_
  refine F_nil ?_
  refine L_seq ?_
  refine L_region ?_
  refine F_val rfl rfl rfl (O_move rfl rfl) ?_
  refine F_val rfl rfl rfl (O_conv rfl rfl ⟨_, Try.underlying22⟩ Try.underlying87) ?_
  refine F_val rfl rfl rfl (O_move rfl rfl) ?_
  refine F_val rfl rfl rfl (O_conv rfl rfl ⟨_, Try.underlying3⟩ Try.underlying75) ?_
  obtain ⟨g1, H⟩ := of_gd H
  refine F_val rfl rfl rfl (O_shl rfl rfl rfl g1) ?_
  refine F_val rfl rfl rfl (O_sub rfl rfl rfl) ?_
  refine F_val rfl rfl rfl (O_and rfl rfl rfl) ?_
  refine F_val rfl rfl rfl (O_conv rfl rfl ⟨_, Try.underlying87⟩ Try.underlying22) ?_
  refine F_val rfl rfl rfl (O_assign rfl rfl) ?_
  refine F_nil ?_
  refine L_ret (fun a ha => (post_ret1 ha rfl rfl ?_))
  obtain rfl := Option.some.inj H
  exact ⟨rfl, HS0.sel [] rfl⟩

/-! function 56: (*valise/bits.Writer).lay -/
theorem bits_Writer_lay.calls {S0 : Nat → Prop} {w0 : World} {g_w_0 : Nat} {A_w_0_bytes : Option Addr} {c_w_0_bytes : Nat} {w_0_bytes : List Int} {w_0_count : Int} {v_1 : Int} {n_2 : Int} {r : List Int × Int} (HS0 : Hp S0 w0 w0 [.box g_w_0 [.slice A_w_0_bytes w_0_bytes.length c_w_0_bytes, .int .i64 w_0_count] 99, .own A_w_0_bytes c_w_0_bytes (rowC (Eint .u8) w_0_bytes) 5 (Eint .u8).sz]) (h : bits_Writer_lay.f w_0_bytes w_0_count v_1 n_2 = some r) :
    Calls Try.prog 56 ([.pointer (some ⟨g_w_0, 0, none⟩), .int .u64 v_1, .int .i64 n_2] : List Value).toArray w0 (fun e w => ∃ (A_w_0_bytes' : Option Addr), ∃ (c_w_0_bytes' : Nat), e = .returned (.tuple #[]) ∧ Hp S0 w0 w [.box g_w_0 [.slice A_w_0_bytes' r.1.length c_w_0_bytes', .int .i64 r.2] 99, .own A_w_0_bytes' c_w_0_bytes' (rowC (Eint .u8) r.1) 5 (Eint .u8).sz]) := by
  have H : (((bits_Writer_lay.l1 FU w_0_bytes w_0_count v_1 n_2 ).bind fun (l206, y207) => some (l206, y207)) : Option (List Int × Int)) = some r := h
  refine calls_start Try.func56 rfl rfl ?_
  obtain ⟨yj1, Hyj1, H⟩ := of_bind H
  refine L_join (fun a w => ∃ (l206 : List Int), ∃ (y207 : Int), ∃ (A204 : Option Addr), ∃ (c205 : Nat), yj1 = (l206, y207) ∧ Is Try.f56.ntmps a [] ∧ Hp S0 w0 w [.box g_w_0 [.slice A204 l206.length c205, .int .i64 y207] 99, .own A204 c205 (rowC (Eint .u8) l206) 5 (Eint .u8).sz]) (fun Qj1 hNj1 hOj1 => ?_) (fun a w hR => ?_)
  · skip
    have H := Hyj1
    refine L_blk (fun Qb208 hNb208 hXb208 hOb208 => ?_)
    refine L_lp (fun k a w => ∃ (l342 : List Int), ∃ (y343 : Int), ∃ (v_344 : Int), ∃ (n_345 : Int), ∃ (A340 : Option Addr), ∃ (c341 : Nat), Is Try.f56.ntmps a [(0, .pointer (some ⟨g_w_0, 0, none⟩)), (1, .int .u64 v_344), (2, .int .i64 n_345)] ∧ Hp S0 w0 w [.box g_w_0 [.slice A340 l342.length c341, .int .i64 y343] 99, .own A340 c341 (rowC (Eint .u8) l342) 5 (Eint .u8).sz] ∧ bits_Writer_lay.l1 k l342 y343 v_344 n_345  = some yj1) FU (fun a ha => ⟨_, _, _, _, _, _, Is.cons ha (Is.cons ha (Is.cons ha (Is.nil ha) rfl) rfl) rfl, HS0.sel [0, 1] rfl, H⟩) (fun kp339 a w346 hI Qp339 hNp339 hOp339 => ?_)
    obtain ⟨l342, y343, v_344, n_345, A340, c341, ha, HS347, HAp339⟩ := hI
    cases kp339 with
    | zero => cases (show (none : Option _) = some _ from HAp339)
    | succ kp339 =>
      have H := (bits_Writer_lay.l1.eq_2 ..).symm.trans HAp339
      refine wpLF_app ?_ ha
      refine L_seq ?_
      refine L_seq ?_
      refine L_region ?_
      refine F_val rfl rfl rfl (O_move rfl rfl) ?_
      refine F_val rfl rfl rfl (O_gt rfl rfl rfl) ?_
      refine F_nil ?_
      refine L_condP rfl (fun c348 => ?_) (fun c348 => ?_)
      · have H := of_pos H c348
        refine L_skip ?_
        refine L_blk (fun Q349 hN349 hX349 hO349 => ?_)
        refine L_seq ?_
        refine L_region ?_
        refine F_val rfl rfl rfl (O_move rfl rfl) ?_
        refine F_val rfl rfl rfl (O_nilCheck rfl rfl) ?_
        refine F_val rfl rfl rfl (O_fieldB rfl rfl field99_1) ?_
        refine F_val rfl rfl rfl (O_loadB rfl rfl flat3 (HS347.cells_box (i := 0) rfl) rfl) ?_
        refine F_val rfl rfl rfl (O_rem rfl rfl rfl (by decide)) ?_
        obtain ⟨x350, h351, H⟩ := of_bnd H
        refine F_val rfl rfl rfl (O_assign' rfl rfl (congrArg (Value.int .i64) h351)) ?_
        refine F_nil ?_
        refine L_seq ?_
        refine L_seq ?_
        refine L_region ?_
        refine F_val rfl rfl rfl (O_move rfl rfl) ?_
        refine F_val rfl rfl rfl (O_eq rfl rfl rfl) ?_
        refine F_nil ?_
        obtain ⟨yj352, Hyj352, H⟩ := of_bind H
        refine L_join (fun a w => ∃ (l370 : List Int), ∃ (A368 : Option Addr), ∃ (c369 : Nat), yj352 = l370 ∧ Is Try.f56.ntmps a [(0, .pointer (some ⟨g_w_0, 0, none⟩)), (1, .int .u64 v_344), (2, .int .i64 n_345), (6, .int .i64 x350)] ∧ Hp S0 w0 w [.box g_w_0 [.slice A368 l370.length c369, .int .i64 y343] 99, .own A368 c369 (rowC (Eint .u8) l370) 5 (Eint .u8).sz]) (fun Qj352 hNj352 hOj352 => ?_) (fun a w hR => ?_)
        · skip
          have H := Hyj352
          refine L_condP rfl (fun c371 => ?_) (fun c371 => ?_)
          · have H := of_pos H c371
            refine L_region ?_
            refine F_val rfl rfl rfl (O_move rfl rfl) ?_
            refine F_val rfl rfl rfl (O_move rfl rfl) ?_
            refine F_val rfl rfl rfl (O_nilCheck rfl rfl) ?_
            refine F_val rfl rfl rfl (O_fieldB rfl rfl field99_0) ?_
            refine F_val rfl rfl rfl (O_loadB rfl rfl flat35 (HS347.cells_box (i := 0) rfl) rfl) ?_
            refine F_litE (E := (Eint .u8)) (e := 5) [(0, .int .u8 0)] [0] rfl rfl rfl rfl rfl rfl rfl (by decide) (fun w => by kernel_rfl) HS347 (fun w372 A374 c375 HS373 => ?_)
            have HS373 : Hp S0 w0 w372 [.box g_w_0 [.slice A340 l342.length c341, .int .i64 y343] 99, .own A340 c341 (rowC (Eint .u8) l342) 5 (Eint .u8).sz, .own A374 c375 (rowC (Eint .u8) [0]) 5 (Eint .u8).sz] := HS373
            obtain ⟨l379, h380, H⟩ := of_bnd H
            obtain ⟨g381, H⟩ := of_gd H
            refine F_appE (E := (Eint .u8)) (xs := l342) (ys := [0]) (i := 1) rfl rfl rfl rfl Try.underlying35 info5 rfl (by decide) (by decide) rfl rfl HS373 rfl (HS373.cells_own (i := 2) rfl) h380 g381 (fun w377 A382 c383 HS378 => ?_)
            have HS378 : Hp S0 w0 w377 [.box g_w_0 [.slice A340 l342.length c341, .int .i64 y343] 99, .own A382 c383 (rowC (Eint .u8) l379) 5 (Eint .u8).sz, .own A374 c375 (rowC (Eint .u8) [0]) 5 (Eint .u8).sz] := HS378
            refine F_val rfl rfl rfl (O_nilCheck rfl rfl) ?_
            refine F_val rfl rfl rfl (O_fieldB rfl rfl field99_0) ?_
            refine F_stB 0 ([.slice A382 l379.length c383, .int .i64 y343]) rfl rfl rfl rfl rfl size35 HS378 rfl rfl rfl rfl rfl (fun w384 HS385 => ?_)
            have HS385 : Hp S0 w0 w384 [.box g_w_0 [.slice A382 l379.length c383, .int .i64 y343] 99, .own A382 c383 (rowC (Eint .u8) l379) 5 (Eint .u8).sz, .own A374 c375 (rowC (Eint .u8) [0]) 5 (Eint .u8).sz] := HS385
            refine F_nil ?_
            refine L_nil (fun a ha => hNj352 a _ ⟨_, _, _, (Option.some.inj H).symm, Is.cons ha (Is.cons ha (Is.cons ha (Is.cons ha (Is.nil ha) rfl) rfl) rfl) rfl, HS385.sel [0, 1] rfl⟩)
          · have H := of_neg H c371
            refine L_skip ?_
            refine L_nil (fun a ha => hNj352 a _ ⟨_, _, _, (Option.some.inj H).symm, Is.cons ha (Is.cons ha (Is.cons ha (Is.cons ha (Is.nil ha) rfl) rfl) rfl) rfl, HS347.sel [0, 1] rfl⟩)
        · obtain ⟨l370, A368, c369, ej, ha, HS387⟩ := hR
          obtain rfl := ej.symm
          refine wpLF_app ?_ ha
          refine L_seq ?_
          refine L_region ?_
          refine F_val rfl rfl rfl (O_move rfl rfl) ?_
          refine F_val rfl rfl rfl (O_sub rfl rfl rfl) ?_
          refine F_val rfl rfl rfl (O_move rfl rfl) ?_
          refine F_val rfl rfl rfl (O_min rfl rfl rfl) ?_
          obtain ⟨x388, h389, H⟩ := of_bnd H
          refine F_val rfl rfl rfl (O_assign' rfl rfl (congrArg (Value.int .i64) h389)) ?_
          refine F_nil ?_
          refine L_seq ?_
          refine L_region ?_
          refine F_val rfl rfl rfl (O_move rfl rfl) ?_
          refine F_val rfl rfl rfl (O_move rfl rfl) ?_
          refine F_val rfl rfl rfl (O_conv rfl rfl ⟨_, Try.underlying3⟩ Try.underlying75) ?_
          obtain ⟨g390, H⟩ := of_gd H
          refine F_val rfl rfl rfl (O_shl rfl rfl rfl g390) ?_
          refine F_val rfl rfl rfl (O_sub rfl rfl rfl) ?_
          refine F_val rfl rfl rfl (O_and rfl rfl rfl) ?_
          obtain ⟨x391, h392, H⟩ := of_bnd H
          refine F_val rfl rfl rfl (O_assign' rfl rfl (congrArg (Value.int .u64) h392)) ?_
          refine F_nil ?_
          refine L_seq ?_
          refine L_tail 19 mix (by kernel_rfl) (fun w393 hw394 => ?_)
          have HS395 := HS387.keep hw394
          refine S_val rfl rfl rfl (O_move rfl rfl) ?_
          refine S_val rfl rfl rfl (O_nilCheck rfl rfl) ?_
          refine S_val rfl rfl rfl (O_fieldB rfl rfl field99_0) ?_
          refine S_val rfl rfl rfl (O_loadB rfl rfl flat35 (HS395.cells_box (i := 0) rfl) rfl) ?_
          refine S_val rfl rfl rfl (O_move rfl rfl) ?_
          refine S_val rfl rfl rfl (O_nilCheck rfl rfl) ?_
          refine S_val rfl rfl rfl (O_fieldB rfl rfl field99_0) ?_
          refine S_val rfl rfl rfl (O_loadB rfl rfl flat35 (HS395.cells_box (i := 0) rfl) rfl) ?_
          refine S_val rfl rfl rfl (O_len rfl rfl Try.underlying35) ?_
          refine S_val rfl rfl rfl (O_sub rfl rfl rfl) ?_
          obtain ⟨⟨g396, g397⟩, H⟩ := of_gd H
          refine S_val rfl rfl rfl (O_idx rfl rfl rfl Try.underlying35 size5 g396 g397 (Cells.isA (HS395.cells_own (i := 1) rfl) (rowC_ne (E := (Eint .u8)) g396 g397 (by decide)))) ?_
          refine S_val rfl rfl rfl (O_loadC rfl rfl flat5 (HS395.cells_own (i := 1) rfl) (int_cell g396 g397)) ?_
          refine S_val rfl rfl rfl (O_move rfl rfl) ?_
          refine S_val rfl rfl rfl (O_move rfl rfl) ?_
          refine S_val rfl rfl rfl (O_conv rfl rfl ⟨_, Try.underlying3⟩ Try.underlying75) ?_
          obtain ⟨g398, H⟩ := of_gd H
          refine S_val rfl rfl rfl (O_shl rfl rfl rfl g398) ?_
          refine S_val rfl rfl rfl (O_conv rfl rfl ⟨_, Try.underlying87⟩ Try.underlying5) ?_
          refine S_val rfl rfl rfl (O_or rfl rfl rfl) ?_
          refine S_val rfl rfl rfl (O_idx rfl rfl rfl Try.underlying35 size5 g396 g397 (Cells.isA (HS395.cells_own (i := 1) rfl) (rowC_ne (E := (Eint .u8)) g396 g397 (by decide)))) ?_
          refine S_nil ?_
          obtain ⟨l401, h402, H⟩ := of_bnd H
          refine F_setE (E := (Eint .u8)) (i := 1) (a := bor .u8 (rd l370 (IntKind.i64.wrap ((l370.length : Int) - 1))) (IntKind.u8.wrap (shl .u64 x391 (IntKind.u64.wrap x350)))) (q := IntKind.i64.wrap ((l370.length : Int) - 1)) rfl rfl rfl rfl rfl rfl size5 HS395 rfl (by decide) g396 g397 h402 (fun w399 HS400 => ?_)
          have e403 : l370.length = l401.length := by rw [← h402, List.length_set]
          have HS400 : Hp S0 w0 w399 [.box g_w_0 [.slice A368 l401.length c369, .int .i64 y343] 99, .own A368 c369 (rowC (Eint .u8) l401) 5 (Eint .u8).sz] := (by rw [← e403]; exact HS400)
          refine F_nil ?_
          refine L_seq ?_
          refine L_region ?_
          refine F_val rfl rfl rfl (O_move rfl rfl) ?_
          refine F_val rfl rfl rfl (O_move rfl rfl) ?_
          refine F_val rfl rfl rfl (O_conv rfl rfl ⟨_, Try.underlying3⟩ Try.underlying75) ?_
          refine F_val rfl rfl rfl (O_shr rfl rfl rfl g390) ?_
          obtain ⟨x404, h405, H⟩ := of_bnd H
          refine F_val rfl rfl rfl (O_assign' rfl rfl (congrArg (Value.int .u64) h405)) ?_
          refine F_nil ?_
          refine L_seq ?_
          refine L_region ?_
          refine F_val rfl rfl rfl (O_move rfl rfl) ?_
          refine F_val rfl rfl rfl (O_move rfl rfl) ?_
          refine F_val rfl rfl rfl (O_sub rfl rfl rfl) ?_
          obtain ⟨x406, h407, H⟩ := of_bnd H
          refine F_val rfl rfl rfl (O_assign' rfl rfl (congrArg (Value.int .i64) h407)) ?_
          refine F_nil ?_
          refine L_region ?_
          refine F_val rfl rfl rfl (O_move rfl rfl) ?_
          refine F_val rfl rfl rfl (O_nilCheck rfl rfl) ?_
          refine F_val rfl rfl rfl (O_fieldB rfl rfl field99_1) ?_
          refine F_val rfl rfl rfl (O_loadB rfl rfl flat3 (HS400.cells_box (i := 0) rfl) rfl) ?_
          refine F_val rfl rfl rfl (O_move rfl rfl) ?_
          refine F_val rfl rfl rfl (O_add rfl rfl rfl) ?_
          refine F_val rfl rfl rfl (O_nilCheck rfl rfl) ?_
          refine F_val rfl rfl rfl (O_fieldB rfl rfl field99_1) ?_
          refine F_stB 0 ([.slice A368 l401.length c369, .int .i64 (IntKind.i64.wrap (y343 + x388))]) rfl rfl rfl rfl rfl size3 HS400 rfl rfl rfl rfl rfl (fun w408 HS409 => ?_)
          have HS409 : Hp S0 w0 w408 [.box g_w_0 [.slice A368 l401.length c369, .int .i64 (IntKind.i64.wrap (y343 + x388))] 99, .own A368 c369 (rowC (Eint .u8) l401) 5 (Eint .u8).sz] := HS409
          refine F_nil ?_
          refine L_endB hN349 ?_
          refine L_nil (fun a ha => hNp339 _ a _ (Nat.lt_succ_self _) ⟨_, _, _, _, _, _, Is.cons ha (Is.cons ha (Is.cons ha (Is.nil ha) rfl) rfl) rfl, HS409.sel [0, 1] rfl, H⟩)
      · have H := of_neg H c348
        refine L_exitB (fun a w h => hOp339 (.exit 0) a w rfl (hXb208 a w h)) ?_
        refine L_nil (fun a ha => hNj1 a _ ⟨_, _, _, _, (Option.some.inj H).symm, Is.nil ha, HS347.sel [0, 1] rfl⟩)
  · obtain ⟨l206, y207, A204, c205, rfl, ha, HS411⟩ := hR
    refine wpLF_app ?_ ha
    refine L_nil (fun a ha => (post_end0 ha rfl ?_))
    obtain rfl := Option.some.inj H
    exact ⟨_, _, rfl, HS411.sel [0, 1] rfl⟩

/-! function 19: (*valise/bits.Writer).Put -/
theorem bits_Writer_Put.calls {S0 : Nat → Prop} {w0 : World} {g_w_0 : Nat} {A_w_0_bytes : Option Addr} {c_w_0_bytes : Nat} {w_0_bytes : List Int} {w_0_count : Int} {v_1 : Int} {n_2 : Int} {r : Int × List Int × Int} (HS0 : Hp S0 w0 w0 [.box g_w_0 [.slice A_w_0_bytes w_0_bytes.length c_w_0_bytes, .int .i64 w_0_count] 99, .own A_w_0_bytes c_w_0_bytes (rowC (Eint .u8) w_0_bytes) 5 (Eint .u8).sz]) (h : bits_Writer_Put.f w_0_bytes w_0_count v_1 n_2 = some r) :
    Calls Try.prog 19 ([.pointer (some ⟨g_w_0, 0, none⟩), .int .u32 v_1, .int .i64 n_2] : List Value).toArray w0 (fun e w => ∃ (A_w_0_bytes' : Option Addr), ∃ (c_w_0_bytes' : Nat), e = .returned (.int .i64 r.1) ∧ Hp S0 w0 w [.box g_w_0 [.slice A_w_0_bytes' r.2.1.length c_w_0_bytes', .int .i64 r.2.2] 99, .own A_w_0_bytes' c_w_0_bytes' (rowC (Eint .u8) r.2.1) 5 (Eint .u8).sz]) := by
  have H : (((if (n_2 < 0) ∨ (32 < n_2) then (some true) else (gd (¬ (IntKind.u64.wrap n_2) < 0) (some (decide (shr .u64 (IntKind.u64.wrap v_1) (IntKind.u64.wrap n_2) ≠ 0))))).bind fun b3 => if (b3 = true) ∨ (268435456 < IntKind.i64.wrap (w_0_count + n_2)) then (some (1, w_0_bytes, w_0_count)) else ((bits_Writer_lay.f w_0_bytes w_0_count (IntKind.u64.wrap v_1) n_2).bind fun (z12, z13) => some (0, z12, z13))) : Option (Int × List Int × Int)) = some r := h
  refine calls_start Try.func19 rfl rfl ?_
  refine L_seq ?_
  refine L_region ?_
  refine F_val rfl rfl rfl (O_assign rfl rfl) ?_
  refine F_nil ?_
  refine L_seq ?_
  refine L_seq ?_
  refine L_region ?_
  refine F_val rfl rfl rfl (O_move rfl rfl) ?_
  refine F_val rfl rfl rfl (O_peq rfl rfl rfl Try.underlying31) ?_
  refine F_val rfl rfl rfl (O_move rfl rfl) ?_
  refine F_gval rfl rfl rfl rfl rfl rfl (O_move rfl rfl) ?_
  refine F_gval rfl rfl rfl rfl rfl rfl (O_lt rfl rfl rfl) ?_
  refine F_val rfl rfl rfl (O_pickF rfl rfl rfl) ?_
  refine F_val rfl rfl rfl (O_move rfl rfl) ?_
  refine F_grp 3 [(16, .bool (decide ((n_2 < 0) ∨ (32 < n_2)))), (0, .pointer (some ⟨g_w_0, 0, none⟩)), (1, .int .u32 v_1), (2, .int .i64 n_2)] ?_ ?_
  · rcases Decidable.em (n_2 < 0) with c1 | c1
    · refine F_know (i := 13) rfl (dec_t c1) ?_
      refine F_gskip rfl rfl rfl rfl rfl rfl rfl ?_
      refine F_gskip rfl rfl rfl rfl rfl rfl rfl ?_
      refine F_val rfl rfl rfl (O_pickT rfl rfl rfl) ?_
      refine F_know (i := 16) rfl (dec_or_t (q := 32 < n_2) c1) ?_
      exact F_grpE (fun a ha => Is.cons ha (Is.cons ha (Is.cons ha (Is.cons ha (Is.nil ha) rfl) rfl) rfl) rfl)
    · refine F_know (i := 13) rfl (dec_f c1) ?_
      refine F_gval rfl rfl rfl rfl rfl rfl (O_move rfl rfl) ?_
      refine F_gval rfl rfl rfl rfl rfl rfl (O_gt rfl rfl rfl) ?_
      refine F_val rfl rfl rfl (O_pickF rfl rfl rfl) ?_
      refine F_know (i := 16) rfl (dec_or_f (q := 32 < n_2) c1) ?_
      exact F_grpE (fun a ha => Is.cons ha (Is.cons ha (Is.cons ha (Is.cons ha (Is.nil ha) rfl) rfl) rfl) rfl)
  · skip
    refine F_val rfl rfl rfl (O_move rfl rfl) ?_
    obtain ⟨b3, Hb3, H⟩ := of_bind H
    refine F_grp 7 [(24, .bool b3), (0, .pointer (some ⟨g_w_0, 0, none⟩)), (1, .int .u32 v_1), (2, .int .i64 n_2)] ?_ ?_
    · rcases Decidable.em ((n_2 < 0) ∨ (32 < n_2)) with c4 | c4
      · refine F_know (i := 17) rfl (dec_t c4) ?_
        have H := of_pos Hb3 c4
        refine F_gskip rfl rfl rfl rfl rfl rfl rfl ?_
        refine F_gskip rfl rfl rfl rfl rfl rfl rfl ?_
        refine F_gskip rfl rfl rfl rfl rfl rfl rfl ?_
        refine F_gskip rfl rfl rfl rfl rfl rfl rfl ?_
        refine F_gskip rfl rfl rfl rfl rfl rfl rfl ?_
        refine F_gskip rfl rfl rfl rfl rfl rfl rfl ?_
        refine F_val rfl rfl rfl (O_pickT rfl rfl rfl) ?_
        refine F_know (i := 24) rfl (congrArg Value.bool (Option.some.inj H)) ?_
        exact F_grpE (fun a ha => Is.cons ha (Is.cons ha (Is.cons ha (Is.cons ha (Is.nil ha) rfl) rfl) rfl) rfl)
      · refine F_know (i := 17) rfl (dec_f c4) ?_
        have H := of_neg Hb3 c4
        refine F_gval rfl rfl rfl rfl rfl rfl (O_move rfl rfl) ?_
        refine F_gval rfl rfl rfl rfl rfl rfl (O_conv rfl rfl ⟨_, Try.underlying22⟩ Try.underlying87) ?_
        refine F_gval rfl rfl rfl rfl rfl rfl (O_move rfl rfl) ?_
        refine F_gval rfl rfl rfl rfl rfl rfl (O_conv rfl rfl ⟨_, Try.underlying3⟩ Try.underlying75) ?_
        obtain ⟨g5, H⟩ := of_gd H
        refine F_gval rfl rfl rfl rfl rfl rfl (O_shr rfl rfl rfl g5) ?_
        refine F_gval rfl rfl rfl rfl rfl rfl (O_ne rfl rfl rfl) ?_
        refine F_val rfl rfl rfl (O_pickF rfl rfl rfl) ?_
        refine F_know (i := 24) rfl (congrArg Value.bool (Option.some.inj H)) ?_
        exact F_grpE (fun a ha => Is.cons ha (Is.cons ha (Is.cons ha (Is.cons ha (Is.nil ha) rfl) rfl) rfl) rfl)
    · skip
      refine F_val rfl rfl rfl (O_move rfl rfl) ?_
      refine F_grp 8 [(33, .bool (decide ((b3 = true) ∨ (268435456 < IntKind.i64.wrap (w_0_count + n_2))))), (0, .pointer (some ⟨g_w_0, 0, none⟩)), (1, .int .u32 v_1), (2, .int .i64 n_2)] ?_ ?_
      · rcases Decidable.em (b3 = true) with c6 | c6
        · refine F_know (i := 25) rfl (congrArg Value.bool c6) ?_
          refine F_gskip rfl rfl rfl rfl rfl rfl rfl ?_
          refine F_gskip rfl rfl rfl rfl rfl rfl rfl ?_
          refine F_gskip rfl rfl rfl rfl rfl rfl rfl ?_
          refine F_gskip rfl rfl rfl rfl rfl rfl rfl ?_
          refine F_gskip rfl rfl rfl rfl rfl rfl rfl ?_
          refine F_gskip rfl rfl rfl rfl rfl rfl rfl ?_
          refine F_gskip rfl rfl rfl rfl rfl rfl rfl ?_
          refine F_val rfl rfl rfl (O_pickT rfl rfl rfl) ?_
          refine F_know (i := 33) rfl (dec_or_t (q := 268435456 < IntKind.i64.wrap (w_0_count + n_2)) c6) ?_
          exact F_grpE (fun a ha => Is.cons ha (Is.cons ha (Is.cons ha (Is.cons ha (Is.nil ha) rfl) rfl) rfl) rfl)
        · refine F_know (i := 25) rfl (congrArg Value.bool (Bool.eq_false_iff.mpr c6)) ?_
          refine F_gval rfl rfl rfl rfl rfl rfl (O_move rfl rfl) ?_
          refine F_gval rfl rfl rfl rfl rfl rfl (O_nilCheck rfl rfl) ?_
          refine F_gval rfl rfl rfl rfl rfl rfl (O_fieldB rfl rfl field99_1) ?_
          refine F_gval rfl rfl rfl rfl rfl rfl (O_loadB rfl rfl flat3 (HS0.cells_box (i := 0) rfl) rfl) ?_
          refine F_gval rfl rfl rfl rfl rfl rfl (O_move rfl rfl) ?_
          refine F_gval rfl rfl rfl rfl rfl rfl (O_add rfl rfl rfl) ?_
          refine F_gval rfl rfl rfl rfl rfl rfl (O_gt rfl rfl rfl) ?_
          refine F_val rfl rfl rfl (O_pickF rfl rfl rfl) ?_
          refine F_know (i := 33) rfl (dec_or_f (q := 268435456 < IntKind.i64.wrap (w_0_count + n_2)) c6) ?_
          exact F_grpE (fun a ha => Is.cons ha (Is.cons ha (Is.cons ha (Is.cons ha (Is.nil ha) rfl) rfl) rfl) rfl)
      · skip
        refine F_nil ?_
        refine L_condP rfl (fun c7 => ?_) (fun c7 => ?_)
        · have H := of_pos H c7
          refine L_seq ?_
          refine L_region ?_
          refine F_val rfl rfl rfl (O_assign rfl rfl) ?_
          refine F_nil ?_
          refine L_ret (fun a ha => (post_ret1 ha rfl rfl ?_))
          obtain rfl := Option.some.inj H
          exact ⟨_, _, rfl, HS0.sel [0, 1] rfl⟩
        · have H := of_neg H c7
          refine L_skip ?_
          refine L_seq ?_
          refine L_region ?_
          refine F_val rfl rfl rfl (O_move rfl rfl) ?_
          refine F_val rfl rfl rfl (O_move rfl rfl) ?_
          refine F_val rfl rfl rfl (O_conv rfl rfl ⟨_, Try.underlying22⟩ Try.underlying87) ?_
          refine F_val rfl rfl rfl (O_move rfl rfl) ?_
          obtain ⟨⟨z12, z13⟩, h11, H⟩ := of_bind H
          refine F_call (xs := [.tmp 34, .tmp 36, .tmp 37]) rfl rfl rfl rfl Try.func56 nm56 rfl rfl ((bits_Writer_lay.calls (HS0.give [0, 1] rfl (Lent.nil)) h11).mono (fun e w hc => ?_))
          obtain ⟨A16, c17, rfl, HSo⟩ := hc
          refine ⟨.tuple #[], rfl, ?_⟩
          have HS15 : Hp S0 w0 w [.box g_w_0 [.slice A16 z12.length c17, .int .i64 z13] 99, .own A16 c17 (rowC (Eint .u8) z12) 5 (Eint .u8).sz] := (HS0.back [0, 1] HSo rfl).sel [2, 3] rfl
          refine F_nil ?_
          refine L_seq ?_
          refine L_region ?_
          refine F_val rfl rfl rfl (O_assign rfl rfl) ?_
          refine F_nil ?_
          refine L_ret (fun a ha => (post_ret1 ha rfl rfl ?_))
          obtain rfl := Option.some.inj H
          exact ⟨_, _, rfl, HS15.sel [0, 1] rfl⟩

/-! function 21: (*valise/bits.Writer).Bytes -/
theorem bits_Writer_Bytes.calls {S0 : Nat → Prop} {w0 : World} {g_w_0 : Nat} {A_w_0_bytes : Option Addr} {c_w_0_bytes : Nat} {w_0_bytes : List Int} {w_0_count : Int} {r : List Int} (HS0 : Hp S0 w0 w0 [.rd (some ⟨g_w_0, 0, none⟩) [.slice A_w_0_bytes w_0_bytes.length c_w_0_bytes, .int .i64 w_0_count], .rd A_w_0_bytes (rowC (Eint .u8) w_0_bytes)]) (h : bits_Writer_Bytes.f w_0_bytes w_0_count = some r) :
    Calls Try.prog 21 ([.pointer (some ⟨g_w_0, 0, none⟩)] : List Value).toArray w0 (fun e w => ∃ (A1 : Option Addr), ∃ (c1 : Nat), e = .returned (.slice A1 r.length c1) ∧ Hp S0 w0 w [.own A1 c1 (rowC (Eint .u8) r) 5 (Eint .u8).sz]) := by
  have H : ((if (w_0_bytes.length : Int) = 0 then (some ([] : List Int)) else (gd ((0 : Int) ≤ (w_0_bytes.length : Int) ∧ (w_0_bytes.length : Int) * 1 ≤ 281474976710656) (bnd (List.replicate ((w_0_bytes.length : Int) : Int).toNat (0 : Int)) fun l8 => bnd (cpy l8 w_0_bytes) fun l15 => some l15))) : Option (List Int)) = some r := h
  refine calls_start Try.func21 rfl rfl ?_
  refine L_seq ?_
  refine L_region ?_
  refine F_val rfl rfl rfl (O_assign rfl rfl) ?_
  refine F_nil ?_
  refine L_seq ?_
  refine L_seq ?_
  refine L_region ?_
  refine F_val rfl rfl rfl (O_move rfl rfl) ?_
  refine F_val rfl rfl rfl (O_peq rfl rfl rfl Try.underlying31) ?_
  refine F_val rfl rfl rfl (O_move rfl rfl) ?_
  refine F_gval rfl rfl rfl rfl rfl rfl (O_move rfl rfl) ?_
  refine F_gval rfl rfl rfl rfl rfl rfl (O_nilCheck rfl rfl) ?_
  refine F_gval rfl rfl rfl rfl rfl rfl (O_fieldB rfl rfl field99_0) ?_
  refine F_gval rfl rfl rfl rfl rfl rfl (O_loadB rfl rfl flat35 (HS0.cells_rd (i := 0) rfl) rfl) ?_
  refine F_gval rfl rfl rfl rfl rfl rfl (O_len rfl rfl Try.underlying35) ?_
  refine F_gval rfl rfl rfl rfl rfl rfl (O_eq rfl rfl rfl) ?_
  refine F_val rfl rfl rfl (O_pickF rfl rfl rfl) ?_
  refine F_nil ?_
  refine L_condP rfl (fun c1 => ?_) (fun c1 => ?_)
  · have H := of_pos H c1
    refine L_seq ?_
    refine L_region ?_
    refine F_val rfl rfl rfl (O_assign rfl rfl) ?_
    refine F_nil ?_
    have HS2 := HS0.addNil 5 (Eint .u8).sz
    refine L_ret (fun a ha => (post_ret1 ha rfl rfl ?_))
    obtain rfl := Option.some.inj H
    exact ⟨_, _, rfl, HS2.sel [2] rfl⟩
  · have H := of_neg H c1
    refine L_skip ?_
    refine L_seq ?_
    refine L_region ?_
    refine F_val rfl rfl rfl (O_move rfl rfl) ?_
    refine F_val rfl rfl rfl (O_nilCheck rfl rfl) ?_
    refine F_val rfl rfl rfl (O_fieldB rfl rfl field99_0) ?_
    refine F_val rfl rfl rfl (O_loadB rfl rfl flat35 (HS0.cells_rd (i := 0) rfl) rfl) ?_
    refine F_val rfl rfl rfl (O_len rfl rfl Try.underlying35) ?_
    obtain ⟨⟨g6, g7⟩, H⟩ := of_gd H
    obtain ⟨l8, h9, H⟩ := of_bnd H
    refine F_makeE (E := (Eint .u8)) rfl rfl rfl rfl rfl rfl Try.underlying35 info5 rfl (by decide) (by decide) g6 g7 HS0 h9 (fun w4 A10 c11 HS5 => ?_)
    have HS5 : Hp S0 w0 w4 [.rd (some ⟨g_w_0, 0, none⟩) [.slice A_w_0_bytes w_0_bytes.length c_w_0_bytes, .int .i64 w_0_count], .rd A_w_0_bytes (rowC (Eint .u8) w_0_bytes), .own A10 c11 (rowC (Eint .u8) l8) 5 (Eint .u8).sz] := HS5
    refine F_val rfl rfl rfl (O_assign rfl rfl) ?_
    refine F_nil ?_
    refine L_seq ?_
    refine L_region ?_
    refine F_val rfl rfl rfl (O_move rfl rfl) ?_
    refine F_val rfl rfl rfl (O_move rfl rfl) ?_
    refine F_val rfl rfl rfl (O_nilCheck rfl rfl) ?_
    refine F_val rfl rfl rfl (O_fieldB rfl rfl field99_0) ?_
    refine F_val rfl rfl rfl (O_loadB rfl rfl flat35 (HS5.cells_rd (i := 0) rfl) rfl) ?_
    obtain ⟨l15, h16, H⟩ := of_bnd H
    refine F_copyE (E := (Eint .u8)) (xs := l8) (ys := w_0_bytes) (i := 2) rfl rfl rfl rfl Try.underlying35 size5 rfl rfl HS5 rfl (HS5.cells_rd (i := 1) rfl) h16 (fun w13 HS14 => ?_)
    have e17 : l8.length = l15.length := by rw [← h16, cpy_length]
    refine F_know (i := 3) rfl (congrArg (fun n => Value.slice A10 n c11) e17) ?_
    have HS14 : Hp S0 w0 w13 [.rd (some ⟨g_w_0, 0, none⟩) [.slice A_w_0_bytes w_0_bytes.length c_w_0_bytes, .int .i64 w_0_count], .rd A_w_0_bytes (rowC (Eint .u8) w_0_bytes), .own A10 c11 (rowC (Eint .u8) l15) 5 (Eint .u8).sz] := HS14
    refine F_nil ?_
    refine L_seq ?_
    refine L_region ?_
    refine F_val rfl rfl rfl (O_move rfl rfl) ?_
    refine F_val rfl rfl rfl (O_assign rfl rfl) ?_
    refine F_nil ?_
    refine L_ret (fun a ha => (post_ret1 ha rfl rfl ?_))
    obtain rfl := Option.some.inj H
    exact ⟨_, _, rfl, HS14.sel [2] rfl⟩

/-! function 22: (*valise/bits.Writer).Join -/
theorem bits_Writer_Join.calls {S0 : Nat → Prop} {w0 : World} {g_w_0 : Nat} {A_w_0_bytes : Option Addr} {c_w_0_bytes : Nat} {g_x_1 : Nat} {A_x_1_bytes : Option Addr} {c_x_1_bytes : Nat} {w_0_bytes : List Int} {w_0_count : Int} {x_1_bytes : List Int} {x_1_count : Int} {r : Int × List Int × Int} (HS0 : Hp S0 w0 w0 [.box g_w_0 [.slice A_w_0_bytes w_0_bytes.length c_w_0_bytes, .int .i64 w_0_count] 99, .own A_w_0_bytes c_w_0_bytes (rowC (Eint .u8) w_0_bytes) 5 (Eint .u8).sz, .rd (some ⟨g_x_1, 0, none⟩) [.slice A_x_1_bytes x_1_bytes.length c_x_1_bytes, .int .i64 x_1_count], .rd A_x_1_bytes (rowC (Eint .u8) x_1_bytes)]) (h : bits_Writer_Join.f w_0_bytes w_0_count x_1_bytes x_1_count = some r) :
    Calls Try.prog 22 ([.pointer (some ⟨g_w_0, 0, none⟩), .pointer (some ⟨g_x_1, 0, none⟩)] : List Value).toArray w0 (fun e w => ∃ (A_w_0_bytes' : Option Addr), ∃ (c_w_0_bytes' : Nat), e = .returned (.int .i64 r.1) ∧ Hp S0 w0 w [.box g_w_0 [.slice A_w_0_bytes' r.2.1.length c_w_0_bytes', .int .i64 r.2.2] 99, .own A_w_0_bytes' c_w_0_bytes' (rowC (Eint .u8) r.2.1) 5 (Eint .u8).sz]) := by
  have H : ((if 268435456 < IntKind.i64.wrap (w_0_count + x_1_count) then (some (1, w_0_bytes, w_0_count)) else (gd ((0 : Int) ≤ (x_1_bytes.length : Int) ∧ (x_1_bytes.length : Int) * 1 ≤ 281474976710656) (bnd (List.replicate ((x_1_bytes.length : Int) : Int).toNat (0 : Int)) fun l9 => bnd (cpy l9 x_1_bytes) fun l16 => if Int.tmod w_0_count 8 = 0 then (bnd (w_0_bytes ++ l16) fun l22 => gd ((l22.length : Int) * 1 ≤ 140737488355328) (some (0, l22, IntKind.i64.wrap (w_0_count + x_1_count)))) else ((bits_Writer_Join.l1 FU w_0_bytes w_0_count x_1_count 0 l16).bind fun (l110, y111) => some (0, l110, y111))))) : Option (Int × List Int × Int)) = some r := h
  refine calls_start Try.func22 rfl rfl ?_
  refine L_seq ?_
  refine L_region ?_
  refine F_val rfl rfl rfl (O_assign rfl rfl) ?_
  refine F_nil ?_
  refine L_seq ?_
  refine L_seq ?_
  refine L_quiet mix (by kernel_rfl) ?_
  refine Q_val rfl rfl rfl (fun wq hq => O_move rfl rfl) ?_
  refine Q_val rfl rfl rfl (fun wq hq => O_peq rfl rfl rfl Try.underlying31) ?_
  refine Q_val rfl rfl rfl (fun wq hq => O_move rfl rfl) ?_
  refine Q_gval rfl rfl rfl rfl rfl rfl (fun wq hq => O_move rfl rfl) ?_
  refine Q_gval rfl rfl rfl rfl rfl rfl (fun wq hq => O_peq rfl rfl rfl Try.underlying31) ?_
  refine Q_val rfl rfl rfl (fun wq hq => O_pickF rfl rfl rfl) ?_
  refine Q_val rfl rfl rfl (fun wq hq => O_move rfl rfl) ?_
  refine Q_gval rfl rfl rfl rfl rfl rfl (fun wq hq => O_move rfl rfl) ?_
  refine Q_gval rfl rfl rfl rfl rfl rfl (fun wq hq => O_nilCheck rfl rfl) ?_
  refine Q_gval rfl rfl rfl rfl rfl rfl (fun wq hq => O_fieldB rfl rfl field99_1) ?_
  refine Q_gval rfl rfl rfl rfl rfl rfl (fun wq hq => O_loadB rfl rfl flat3 ((HS0.keep hq).cells_box (i := 0) rfl) rfl) ?_
  refine Q_gval rfl rfl rfl rfl rfl rfl (fun wq hq => O_move rfl rfl) ?_
  refine Q_gval rfl rfl rfl rfl rfl rfl (fun wq hq => O_nilCheck rfl rfl) ?_
  refine Q_gval rfl rfl rfl rfl rfl rfl (fun wq hq => O_fieldB rfl rfl field99_1) ?_
  refine Q_gval rfl rfl rfl rfl rfl rfl (fun wq hq => O_loadB rfl rfl flat3 ((HS0.keep hq).cells_rd (i := 2) rfl) rfl) ?_
  refine Q_gval rfl rfl rfl rfl rfl rfl (fun wq hq => O_add rfl rfl rfl) ?_
  refine Q_gval rfl rfl rfl rfl rfl rfl (fun wq hq => O_gt rfl rfl rfl) ?_
  refine Q_val rfl rfl rfl (fun wq hq => O_pickF rfl rfl rfl) ?_
  refine Q_nil (fun w1 hw2 => ?_)
  have HS3 := HS0.keep hw2
  refine L_condP rfl (fun c4 => ?_) (fun c4 => ?_)
  · have H := of_pos H c4
    refine L_seq ?_
    refine L_region ?_
    refine F_val rfl rfl rfl (O_assign rfl rfl) ?_
    refine F_nil ?_
    refine L_ret (fun a ha => (post_ret1 ha rfl rfl ?_))
    obtain rfl := Option.some.inj H
    exact ⟨_, _, rfl, HS3.sel [0, 1] rfl⟩
  · have H := of_neg H c4
    refine L_skip ?_
    refine L_seq ?_
    refine L_region ?_
    refine F_val rfl rfl rfl (O_move rfl rfl) ?_
    refine F_val rfl rfl rfl (O_nilCheck rfl rfl) ?_
    refine F_val rfl rfl rfl (O_fieldB rfl rfl field99_1) ?_
    refine F_val rfl rfl rfl (O_loadB rfl rfl flat3 (HS3.cells_rd (i := 2) rfl) rfl) ?_
    refine F_val rfl rfl rfl (O_assign rfl rfl) ?_
    refine F_nil ?_
    refine L_seq ?_
    refine L_region ?_
    refine F_val rfl rfl rfl (O_move rfl rfl) ?_
    refine F_val rfl rfl rfl (O_nilCheck rfl rfl) ?_
    refine F_val rfl rfl rfl (O_fieldB rfl rfl field99_0) ?_
    refine F_val rfl rfl rfl (O_loadB rfl rfl flat35 (HS3.cells_rd (i := 2) rfl) rfl) ?_
    refine F_val rfl rfl rfl (O_len rfl rfl Try.underlying35) ?_
    obtain ⟨⟨g7, g8⟩, H⟩ := of_gd H
    obtain ⟨l9, h10, H⟩ := of_bnd H
    refine F_makeE (E := (Eint .u8)) rfl rfl rfl rfl rfl rfl Try.underlying35 info5 rfl (by decide) (by decide) g7 g8 HS3 h10 (fun w5 A11 c12 HS6 => ?_)
    have HS6 : Hp S0 w0 w5 [.box g_w_0 [.slice A_w_0_bytes w_0_bytes.length c_w_0_bytes, .int .i64 w_0_count] 99, .own A_w_0_bytes c_w_0_bytes (rowC (Eint .u8) w_0_bytes) 5 (Eint .u8).sz, .rd (some ⟨g_x_1, 0, none⟩) [.slice A_x_1_bytes x_1_bytes.length c_x_1_bytes, .int .i64 x_1_count], .rd A_x_1_bytes (rowC (Eint .u8) x_1_bytes), .own A11 c12 (rowC (Eint .u8) l9) 5 (Eint .u8).sz] := HS6
    refine F_val rfl rfl rfl (O_assign rfl rfl) ?_
    refine F_nil ?_
    refine L_seq ?_
    refine L_region ?_
    refine F_val rfl rfl rfl (O_move rfl rfl) ?_
    refine F_val rfl rfl rfl (O_move rfl rfl) ?_
    refine F_val rfl rfl rfl (O_nilCheck rfl rfl) ?_
    refine F_val rfl rfl rfl (O_fieldB rfl rfl field99_0) ?_
    refine F_val rfl rfl rfl (O_loadB rfl rfl flat35 (HS6.cells_rd (i := 2) rfl) rfl) ?_
    obtain ⟨l16, h17, H⟩ := of_bnd H
    refine F_copyE (E := (Eint .u8)) (xs := l9) (ys := x_1_bytes) (i := 4) rfl rfl rfl rfl Try.underlying35 size5 rfl rfl HS6 rfl (HS6.cells_rd (i := 3) rfl) h17 (fun w14 HS15 => ?_)
    have e18 : l9.length = l16.length := by rw [← h17, cpy_length]
    refine F_know (i := 6) rfl (congrArg (fun n => Value.slice A11 n c12) e18) ?_
    have HS15 : Hp S0 w0 w14 [.box g_w_0 [.slice A_w_0_bytes w_0_bytes.length c_w_0_bytes, .int .i64 w_0_count] 99, .own A_w_0_bytes c_w_0_bytes (rowC (Eint .u8) w_0_bytes) 5 (Eint .u8).sz, .rd (some ⟨g_x_1, 0, none⟩) [.slice A_x_1_bytes x_1_bytes.length c_x_1_bytes, .int .i64 x_1_count], .rd A_x_1_bytes (rowC (Eint .u8) x_1_bytes), .own A11 c12 (rowC (Eint .u8) l16) 5 (Eint .u8).sz] := HS15
    refine F_nil ?_
    refine L_seq ?_
    refine L_seq ?_
    refine L_region ?_
    refine F_val rfl rfl rfl (O_move rfl rfl) ?_
    refine F_val rfl rfl rfl (O_nilCheck rfl rfl) ?_
    refine F_val rfl rfl rfl (O_fieldB rfl rfl field99_1) ?_
    refine F_val rfl rfl rfl (O_loadB rfl rfl flat3 (HS15.cells_box (i := 0) rfl) rfl) ?_
    refine F_val rfl rfl rfl (O_rem rfl rfl rfl (by decide)) ?_
    refine F_val rfl rfl rfl (O_eq rfl rfl rfl) ?_
    refine F_nil ?_
    refine L_condP rfl (fun c19 => ?_) (fun c19 => ?_)
    · have H := of_pos H c19
      refine L_seq ?_
      refine L_region ?_
      refine F_val rfl rfl rfl (O_move rfl rfl) ?_
      refine F_val rfl rfl rfl (O_move rfl rfl) ?_
      refine F_val rfl rfl rfl (O_nilCheck rfl rfl) ?_
      refine F_val rfl rfl rfl (O_fieldB rfl rfl field99_0) ?_
      refine F_val rfl rfl rfl (O_loadB rfl rfl flat35 (HS15.cells_box (i := 0) rfl) rfl) ?_
      refine F_val rfl rfl rfl (O_move rfl rfl) ?_
      obtain ⟨l22, h23, H⟩ := of_bnd H
      obtain ⟨g24, H⟩ := of_gd H
      refine F_appE (E := (Eint .u8)) (xs := w_0_bytes) (ys := l16) (i := 1) rfl rfl rfl rfl Try.underlying35 info5 rfl (by decide) (by decide) rfl rfl HS15 rfl (HS15.cells_own (i := 4) rfl) h23 g24 (fun w20 A25 c26 HS21 => ?_)
      have HS21 : Hp S0 w0 w20 [.box g_w_0 [.slice A_w_0_bytes w_0_bytes.length c_w_0_bytes, .int .i64 w_0_count] 99, .own A25 c26 (rowC (Eint .u8) l22) 5 (Eint .u8).sz, .rd (some ⟨g_x_1, 0, none⟩) [.slice A_x_1_bytes x_1_bytes.length c_x_1_bytes, .int .i64 x_1_count], .rd A_x_1_bytes (rowC (Eint .u8) x_1_bytes), .own A11 c12 (rowC (Eint .u8) l16) 5 (Eint .u8).sz] := HS21
      refine F_val rfl rfl rfl (O_nilCheck rfl rfl) ?_
      refine F_val rfl rfl rfl (O_fieldB rfl rfl field99_0) ?_
      refine F_stB 0 ([.slice A25 l22.length c26, .int .i64 w_0_count]) rfl rfl rfl rfl rfl size35 HS21 rfl rfl rfl rfl rfl (fun w27 HS28 => ?_)
      have HS28 : Hp S0 w0 w27 [.box g_w_0 [.slice A25 l22.length c26, .int .i64 w_0_count] 99, .own A25 c26 (rowC (Eint .u8) l22) 5 (Eint .u8).sz, .rd (some ⟨g_x_1, 0, none⟩) [.slice A_x_1_bytes x_1_bytes.length c_x_1_bytes, .int .i64 x_1_count], .rd A_x_1_bytes (rowC (Eint .u8) x_1_bytes), .own A11 c12 (rowC (Eint .u8) l16) 5 (Eint .u8).sz] := HS28
      refine F_nil ?_
      refine L_seq ?_
      refine L_region ?_
      refine F_val rfl rfl rfl (O_move rfl rfl) ?_
      refine F_val rfl rfl rfl (O_nilCheck rfl rfl) ?_
      refine F_val rfl rfl rfl (O_fieldB rfl rfl field99_1) ?_
      refine F_val rfl rfl rfl (O_loadB rfl rfl flat3 (HS28.cells_box (i := 0) rfl) rfl) ?_
      refine F_val rfl rfl rfl (O_move rfl rfl) ?_
      refine F_val rfl rfl rfl (O_add rfl rfl rfl) ?_
      refine F_val rfl rfl rfl (O_nilCheck rfl rfl) ?_
      refine F_val rfl rfl rfl (O_fieldB rfl rfl field99_1) ?_
      refine F_stB 0 ([.slice A25 l22.length c26, .int .i64 (IntKind.i64.wrap (w_0_count + x_1_count))]) rfl rfl rfl rfl rfl size3 HS28 rfl rfl rfl rfl rfl (fun w29 HS30 => ?_)
      have HS30 : Hp S0 w0 w29 [.box g_w_0 [.slice A25 l22.length c26, .int .i64 (IntKind.i64.wrap (w_0_count + x_1_count))] 99, .own A25 c26 (rowC (Eint .u8) l22) 5 (Eint .u8).sz, .rd (some ⟨g_x_1, 0, none⟩) [.slice A_x_1_bytes x_1_bytes.length c_x_1_bytes, .int .i64 x_1_count], .rd A_x_1_bytes (rowC (Eint .u8) x_1_bytes), .own A11 c12 (rowC (Eint .u8) l16) 5 (Eint .u8).sz] := HS30
      refine F_nil ?_
      refine L_seq ?_
      refine L_region ?_
      refine F_val rfl rfl rfl (O_assign rfl rfl) ?_
      refine F_nil ?_
      refine L_ret (fun a ha => (post_ret1 ha rfl rfl ?_))
      obtain rfl := Option.some.inj H
      exact ⟨_, _, rfl, HS30.sel [0, 1] rfl⟩
    · have H := of_neg H c19
      refine L_skip ?_
      refine L_seq ?_
      refine L_seq ?_
      refine L_region ?_
      refine F_val rfl rfl rfl (O_move rfl rfl) ?_
      refine F_val rfl rfl rfl (O_len rfl rfl Try.underlying35) ?_
      refine F_val rfl rfl rfl (O_move rfl rfl) ?_
      refine F_nil ?_
      obtain ⟨yj31, Hyj31, H⟩ := of_bind H
      refine L_join (fun a w => ∃ (l110 : List Int), ∃ (y111 : Int), ∃ (A108 : Option Addr), ∃ (c109 : Nat), yj31 = (l110, y111) ∧ Is Try.f22.ntmps a [] ∧ Hp S0 w0 w [.box g_w_0 [.slice A108 l110.length c109, .int .i64 y111] 99, .own A108 c109 (rowC (Eint .u8) l110) 5 (Eint .u8).sz, .rd (some ⟨g_x_1, 0, none⟩) [.slice A_x_1_bytes x_1_bytes.length c_x_1_bytes, .int .i64 x_1_count], .rd A_x_1_bytes (rowC (Eint .u8) x_1_bytes)]) (fun Qj31 hNj31 hOj31 => ?_) (fun a w hR => ?_)
      · skip
        have H := Hyj31
        refine L_blk (fun Qb112 hNb112 hXb112 hOb112 => ?_)
        refine L_lp (fun k a w => ∃ (l162 : List Int), ∃ (y163 : Int), ∃ (count_164 : Int), ∃ (t165 : Int), ∃ (A160 : Option Addr), ∃ (c161 : Nat), Is Try.f22.ntmps a [(0, .pointer (some ⟨g_w_0, 0, none⟩)), (5, .int .i64 count_164), (67, .slice A11 l16.length c12), (68, .int .i64 (l16.length : Int)), (69, .int .i64 t165)] ∧ Hp S0 w0 w [.box g_w_0 [.slice A160 l162.length c161, .int .i64 y163] 99, .own A160 c161 (rowC (Eint .u8) l162) 5 (Eint .u8).sz, .rd (some ⟨g_x_1, 0, none⟩) [.slice A_x_1_bytes x_1_bytes.length c_x_1_bytes, .int .i64 x_1_count], .rd A_x_1_bytes (rowC (Eint .u8) x_1_bytes), .own A11 c12 (rowC (Eint .u8) l16) 5 (Eint .u8).sz] ∧ bits_Writer_Join.l1 k l162 y163 count_164 t165 l16 = some yj31) FU (fun a ha => ⟨_, _, _, _, _, _, Is.cons ha (Is.cons ha (Is.cons ha (Is.cons ha (Is.cons ha (Is.nil ha) rfl) rfl) rfl) rfl) rfl, HS15.sel [0, 1, 2, 3, 4] rfl, H⟩) (fun kp159 a w166 hI Qp159 hNp159 hOp159 => ?_)
        obtain ⟨l162, y163, count_164, t165, A160, c161, ha, HS167, HAp159⟩ := hI
        cases kp159 with
        | zero => cases (show (none : Option _) = some _ from HAp159)
        | succ kp159 =>
          have H := (bits_Writer_Join.l1.eq_2 ..).symm.trans HAp159
          refine wpLF_app ?_ ha
          refine L_seq ?_
          refine L_region ?_
          refine F_val rfl rfl rfl (O_lt rfl rfl rfl) ?_
          refine F_nil ?_
          refine L_seq ?_
          refine L_condP rfl (fun c168 => ?_) (fun c168 => ?_)
          · have H := of_pos H c168
            refine L_skip ?_
            refine L_seq ?_
            refine L_blk (fun Q169 hN169 hX169 hO169 => ?_)
            refine L_seq ?_
            refine L_region ?_
            obtain ⟨⟨g170, g171⟩, H⟩ := of_gd H
            refine F_val rfl rfl rfl (O_idx rfl rfl rfl Try.underlying35 size5 g170 g171 (Cells.isA (HS167.cells_own (i := 4) rfl) (rowC_ne (E := (Eint .u8)) g170 g171 (by decide)))) ?_
            refine F_val rfl rfl rfl (O_loadC rfl rfl flat5 (HS167.cells_own (i := 4) rfl) (int_cell g170 g171)) ?_
            obtain ⟨x172, h173, H⟩ := of_bnd H
            refine F_val rfl rfl rfl (O_assign' rfl rfl (congrArg (Value.int .u8) h173)) ?_
            refine F_nil ?_
            refine L_seq ?_
            refine L_region ?_
            refine F_val rfl rfl rfl (O_move rfl rfl) ?_
            refine F_val rfl rfl rfl (O_min rfl rfl rfl) ?_
            obtain ⟨x174, h175, H⟩ := of_bnd H
            refine F_val rfl rfl rfl (O_assign' rfl rfl (congrArg (Value.int .i64) h175)) ?_
            refine F_nil ?_
            refine L_seq ?_
            refine L_region ?_
            refine F_val rfl rfl rfl (O_move rfl rfl) ?_
            refine F_val rfl rfl rfl (O_move rfl rfl) ?_
            refine F_val rfl rfl rfl (O_conv rfl rfl ⟨_, Try.underlying5⟩ Try.underlying87) ?_
            refine F_val rfl rfl rfl (O_move rfl rfl) ?_
            obtain ⟨⟨z180, z181⟩, h179, H⟩ := of_bind H
            refine F_call (xs := [.tmp 75, .tmp 77, .tmp 78]) rfl rfl rfl rfl Try.func56 nm56 rfl rfl ((bits_Writer_lay.calls (HS167.give [0, 1] rfl (Lent.nil)) h179).mono (fun e w hc => ?_))
            obtain ⟨A184, c185, rfl, HSo⟩ := hc
            refine ⟨.tuple #[], rfl, ?_⟩
            have HS183 : Hp S0 w0 w [.box g_w_0 [.slice A184 z180.length c185, .int .i64 z181] 99, .own A184 c185 (rowC (Eint .u8) z180) 5 (Eint .u8).sz, .rd (some ⟨g_x_1, 0, none⟩) [.slice A_x_1_bytes x_1_bytes.length c_x_1_bytes, .int .i64 x_1_count], .rd A_x_1_bytes (rowC (Eint .u8) x_1_bytes), .own A11 c12 (rowC (Eint .u8) l16) 5 (Eint .u8).sz] := (HS167.back [0, 1] HSo rfl).sel [5, 6, 2, 3, 4] rfl
            refine F_nil ?_
            refine L_region ?_
            refine F_val rfl rfl rfl (O_move rfl rfl) ?_
            refine F_val rfl rfl rfl (O_move rfl rfl) ?_
            refine F_val rfl rfl rfl (O_sub rfl rfl rfl) ?_
            obtain ⟨x186, h187, H⟩ := of_bnd H
            refine F_val rfl rfl rfl (O_assign' rfl rfl (congrArg (Value.int .i64) h187)) ?_
            refine F_nil ?_
            refine L_endB hN169 ?_
            refine L_region ?_
            refine F_val rfl rfl rfl (O_add rfl rfl rfl) ?_
            refine F_val rfl rfl rfl (O_move rfl rfl) ?_
            refine F_nil ?_
            refine L_nil (fun a ha => hNp159 _ a _ (Nat.lt_succ_self _) ⟨_, _, _, _, _, _, Is.cons ha (Is.cons ha (Is.cons ha (Is.cons ha (Is.cons ha (Is.nil ha) rfl) rfl) rfl) rfl) rfl, HS183.sel [0, 1, 2, 3, 4] rfl, H⟩)
          · have H := of_neg H c168
            refine L_exitB (fun a w h => hOp159 (.exit 0) a w rfl (hXb112 a w h)) ?_
            refine L_nil (fun a ha => hNj31 a _ ⟨_, _, _, _, (Option.some.inj H).symm, Is.nil ha, HS167.sel [0, 1, 2, 3] rfl⟩)
      · obtain ⟨l110, y111, A108, c109, rfl, ha, HS189⟩ := hR
        refine wpLF_app ?_ ha
        refine L_seq ?_
        refine L_region ?_
        refine F_val rfl rfl rfl (O_assign rfl rfl) ?_
        refine F_nil ?_
        refine L_ret (fun a ha => (post_ret1 ha rfl rfl ?_))
        obtain rfl := Option.some.inj H
        exact ⟨_, _, rfl, HS189.sel [0, 1] rfl⟩

/-! function 23: (*valise/bits.Writer).Len -/
theorem bits_Writer_Len.calls {S0 : Nat → Prop} {w0 : World} {g_w_0 : Nat} {A_w_0_bytes : Option Addr} {c_w_0_bytes : Nat} {w_0_bytes : List Int} {w_0_count : Int} {r : Int} (HS0 : Hp S0 w0 w0 [.rd (some ⟨g_w_0, 0, none⟩) [.slice A_w_0_bytes w_0_bytes.length c_w_0_bytes, .int .i64 w_0_count], .rd A_w_0_bytes (rowC (Eint .u8) w_0_bytes)]) (h : bits_Writer_Len.f w_0_bytes w_0_count = some r) :
    Calls Try.prog 23 ([.pointer (some ⟨g_w_0, 0, none⟩)] : List Value).toArray w0 (fun e w => e = .returned (.int .i64 r) ∧ Hp S0 w0 w []) := by
  have H : ((some w_0_count) : Option (Int)) = some r := h
  refine calls_start Try.func23 rfl rfl ?_
  refine L_seq ?_
  refine L_region ?_
  refine F_val rfl rfl rfl (O_assign rfl rfl) ?_
  refine F_nil ?_
  refine L_seq ?_
  refine L_seq ?_
  refine L_region ?_
  refine F_val rfl rfl rfl (O_move rfl rfl) ?_
  refine F_val rfl rfl rfl (O_peq rfl rfl rfl Try.underlying31) ?_
  refine F_nil ?_
  refine L_cond rfl (fun hx => by cases hx) (fun _ => ?_)
  refine L_skip ?_
  refine L_seq ?_
  refine L_region ?_
  refine F_val rfl rfl rfl (O_move rfl rfl) ?_
  refine F_val rfl rfl rfl (O_nilCheck rfl rfl) ?_
  refine F_val rfl rfl rfl (O_fieldB rfl rfl field99_1) ?_
  refine F_val rfl rfl rfl (O_loadB rfl rfl flat3 (HS0.cells_rd (i := 0) rfl) rfl) ?_
  refine F_val rfl rfl rfl (O_assign rfl rfl) ?_
  refine F_nil ?_
  refine L_ret (fun a ha => (post_ret1 ha rfl rfl ?_))
  obtain rfl := Option.some.inj H
  exact ⟨rfl, HS0.sel [] rfl⟩

/-! function 24: valise/valiselaw3.same -/
theorem valiselaw3_same.calls {S0 : Nat → Prop} {w0 : World} {A_a_0 : Option Addr} {c_a_0 : Nat} {A_b_1 : Option Addr} {c_b_1 : Nat} {l_a_0 : List Int} {l_b_1 : List Int} {r : Bool} (HS0 : Hp S0 w0 w0 [.rd A_a_0 (rowC (Eint .u8) l_a_0), .rd A_b_1 (rowC (Eint .u8) l_b_1)]) (hc_a_0 : l_a_0.length ≤ c_a_0) (hc_b_1 : l_b_1.length ≤ c_b_1) (h : valiselaw3_same.f l_a_0 l_b_1 = some r) :
    Calls Try.prog 24 ([.slice A_a_0 l_a_0.length c_a_0, .slice A_b_1 l_b_1.length c_b_1] : List Value).toArray w0 (fun e w => e = .returned (.bool r) ∧ Hp S0 w0 w []) := by
  have H : ((if (l_a_0.length : Int) ≠ (l_b_1.length : Int) then (some false) else ((valiselaw3_same.l1 FU 0 l_a_0 l_b_1).bind fun (yj2 : Sum (Bool) (Unit)) => onR yj2 (fun r => some r) fun () => some true)) : Option (Bool)) = some r := h
  refine calls_start Try.func24 rfl rfl ?_
  refine L_seq ?_
  refine L_region ?_
  refine F_val rfl rfl rfl (O_assign rfl rfl) ?_
  refine F_nil ?_
  refine L_seq ?_
  refine L_seq ?_
  refine L_region ?_
  refine F_val rfl rfl rfl (O_move rfl rfl) ?_
  refine F_val rfl rfl rfl (O_len rfl rfl Try.underlying35) ?_
  refine F_val rfl rfl rfl (O_move rfl rfl) ?_
  refine F_val rfl rfl rfl (O_len rfl rfl Try.underlying35) ?_
  refine F_val rfl rfl rfl (O_ne rfl rfl rfl) ?_
  refine F_nil ?_
  refine L_condP rfl (fun c1 => ?_) (fun c1 => ?_)
  · have H := of_pos H c1
    refine L_seq ?_
    refine L_region ?_
    refine F_val rfl rfl rfl (O_assign rfl rfl) ?_
    refine F_nil ?_
    refine L_ret (fun a ha => (post_ret1 ha rfl rfl ?_))
    obtain rfl := Option.some.inj H
    exact ⟨rfl, HS0.sel [] rfl⟩
  · have H := of_neg H c1
    refine L_skip ?_
    refine L_seq ?_
    refine L_seq ?_
    refine L_region ?_
    refine F_val rfl rfl rfl (O_assign rfl rfl) ?_
    refine F_nil ?_
    obtain ⟨yj2, Hyj2, H⟩ := of_bind H
    refine L_join (fun a w => yj2 = Sum.inr () ∧ Is Try.f24.ntmps a [] ∧ Hp S0 w0 w [.rd A_a_0 (rowC (Eint .u8) l_a_0), .rd A_b_1 (rowC (Eint .u8) l_b_1)]) (fun Qj2 hNj2 hOj2 => ?_) (fun a w hR => ?_)
    · have HOj2 := H
      have H := Hyj2
      refine L_blk (fun Qb45 hNb45 hXb45 hOb45 => ?_)
      refine L_lp (fun k a w => ∃ (i_72 : Int), Is Try.f24.ntmps a [(0, .slice A_a_0 l_a_0.length c_a_0), (1, .slice A_b_1 l_b_1.length c_b_1), (5, .int .i64 i_72)] ∧ Hp S0 w0 w [.rd A_a_0 (rowC (Eint .u8) l_a_0), .rd A_b_1 (rowC (Eint .u8) l_b_1)] ∧ valiselaw3_same.l1 k i_72 l_a_0 l_b_1 = some yj2) FU (fun a ha => ⟨_, Is.cons ha (Is.cons ha (Is.cons ha (Is.nil ha) rfl) rfl) rfl, HS0.sel [0, 1] rfl, H⟩) (fun kp71 a w73 hI Qp71 hNp71 hOp71 => ?_)
      obtain ⟨i_72, ha, HS74, HAp71⟩ := hI
      cases kp71 with
      | zero => cases (show (none : Option _) = some _ from HAp71)
      | succ kp71 =>
        have H := (valiselaw3_same.l1.eq_2 ..).symm.trans HAp71
        refine wpLF_app ?_ ha
        refine L_seq ?_
        refine L_seq ?_
        refine L_region ?_
        refine F_val rfl rfl rfl (O_move rfl rfl) ?_
        refine F_val rfl rfl rfl (O_move rfl rfl) ?_
        refine F_val rfl rfl rfl (O_len rfl rfl Try.underlying35) ?_
        refine F_val rfl rfl rfl (O_lt rfl rfl rfl) ?_
        refine F_nil ?_
        refine L_condP rfl (fun c75 => ?_) (fun c75 => ?_)
        · have H := of_pos H c75
          refine L_skip ?_
          refine L_seq ?_
          refine L_blk (fun Q76 hN76 hX76 hO76 => ?_)
          refine L_seq ?_
          refine L_quiet mix (by kernel_rfl) ?_
          refine Q_val rfl rfl rfl (fun wq hq => O_move rfl rfl) ?_
          refine Q_val rfl rfl rfl (fun wq hq => O_move rfl rfl) ?_
          obtain ⟨⟨g77, g78⟩, H⟩ := of_gd H
          refine Q_val rfl rfl rfl (fun wq hq => O_idx rfl rfl rfl Try.underlying35 size5 g77 g78 (Cells.isA ((HS74.keep hq).cells_rd (i := 0) rfl) (rowC_ne (E := (Eint .u8)) g77 g78 (by decide)))) ?_
          refine Q_val rfl rfl rfl (fun wq hq => O_loadC rfl rfl flat5 ((HS74.keep hq).cells_rd (i := 0) rfl) (int_cell g77 g78)) ?_
          refine Q_val rfl rfl rfl (fun wq hq => O_move rfl rfl) ?_
          refine Q_val rfl rfl rfl (fun wq hq => O_move rfl rfl) ?_
          obtain ⟨⟨g79, g80⟩, H⟩ := of_gd H
          refine Q_val rfl rfl rfl (fun wq hq => O_idx rfl rfl rfl Try.underlying35 size5 g79 g80 (Cells.isA ((HS74.keep hq).cells_rd (i := 1) rfl) (rowC_ne (E := (Eint .u8)) g79 g80 (by decide)))) ?_
          refine Q_val rfl rfl rfl (fun wq hq => O_loadC rfl rfl flat5 ((HS74.keep hq).cells_rd (i := 1) rfl) (int_cell g79 g80)) ?_
          refine Q_val rfl rfl rfl (fun wq hq => O_ne rfl rfl rfl) ?_
          refine Q_nil (fun w81 hw82 => ?_)
          have HS83 := HS74.keep hw82
          refine L_condP rfl (fun c84 => ?_) (fun c84 => ?_)
          · have H := of_pos H c84
            refine L_seq ?_
            refine L_region ?_
            refine F_val rfl rfl rfl (O_assign rfl rfl) ?_
            refine F_nil ?_
            refine L_ret (fun a ha => (hO76 .ret a _ rfl (hOp71 .ret a _ rfl (hOb45 .ret a _ rfl (hOj2 .ret a _ rfl (post_ret1 ha rfl rfl ?_))))))
            obtain rfl := Option.some.inj H
            obtain rfl := Option.some.inj (show (some false : Option (Bool)) = some _ from HOj2)
            exact ⟨rfl, HS83.sel [] rfl⟩
          · have H := of_neg H c84
            refine L_skip ?_
            refine L_endB hN76 ?_
            refine L_region ?_
            refine F_val rfl rfl rfl (O_move rfl rfl) ?_
            refine F_val rfl rfl rfl (O_add rfl rfl rfl) ?_
            obtain ⟨x85, h86, H⟩ := of_bnd H
            refine F_val rfl rfl rfl (O_assign' rfl rfl (congrArg (Value.int .i64) h86)) ?_
            refine F_nil ?_
            refine L_nil (fun a ha => hNp71 _ a _ (Nat.lt_succ_self _) ⟨_, Is.cons ha (Is.cons ha (Is.cons ha (Is.nil ha) rfl) rfl) rfl, HS83.sel [0, 1] rfl, H⟩)
        · have H := of_neg H c75
          refine L_exitB (fun a w h => hOp71 (.exit 0) a w rfl (hXb45 a w h)) ?_
          refine L_nil (fun a ha => hNj2 a _ ⟨(Option.some.inj H).symm, Is.nil ha, HS74.sel [0, 1] rfl⟩)
    · obtain ⟨rfl, ha, HS88⟩ := hR
      refine wpLF_app ?_ ha
      have H := (onR_inr _ _ _).symm.trans H
      refine L_seq ?_
      refine L_region ?_
      refine F_val rfl rfl rfl (O_assign rfl rfl) ?_
      refine F_nil ?_
      refine L_ret (fun a ha => (post_ret1 ha rfl rfl ?_))
      obtain rfl := Option.some.inj H
      exact ⟨rfl, HS88.sel [] rfl⟩

/-! function 22: (*valise/bits.Writer).Join -/
theorem bits_Writer_Join_s1.calls {S0 : Nat → Prop} {w0 : World} {g_w_0 : Nat} {A_w_0_bytes : Option Addr} {c_w_0_bytes : Nat} {w_0_bytes : List Int} {w_0_count : Int} {r : Int × List Int × Int} (HS0 : Hp S0 w0 w0 [.box g_w_0 [.slice A_w_0_bytes w_0_bytes.length c_w_0_bytes, .int .i64 w_0_count] 99, .own A_w_0_bytes c_w_0_bytes (rowC (Eint .u8) w_0_bytes) 5 (Eint .u8).sz]) (h : bits_Writer_Join_s1.f w_0_bytes w_0_count = some r) :
    Calls Try.prog 22 ([.pointer (some ⟨g_w_0, 0, none⟩), .pointer (some ⟨g_w_0, 0, none⟩)] : List Value).toArray w0 (fun e w => ∃ (A_w_0_bytes' : Option Addr), ∃ (c_w_0_bytes' : Nat), e = .returned (.int .i64 r.1) ∧ Hp S0 w0 w [.box g_w_0 [.slice A_w_0_bytes' r.2.1.length c_w_0_bytes', .int .i64 r.2.2] 99, .own A_w_0_bytes' c_w_0_bytes' (rowC (Eint .u8) r.2.1) 5 (Eint .u8).sz]) := by
  have H : ((if 268435456 < IntKind.i64.wrap (w_0_count + w_0_count) then (some (1, w_0_bytes, w_0_count)) else (gd ((0 : Int) ≤ (w_0_bytes.length : Int) ∧ (w_0_bytes.length : Int) * 1 ≤ 281474976710656) (bnd (List.replicate ((w_0_bytes.length : Int) : Int).toNat (0 : Int)) fun l9 => bnd (cpy l9 w_0_bytes) fun l16 => if Int.tmod w_0_count 8 = 0 then (bnd (w_0_bytes ++ l16) fun l22 => gd ((l22.length : Int) * 1 ≤ 140737488355328) (some (0, l22, IntKind.i64.wrap (w_0_count + w_0_count)))) else ((bits_Writer_Join_s1.l1 FU w_0_bytes w_0_count w_0_count 0 l16).bind fun (l110, y111) => some (0, l110, y111))))) : Option (Int × List Int × Int)) = some r := h
  refine calls_start Try.func22 rfl rfl ?_
  refine L_seq ?_
  refine L_region ?_
  refine F_val rfl rfl rfl (O_assign rfl rfl) ?_
  refine F_nil ?_
  refine L_seq ?_
  refine L_seq ?_
  refine L_quiet mix (by kernel_rfl) ?_
  refine Q_val rfl rfl rfl (fun wq hq => O_move rfl rfl) ?_
  refine Q_val rfl rfl rfl (fun wq hq => O_peq rfl rfl rfl Try.underlying31) ?_
  refine Q_val rfl rfl rfl (fun wq hq => O_move rfl rfl) ?_
  refine Q_gval rfl rfl rfl rfl rfl rfl (fun wq hq => O_move rfl rfl) ?_
  refine Q_gval rfl rfl rfl rfl rfl rfl (fun wq hq => O_peq rfl rfl rfl Try.underlying31) ?_
  refine Q_val rfl rfl rfl (fun wq hq => O_pickF rfl rfl rfl) ?_
  refine Q_val rfl rfl rfl (fun wq hq => O_move rfl rfl) ?_
  refine Q_gval rfl rfl rfl rfl rfl rfl (fun wq hq => O_move rfl rfl) ?_
  refine Q_gval rfl rfl rfl rfl rfl rfl (fun wq hq => O_nilCheck rfl rfl) ?_
  refine Q_gval rfl rfl rfl rfl rfl rfl (fun wq hq => O_fieldB rfl rfl field99_1) ?_
  refine Q_gval rfl rfl rfl rfl rfl rfl (fun wq hq => O_loadB rfl rfl flat3 ((HS0.keep hq).cells_box (i := 0) rfl) rfl) ?_
  refine Q_gval rfl rfl rfl rfl rfl rfl (fun wq hq => O_move rfl rfl) ?_
  refine Q_gval rfl rfl rfl rfl rfl rfl (fun wq hq => O_nilCheck rfl rfl) ?_
  refine Q_gval rfl rfl rfl rfl rfl rfl (fun wq hq => O_fieldB rfl rfl field99_1) ?_
  refine Q_gval rfl rfl rfl rfl rfl rfl (fun wq hq => O_loadB rfl rfl flat3 ((HS0.keep hq).cells_box (i := 0) rfl) rfl) ?_
  refine Q_gval rfl rfl rfl rfl rfl rfl (fun wq hq => O_add rfl rfl rfl) ?_
  refine Q_gval rfl rfl rfl rfl rfl rfl (fun wq hq => O_gt rfl rfl rfl) ?_
  refine Q_val rfl rfl rfl (fun wq hq => O_pickF rfl rfl rfl) ?_
  refine Q_nil (fun w1 hw2 => ?_)
  have HS3 := HS0.keep hw2
  refine L_condP rfl (fun c4 => ?_) (fun c4 => ?_)
  · have H := of_pos H c4
    refine L_seq ?_
    refine L_region ?_
    refine F_val rfl rfl rfl (O_assign rfl rfl) ?_
    refine F_nil ?_
    refine L_ret (fun a ha => (post_ret1 ha rfl rfl ?_))
    obtain rfl := Option.some.inj H
    exact ⟨_, _, rfl, HS3.sel [0, 1] rfl⟩
  · have H := of_neg H c4
    refine L_skip ?_
    refine L_seq ?_
    refine L_region ?_
    refine F_val rfl rfl rfl (O_move rfl rfl) ?_
    refine F_val rfl rfl rfl (O_nilCheck rfl rfl) ?_
    refine F_val rfl rfl rfl (O_fieldB rfl rfl field99_1) ?_
    refine F_val rfl rfl rfl (O_loadB rfl rfl flat3 (HS3.cells_box (i := 0) rfl) rfl) ?_
    refine F_val rfl rfl rfl (O_assign rfl rfl) ?_
    refine F_nil ?_
    refine L_seq ?_
    refine L_region ?_
    refine F_val rfl rfl rfl (O_move rfl rfl) ?_
    refine F_val rfl rfl rfl (O_nilCheck rfl rfl) ?_
    refine F_val rfl rfl rfl (O_fieldB rfl rfl field99_0) ?_
    refine F_val rfl rfl rfl (O_loadB rfl rfl flat35 (HS3.cells_box (i := 0) rfl) rfl) ?_
    refine F_val rfl rfl rfl (O_len rfl rfl Try.underlying35) ?_
    obtain ⟨⟨g7, g8⟩, H⟩ := of_gd H
    obtain ⟨l9, h10, H⟩ := of_bnd H
    refine F_makeE (E := (Eint .u8)) rfl rfl rfl rfl rfl rfl Try.underlying35 info5 rfl (by decide) (by decide) g7 g8 HS3 h10 (fun w5 A11 c12 HS6 => ?_)
    have HS6 : Hp S0 w0 w5 [.box g_w_0 [.slice A_w_0_bytes w_0_bytes.length c_w_0_bytes, .int .i64 w_0_count] 99, .own A_w_0_bytes c_w_0_bytes (rowC (Eint .u8) w_0_bytes) 5 (Eint .u8).sz, .own A11 c12 (rowC (Eint .u8) l9) 5 (Eint .u8).sz] := HS6
    refine F_val rfl rfl rfl (O_assign rfl rfl) ?_
    refine F_nil ?_
    refine L_seq ?_
    refine L_region ?_
    refine F_val rfl rfl rfl (O_move rfl rfl) ?_
    refine F_val rfl rfl rfl (O_move rfl rfl) ?_
    refine F_val rfl rfl rfl (O_nilCheck rfl rfl) ?_
    refine F_val rfl rfl rfl (O_fieldB rfl rfl field99_0) ?_
    refine F_val rfl rfl rfl (O_loadB rfl rfl flat35 (HS6.cells_box (i := 0) rfl) rfl) ?_
    obtain ⟨l16, h17, H⟩ := of_bnd H
    refine F_copyE (E := (Eint .u8)) (xs := l9) (ys := w_0_bytes) (i := 2) rfl rfl rfl rfl Try.underlying35 size5 rfl rfl HS6 rfl (HS6.cells_own (i := 1) rfl) h17 (fun w14 HS15 => ?_)
    have e18 : l9.length = l16.length := by rw [← h17, cpy_length]
    refine F_know (i := 6) rfl (congrArg (fun n => Value.slice A11 n c12) e18) ?_
    have HS15 : Hp S0 w0 w14 [.box g_w_0 [.slice A_w_0_bytes w_0_bytes.length c_w_0_bytes, .int .i64 w_0_count] 99, .own A_w_0_bytes c_w_0_bytes (rowC (Eint .u8) w_0_bytes) 5 (Eint .u8).sz, .own A11 c12 (rowC (Eint .u8) l16) 5 (Eint .u8).sz] := HS15
    refine F_nil ?_
    refine L_seq ?_
    refine L_seq ?_
    refine L_region ?_
    refine F_val rfl rfl rfl (O_move rfl rfl) ?_
    refine F_val rfl rfl rfl (O_nilCheck rfl rfl) ?_
    refine F_val rfl rfl rfl (O_fieldB rfl rfl field99_1) ?_
    refine F_val rfl rfl rfl (O_loadB rfl rfl flat3 (HS15.cells_box (i := 0) rfl) rfl) ?_
    refine F_val rfl rfl rfl (O_rem rfl rfl rfl (by decide)) ?_
    refine F_val rfl rfl rfl (O_eq rfl rfl rfl) ?_
    refine F_nil ?_
    refine L_condP rfl (fun c19 => ?_) (fun c19 => ?_)
    · have H := of_pos H c19
      refine L_seq ?_
      refine L_region ?_
      refine F_val rfl rfl rfl (O_move rfl rfl) ?_
      refine F_val rfl rfl rfl (O_move rfl rfl) ?_
      refine F_val rfl rfl rfl (O_nilCheck rfl rfl) ?_
      refine F_val rfl rfl rfl (O_fieldB rfl rfl field99_0) ?_
      refine F_val rfl rfl rfl (O_loadB rfl rfl flat35 (HS15.cells_box (i := 0) rfl) rfl) ?_
      refine F_val rfl rfl rfl (O_move rfl rfl) ?_
      obtain ⟨l22, h23, H⟩ := of_bnd H
      obtain ⟨g24, H⟩ := of_gd H
      refine F_appE (E := (Eint .u8)) (xs := w_0_bytes) (ys := l16) (i := 1) rfl rfl rfl rfl Try.underlying35 info5 rfl (by decide) (by decide) rfl rfl HS15 rfl (HS15.cells_own (i := 2) rfl) h23 g24 (fun w20 A25 c26 HS21 => ?_)
      have HS21 : Hp S0 w0 w20 [.box g_w_0 [.slice A_w_0_bytes w_0_bytes.length c_w_0_bytes, .int .i64 w_0_count] 99, .own A25 c26 (rowC (Eint .u8) l22) 5 (Eint .u8).sz, .own A11 c12 (rowC (Eint .u8) l16) 5 (Eint .u8).sz] := HS21
      refine F_val rfl rfl rfl (O_nilCheck rfl rfl) ?_
      refine F_val rfl rfl rfl (O_fieldB rfl rfl field99_0) ?_
      refine F_stB 0 ([.slice A25 l22.length c26, .int .i64 w_0_count]) rfl rfl rfl rfl rfl size35 HS21 rfl rfl rfl rfl rfl (fun w27 HS28 => ?_)
      have HS28 : Hp S0 w0 w27 [.box g_w_0 [.slice A25 l22.length c26, .int .i64 w_0_count] 99, .own A25 c26 (rowC (Eint .u8) l22) 5 (Eint .u8).sz, .own A11 c12 (rowC (Eint .u8) l16) 5 (Eint .u8).sz] := HS28
      refine F_nil ?_
      refine L_seq ?_
      refine L_region ?_
      refine F_val rfl rfl rfl (O_move rfl rfl) ?_
      refine F_val rfl rfl rfl (O_nilCheck rfl rfl) ?_
      refine F_val rfl rfl rfl (O_fieldB rfl rfl field99_1) ?_
      refine F_val rfl rfl rfl (O_loadB rfl rfl flat3 (HS28.cells_box (i := 0) rfl) rfl) ?_
      refine F_val rfl rfl rfl (O_move rfl rfl) ?_
      refine F_val rfl rfl rfl (O_add rfl rfl rfl) ?_
      refine F_val rfl rfl rfl (O_nilCheck rfl rfl) ?_
      refine F_val rfl rfl rfl (O_fieldB rfl rfl field99_1) ?_
      refine F_stB 0 ([.slice A25 l22.length c26, .int .i64 (IntKind.i64.wrap (w_0_count + w_0_count))]) rfl rfl rfl rfl rfl size3 HS28 rfl rfl rfl rfl rfl (fun w29 HS30 => ?_)
      have HS30 : Hp S0 w0 w29 [.box g_w_0 [.slice A25 l22.length c26, .int .i64 (IntKind.i64.wrap (w_0_count + w_0_count))] 99, .own A25 c26 (rowC (Eint .u8) l22) 5 (Eint .u8).sz, .own A11 c12 (rowC (Eint .u8) l16) 5 (Eint .u8).sz] := HS30
      refine F_nil ?_
      refine L_seq ?_
      refine L_region ?_
      refine F_val rfl rfl rfl (O_assign rfl rfl) ?_
      refine F_nil ?_
      refine L_ret (fun a ha => (post_ret1 ha rfl rfl ?_))
      obtain rfl := Option.some.inj H
      exact ⟨_, _, rfl, HS30.sel [0, 1] rfl⟩
    · have H := of_neg H c19
      refine L_skip ?_
      refine L_seq ?_
      refine L_seq ?_
      refine L_region ?_
      refine F_val rfl rfl rfl (O_move rfl rfl) ?_
      refine F_val rfl rfl rfl (O_len rfl rfl Try.underlying35) ?_
      refine F_val rfl rfl rfl (O_move rfl rfl) ?_
      refine F_nil ?_
      obtain ⟨yj31, Hyj31, H⟩ := of_bind H
      refine L_join (fun a w => ∃ (l110 : List Int), ∃ (y111 : Int), ∃ (A108 : Option Addr), ∃ (c109 : Nat), yj31 = (l110, y111) ∧ Is Try.f22.ntmps a [] ∧ Hp S0 w0 w [.box g_w_0 [.slice A108 l110.length c109, .int .i64 y111] 99, .own A108 c109 (rowC (Eint .u8) l110) 5 (Eint .u8).sz]) (fun Qj31 hNj31 hOj31 => ?_) (fun a w hR => ?_)
      · skip
        have H := Hyj31
        refine L_blk (fun Qb112 hNb112 hXb112 hOb112 => ?_)
        refine L_lp (fun k a w => ∃ (l162 : List Int), ∃ (y163 : Int), ∃ (count_164 : Int), ∃ (t165 : Int), ∃ (A160 : Option Addr), ∃ (c161 : Nat), Is Try.f22.ntmps a [(0, .pointer (some ⟨g_w_0, 0, none⟩)), (5, .int .i64 count_164), (67, .slice A11 l16.length c12), (68, .int .i64 (l16.length : Int)), (69, .int .i64 t165)] ∧ Hp S0 w0 w [.box g_w_0 [.slice A160 l162.length c161, .int .i64 y163] 99, .own A160 c161 (rowC (Eint .u8) l162) 5 (Eint .u8).sz, .own A11 c12 (rowC (Eint .u8) l16) 5 (Eint .u8).sz] ∧ bits_Writer_Join_s1.l1 k l162 y163 count_164 t165 l16 = some yj31) FU (fun a ha => ⟨_, _, _, _, _, _, Is.cons ha (Is.cons ha (Is.cons ha (Is.cons ha (Is.cons ha (Is.nil ha) rfl) rfl) rfl) rfl) rfl, HS15.sel [0, 1, 2] rfl, H⟩) (fun kp159 a w166 hI Qp159 hNp159 hOp159 => ?_)
        obtain ⟨l162, y163, count_164, t165, A160, c161, ha, HS167, HAp159⟩ := hI
        cases kp159 with
        | zero => cases (show (none : Option _) = some _ from HAp159)
        | succ kp159 =>
          have H := (bits_Writer_Join_s1.l1.eq_2 ..).symm.trans HAp159
          refine wpLF_app ?_ ha
          refine L_seq ?_
          refine L_region ?_
          refine F_val rfl rfl rfl (O_lt rfl rfl rfl) ?_
          refine F_nil ?_
          refine L_seq ?_
          refine L_condP rfl (fun c168 => ?_) (fun c168 => ?_)
          · have H := of_pos H c168
            refine L_skip ?_
            refine L_seq ?_
            refine L_blk (fun Q169 hN169 hX169 hO169 => ?_)
            refine L_seq ?_
            refine L_region ?_
            obtain ⟨⟨g170, g171⟩, H⟩ := of_gd H
            refine F_val rfl rfl rfl (O_idx rfl rfl rfl Try.underlying35 size5 g170 g171 (Cells.isA (HS167.cells_own (i := 2) rfl) (rowC_ne (E := (Eint .u8)) g170 g171 (by decide)))) ?_
            refine F_val rfl rfl rfl (O_loadC rfl rfl flat5 (HS167.cells_own (i := 2) rfl) (int_cell g170 g171)) ?_
            obtain ⟨x172, h173, H⟩ := of_bnd H
            refine F_val rfl rfl rfl (O_assign' rfl rfl (congrArg (Value.int .u8) h173)) ?_
            refine F_nil ?_
            refine L_seq ?_
            refine L_region ?_
            refine F_val rfl rfl rfl (O_move rfl rfl) ?_
            refine F_val rfl rfl rfl (O_min rfl rfl rfl) ?_
            obtain ⟨x174, h175, H⟩ := of_bnd H
            refine F_val rfl rfl rfl (O_assign' rfl rfl (congrArg (Value.int .i64) h175)) ?_
            refine F_nil ?_
            refine L_seq ?_
            refine L_region ?_
            refine F_val rfl rfl rfl (O_move rfl rfl) ?_
            refine F_val rfl rfl rfl (O_move rfl rfl) ?_
            refine F_val rfl rfl rfl (O_conv rfl rfl ⟨_, Try.underlying5⟩ Try.underlying87) ?_
            refine F_val rfl rfl rfl (O_move rfl rfl) ?_
            obtain ⟨⟨z180, z181⟩, h179, H⟩ := of_bind H
            refine F_call (xs := [.tmp 75, .tmp 77, .tmp 78]) rfl rfl rfl rfl Try.func56 nm56 rfl rfl ((bits_Writer_lay.calls (HS167.give [0, 1] rfl (Lent.nil)) h179).mono (fun e w hc => ?_))
            obtain ⟨A184, c185, rfl, HSo⟩ := hc
            refine ⟨.tuple #[], rfl, ?_⟩
            have HS183 : Hp S0 w0 w [.box g_w_0 [.slice A184 z180.length c185, .int .i64 z181] 99, .own A184 c185 (rowC (Eint .u8) z180) 5 (Eint .u8).sz, .own A11 c12 (rowC (Eint .u8) l16) 5 (Eint .u8).sz] := (HS167.back [0, 1] HSo rfl).sel [3, 4, 2] rfl
            refine F_nil ?_
            refine L_region ?_
            refine F_val rfl rfl rfl (O_move rfl rfl) ?_
            refine F_val rfl rfl rfl (O_move rfl rfl) ?_
            refine F_val rfl rfl rfl (O_sub rfl rfl rfl) ?_
            obtain ⟨x186, h187, H⟩ := of_bnd H
            refine F_val rfl rfl rfl (O_assign' rfl rfl (congrArg (Value.int .i64) h187)) ?_
            refine F_nil ?_
            refine L_endB hN169 ?_
            refine L_region ?_
            refine F_val rfl rfl rfl (O_add rfl rfl rfl) ?_
            refine F_val rfl rfl rfl (O_move rfl rfl) ?_
            refine F_nil ?_
            refine L_nil (fun a ha => hNp159 _ a _ (Nat.lt_succ_self _) ⟨_, _, _, _, _, _, Is.cons ha (Is.cons ha (Is.cons ha (Is.cons ha (Is.cons ha (Is.nil ha) rfl) rfl) rfl) rfl) rfl, HS183.sel [0, 1, 2] rfl, H⟩)
          · have H := of_neg H c168
            refine L_exitB (fun a w h => hOp159 (.exit 0) a w rfl (hXb112 a w h)) ?_
            refine L_nil (fun a ha => hNj31 a _ ⟨_, _, _, _, (Option.some.inj H).symm, Is.nil ha, HS167.sel [0, 1] rfl⟩)
      · obtain ⟨l110, y111, A108, c109, rfl, ha, HS189⟩ := hR
        refine wpLF_app ?_ ha
        refine L_seq ?_
        refine L_region ?_
        refine F_val rfl rfl rfl (O_assign rfl rfl) ?_
        refine F_nil ?_
        refine L_ret (fun a ha => (post_ret1 ha rfl rfl ?_))
        obtain rfl := Option.some.inj H
        exact ⟨_, _, rfl, HS189.sel [0, 1] rfl⟩

/-! function 4: valise/valiselaw3.BitsJoins -/
theorem valiselaw3_BitsJoins.calls {S0 : Nat → Prop} {w0 : World} {A_one_0 : Option Addr} {c_one_0 : Nat} {A_two_1 : Option Addr} {c_two_1 : Nat} {l_one_0 : List Int} {l_two_1 : List Int} {r : Bool} (HS0 : Hp S0 w0 w0 [.rd A_one_0 (rowC (Eint .u32) l_one_0), .rd A_two_1 (rowC (Eint .u32) l_two_1)]) (hc_one_0 : l_one_0.length ≤ c_one_0) (hc_two_1 : l_two_1.length ≤ c_two_1) (h : valiselaw3_BitsJoins.f l_one_0 l_two_1 = some r) :
    Calls Try.prog 4 ([.slice A_one_0 l_one_0.length c_one_0, .slice A_two_1 l_two_1.length c_two_1] : List Value).toArray w0 (fun e w => e = .returned (.bool r) ∧ Hp S0 w0 w []) := by
  have H : ((if 1048576 < IntKind.i64.wrap ((l_one_0.length : Int) + (l_two_1.length : Int)) then (some true) else ((bits_NewWriter.f).bind fun (z6, z7) => (bits_NewWriter.f).bind fun (z19, z20) => (bits_NewWriter.f).bind fun (z32, z33) => (bits_NewWriter.f).bind fun (z45, z46) => (valiselaw3_BitsJoins.l11 FU z19 z45 z20 z46 0 0 l_two_1).bind fun (yj54 : Sum (Bool) (List Int × List Int × Int × Int × Int)) => onR yj54 (fun r => some r) fun (l1767, l1770, y1771, y1772, n_1773) => (bits_Writer_Bytes.f l1767 y1771).bind fun z3490 => (valiselaw3_BitsJoins.l15 FU z6 z32 z7 z33 0 0 l_one_0).bind fun (yj3496 : Sum (Bool) (List Int × List Int × Int × Int × Int)) => onR yj3496 (fun r => some r) fun (l3671, l3674, y3675, y3676, m_3677) => (valiselaw3_BitsJoins.l17 FU l3674 y3676 0 l_two_1).bind fun (yj3852 : Sum (Bool) (List Int × Int)) => onR yj3852 (fun r => some r) fun (l3950, y3951) => (bits_Writer_Join.f l3671 y3675 l1767 y1771).bind fun (z4053, z4054, z4055) => if z4053 ≠ 0 then (some false) else ((bits_Writer_Len.f z4054 z4055).bind fun z4065 => if z4065 ≠ IntKind.i64.wrap (m_3677 + n_1773) then (some false) else ((bits_Writer_Len.f l3950 y3951).bind fun z4073 => if z4073 ≠ IntKind.i64.wrap (m_3677 + n_1773) then (some false) else ((bits_Writer_Bytes.f z4054 z4055).bind fun z4081 => (bits_Writer_Bytes.f l3950 y3951).bind fun z4091 => (valiselaw3_same.f z4081 z4091).bind fun z4101 => if (!z4101) = true then (some false) else ((bits_Writer_Len.f l1767 y1771).bind fun z4109 => if z4109 ≠ n_1773 then (some false) else ((bits_Writer_Bytes.f l1767 y1771).bind fun z4117 => (valiselaw3_same.f z4117 z3490).bind fun z4127 => if (!z4127) = true then (some false) else ((bits_Writer_Join_s1.f l1767 y1771).bind fun (z4135, z4136, z4137) => if z4135 ≠ 0 then (some false) else ((bits_Writer_Len.f z4136 z4137).bind fun z4147 => if z4147 ≠ IntKind.i64.wrap (2 * n_1773) then (some false) else ((bits_Writer_Bytes.f z4136 z4137).bind fun z4155 => (bits_Writer_Bytes.f l1770 y1772).bind fun z4165 => (valiselaw3_same.f z4155 z4165).bind fun z4175 => if z4175 = true then ((bits_Writer_Bytes.f z4054 z4055).bind fun z4183 => (bits_Writer_Bytes.f l3950 y3951).bind fun z4193 => (valiselaw3_same.f z4183 z4193).bind fun z4203 => some z4203) else (some false))))))))))) : Option (Bool)) = some r := h
  refine calls_start Try.func4 rfl rfl ?_
  refine L_seq ?_
  refine L_region ?_
  refine F_val rfl rfl rfl (O_assign rfl rfl) ?_
  refine F_nil ?_
  refine L_seq ?_
  refine L_seq ?_
  refine L_region ?_
  refine F_val rfl rfl rfl (O_move rfl rfl) ?_
  refine F_val rfl rfl rfl (O_len rfl rfl Try.underlying30) ?_
  refine F_val rfl rfl rfl (O_move rfl rfl) ?_
  refine F_val rfl rfl rfl (O_len rfl rfl Try.underlying30) ?_
  refine F_val rfl rfl rfl (O_add rfl rfl rfl) ?_
  refine F_val rfl rfl rfl (O_gt rfl rfl rfl) ?_
  refine F_nil ?_
  refine L_condP rfl (fun c1 => ?_) (fun c1 => ?_)
  · have H := of_pos H c1
    refine L_seq ?_
    refine L_region ?_
    refine F_val rfl rfl rfl (O_assign rfl rfl) ?_
    refine F_nil ?_
    refine L_ret (fun a ha => (post_ret1 ha rfl rfl ?_))
    obtain rfl := Option.some.inj H
    exact ⟨rfl, HS0.sel [] rfl⟩
  · have H := of_neg H c1
    refine L_skip ?_
    refine L_seq ?_
    refine L_region ?_
    obtain ⟨⟨z6, z7⟩, h5, H⟩ := of_bind H
    refine F_call (xs := []) rfl rfl rfl rfl Try.func18 nm18 rfl rfl ((bits_NewWriter.calls (HS0.give [] rfl (Lent.nil)) h5).mono (fun e w hc => ?_))
    obtain ⟨g10, A12, c13, rfl, HSo⟩ := hc
    refine ⟨.pointer (some ⟨g10, 0, none⟩), rfl, ?_⟩
    have HS9 : Hp S0 w0 w [.rd A_one_0 (rowC (Eint .u32) l_one_0), .rd A_two_1 (rowC (Eint .u32) l_two_1), .box g10 [.slice A12 z6.length c13, .int .i64 z7] 99, .own A12 c13 (rowC (Eint .u8) z6) 5 (Eint .u8).sz] := (HS0.back [] HSo rfl).sel [0, 1, 2, 3] rfl
    refine F_val rfl rfl rfl (O_assign rfl rfl) ?_
    refine F_nil ?_
    refine L_seq ?_
    refine L_region ?_
    obtain ⟨⟨z19, z20⟩, h18, H⟩ := of_bind H
    refine F_call (xs := []) rfl rfl rfl rfl Try.func18 nm18 rfl rfl ((bits_NewWriter.calls (HS9.give [] rfl (Lent.nil)) h18).mono (fun e w hc => ?_))
    obtain ⟨g23, A25, c26, rfl, HSo⟩ := hc
    refine ⟨.pointer (some ⟨g23, 0, none⟩), rfl, ?_⟩
    have HS22 : Hp S0 w0 w [.rd A_one_0 (rowC (Eint .u32) l_one_0), .rd A_two_1 (rowC (Eint .u32) l_two_1), .box g10 [.slice A12 z6.length c13, .int .i64 z7] 99, .own A12 c13 (rowC (Eint .u8) z6) 5 (Eint .u8).sz, .box g23 [.slice A25 z19.length c26, .int .i64 z20] 99, .own A25 c26 (rowC (Eint .u8) z19) 5 (Eint .u8).sz] := (HS9.back [] HSo rfl).sel [0, 1, 2, 3, 4, 5] rfl
    refine F_val rfl rfl rfl (O_assign rfl rfl) ?_
    refine F_nil ?_
    refine L_seq ?_
    refine L_region ?_
    obtain ⟨⟨z32, z33⟩, h31, H⟩ := of_bind H
    refine F_call (xs := []) rfl rfl rfl rfl Try.func18 nm18 rfl rfl ((bits_NewWriter.calls (HS22.give [] rfl (Lent.nil)) h31).mono (fun e w hc => ?_))
    obtain ⟨g36, A38, c39, rfl, HSo⟩ := hc
    refine ⟨.pointer (some ⟨g36, 0, none⟩), rfl, ?_⟩
    have HS35 : Hp S0 w0 w [.rd A_one_0 (rowC (Eint .u32) l_one_0), .rd A_two_1 (rowC (Eint .u32) l_two_1), .box g10 [.slice A12 z6.length c13, .int .i64 z7] 99, .own A12 c13 (rowC (Eint .u8) z6) 5 (Eint .u8).sz, .box g23 [.slice A25 z19.length c26, .int .i64 z20] 99, .own A25 c26 (rowC (Eint .u8) z19) 5 (Eint .u8).sz, .box g36 [.slice A38 z32.length c39, .int .i64 z33] 99, .own A38 c39 (rowC (Eint .u8) z32) 5 (Eint .u8).sz] := (HS22.back [] HSo rfl).sel [0, 1, 2, 3, 4, 5, 6, 7] rfl
    refine F_val rfl rfl rfl (O_assign rfl rfl) ?_
    refine F_nil ?_
    refine L_seq ?_
    refine L_region ?_
    obtain ⟨⟨z45, z46⟩, h44, H⟩ := of_bind H
    refine F_call (xs := []) rfl rfl rfl rfl Try.func18 nm18 rfl rfl ((bits_NewWriter.calls (HS35.give [] rfl (Lent.nil)) h44).mono (fun e w hc => ?_))
    obtain ⟨g49, A51, c52, rfl, HSo⟩ := hc
    refine ⟨.pointer (some ⟨g49, 0, none⟩), rfl, ?_⟩
    have HS48 : Hp S0 w0 w [.rd A_one_0 (rowC (Eint .u32) l_one_0), .rd A_two_1 (rowC (Eint .u32) l_two_1), .box g10 [.slice A12 z6.length c13, .int .i64 z7] 99, .own A12 c13 (rowC (Eint .u8) z6) 5 (Eint .u8).sz, .box g23 [.slice A25 z19.length c26, .int .i64 z20] 99, .own A25 c26 (rowC (Eint .u8) z19) 5 (Eint .u8).sz, .box g36 [.slice A38 z32.length c39, .int .i64 z33] 99, .own A38 c39 (rowC (Eint .u8) z32) 5 (Eint .u8).sz, .box g49 [.slice A51 z45.length c52, .int .i64 z46] 99, .own A51 c52 (rowC (Eint .u8) z45) 5 (Eint .u8).sz] := (HS35.back [] HSo rfl).sel [0, 1, 2, 3, 4, 5, 6, 7, 8, 9] rfl
    refine F_val rfl rfl rfl (O_assign rfl rfl) ?_
    refine F_nil ?_
    refine L_seq ?_
    refine L_seq ?_
    refine L_region ?_
    refine F_val rfl rfl rfl (O_move rfl rfl) ?_
    refine F_val rfl rfl rfl (O_peq rfl rfl rfl Try.underlying31) ?_
    refine F_val rfl rfl rfl (O_move rfl rfl) ?_
    refine F_gval rfl rfl rfl rfl rfl rfl (O_move rfl rfl) ?_
    refine F_gval rfl rfl rfl rfl rfl rfl (O_peq rfl rfl rfl Try.underlying31) ?_
    refine F_val rfl rfl rfl (O_pickF rfl rfl rfl) ?_
    refine F_val rfl rfl rfl (O_move rfl rfl) ?_
    refine F_gval rfl rfl rfl rfl rfl rfl (O_move rfl rfl) ?_
    refine F_gval rfl rfl rfl rfl rfl rfl (O_peq rfl rfl rfl Try.underlying31) ?_
    refine F_val rfl rfl rfl (O_pickF rfl rfl rfl) ?_
    refine F_val rfl rfl rfl (O_move rfl rfl) ?_
    refine F_gval rfl rfl rfl rfl rfl rfl (O_move rfl rfl) ?_
    refine F_gval rfl rfl rfl rfl rfl rfl (O_peq rfl rfl rfl Try.underlying31) ?_
    refine F_val rfl rfl rfl (O_pickF rfl rfl rfl) ?_
    refine F_nil ?_
    refine L_cond rfl (fun hx => by cases hx) (fun _ => ?_)
    refine L_skip ?_
    refine L_seq ?_
    refine L_region ?_
    refine F_val rfl rfl rfl (O_assign rfl rfl) ?_
    refine F_nil ?_
    refine L_seq ?_
    refine L_seq ?_
    refine L_region ?_
    refine F_val rfl rfl rfl (O_assign rfl rfl) ?_
    refine F_nil ?_
    obtain ⟨yj54, Hyj54, H⟩ := of_bind H
    refine L_join (fun a w => ∃ (l1767 : List Int), ∃ (l1770 : List Int), ∃ (y1771 : Int), ∃ (y1772 : Int), ∃ (n_1773 : Int), ∃ (A1765 : Option Addr), ∃ (c1766 : Nat), ∃ (A1768 : Option Addr), ∃ (c1769 : Nat), yj54 = Sum.inr (l1767, l1770, y1771, y1772, n_1773) ∧ Is Try.f4.ntmps a [(0, .slice A_one_0 l_one_0.length c_one_0), (1, .slice A_two_1 l_two_1.length c_two_1), (5, .pointer (some ⟨g10, 0, none⟩)), (6, .pointer (some ⟨g23, 0, none⟩)), (7, .pointer (some ⟨g36, 0, none⟩)), (8, .pointer (some ⟨g49, 0, none⟩)), (9, .int .i64 n_1773)] ∧ Hp S0 w0 w [.rd A_one_0 (rowC (Eint .u32) l_one_0), .rd A_two_1 (rowC (Eint .u32) l_two_1), .box g10 [.slice A12 z6.length c13, .int .i64 z7] 99, .own A12 c13 (rowC (Eint .u8) z6) 5 (Eint .u8).sz, .box g23 [.slice A1765 l1767.length c1766, .int .i64 y1771] 99, .own A1765 c1766 (rowC (Eint .u8) l1767) 5 (Eint .u8).sz, .box g36 [.slice A38 z32.length c39, .int .i64 z33] 99, .own A38 c39 (rowC (Eint .u8) z32) 5 (Eint .u8).sz, .box g49 [.slice A1768 l1770.length c1769, .int .i64 y1772] 99, .own A1768 c1769 (rowC (Eint .u8) l1770) 5 (Eint .u8).sz]) (fun Qj54 hNj54 hOj54 => ?_) (fun a w hR => ?_)
    · have HOj54 := H
      have H := Hyj54
      refine L_blk (fun Qb1774 hNb1774 hXb1774 hOb1774 => ?_)
      refine L_lp (fun k a w => ∃ (l2912 : List Int), ∃ (l2915 : List Int), ∃ (y2916 : Int), ∃ (y2917 : Int), ∃ (n_2918 : Int), ∃ (k_2919 : Int), ∃ (A2910 : Option Addr), ∃ (c2911 : Nat), ∃ (A2913 : Option Addr), ∃ (c2914 : Nat), Is Try.f4.ntmps a [(0, .slice A_one_0 l_one_0.length c_one_0), (1, .slice A_two_1 l_two_1.length c_two_1), (5, .pointer (some ⟨g10, 0, none⟩)), (6, .pointer (some ⟨g23, 0, none⟩)), (7, .pointer (some ⟨g36, 0, none⟩)), (8, .pointer (some ⟨g49, 0, none⟩)), (9, .int .i64 n_2918), (10, .int .i64 k_2919)] ∧ Hp S0 w0 w [.rd A_one_0 (rowC (Eint .u32) l_one_0), .rd A_two_1 (rowC (Eint .u32) l_two_1), .box g10 [.slice A12 z6.length c13, .int .i64 z7] 99, .own A12 c13 (rowC (Eint .u8) z6) 5 (Eint .u8).sz, .box g23 [.slice A2910 l2912.length c2911, .int .i64 y2916] 99, .own A2910 c2911 (rowC (Eint .u8) l2912) 5 (Eint .u8).sz, .box g36 [.slice A38 z32.length c39, .int .i64 z33] 99, .own A38 c39 (rowC (Eint .u8) z32) 5 (Eint .u8).sz, .box g49 [.slice A2913 l2915.length c2914, .int .i64 y2917] 99, .own A2913 c2914 (rowC (Eint .u8) l2915) 5 (Eint .u8).sz] ∧ valiselaw3_BitsJoins.l11 k l2912 l2915 y2916 y2917 n_2918 k_2919 l_two_1 = some yj54) FU (fun a ha => ⟨_, _, _, _, _, _, _, _, _, _, Is.cons ha (Is.cons ha (Is.cons ha (Is.cons ha (Is.cons ha (Is.cons ha (Is.cons ha (Is.cons ha (Is.nil ha) rfl) rfl) rfl) rfl) rfl) rfl) rfl) rfl, HS48.sel [0, 1, 2, 3, 4, 5, 6, 7, 8, 9] rfl, H⟩) (fun kp2909 a w2920 hI Qp2909 hNp2909 hOp2909 => ?_)
      obtain ⟨l2912, l2915, y2916, y2917, n_2918, k_2919, A2910, c2911, A2913, c2914, ha, HS2921, HAp2909⟩ := hI
      cases kp2909 with
      | zero => cases (show (none : Option _) = some _ from HAp2909)
      | succ kp2909 =>
        have H := (valiselaw3_BitsJoins.l11.eq_2 ..).symm.trans HAp2909
        refine wpLF_app ?_ ha
        refine L_seq ?_
        refine L_seq ?_
        refine L_region ?_
        refine F_val rfl rfl rfl (O_move rfl rfl) ?_
        refine F_val rfl rfl rfl (O_lt rfl rfl rfl) ?_
        refine F_nil ?_
        refine L_condP rfl (fun c2922 => ?_) (fun c2922 => ?_)
        · have H := of_pos H c2922
          refine L_skip ?_
          refine L_seq ?_
          refine L_blk (fun Q2923 hN2923 hX2923 hO2923 => ?_)
          refine L_seq ?_
          refine L_region ?_
          refine F_val rfl rfl rfl (O_assign rfl rfl) ?_
          refine F_nil ?_
          obtain ⟨yj2924, Hyj2924, H⟩ := of_bind H
          refine L_join (fun a w => ∃ (l3200 : List Int), ∃ (l3203 : List Int), ∃ (y3204 : Int), ∃ (y3205 : Int), ∃ (n_3206 : Int), ∃ (A3198 : Option Addr), ∃ (c3199 : Nat), ∃ (A3201 : Option Addr), ∃ (c3202 : Nat), yj2924 = Sum.inr (l3200, l3203, y3204, y3205, n_3206) ∧ Is Try.f4.ntmps a [(0, .slice A_one_0 l_one_0.length c_one_0), (1, .slice A_two_1 l_two_1.length c_two_1), (5, .pointer (some ⟨g10, 0, none⟩)), (6, .pointer (some ⟨g23, 0, none⟩)), (7, .pointer (some ⟨g36, 0, none⟩)), (8, .pointer (some ⟨g49, 0, none⟩)), (9, .int .i64 n_3206), (10, .int .i64 k_2919)] ∧ Hp S0 w0 w [.rd A_one_0 (rowC (Eint .u32) l_one_0), .rd A_two_1 (rowC (Eint .u32) l_two_1), .box g10 [.slice A12 z6.length c13, .int .i64 z7] 99, .own A12 c13 (rowC (Eint .u8) z6) 5 (Eint .u8).sz, .box g23 [.slice A3198 l3200.length c3199, .int .i64 y3204] 99, .own A3198 c3199 (rowC (Eint .u8) l3200) 5 (Eint .u8).sz, .box g36 [.slice A38 z32.length c39, .int .i64 z33] 99, .own A38 c39 (rowC (Eint .u8) z32) 5 (Eint .u8).sz, .box g49 [.slice A3201 l3203.length c3202, .int .i64 y3205] 99, .own A3201 c3202 (rowC (Eint .u8) l3203) 5 (Eint .u8).sz]) (fun Qj2924 hNj2924 hOj2924 => ?_) (fun a w hR => ?_)
          · have HOj2924 := H
            have H := Hyj2924
            refine L_blk (fun Qb3207 hNb3207 hXb3207 hOb3207 => ?_)
            refine L_lp (fun k a w => ∃ (l3387 : List Int), ∃ (l3390 : List Int), ∃ (y3391 : Int), ∃ (y3392 : Int), ∃ (n_3393 : Int), ∃ (i_3394 : Int), ∃ (A3385 : Option Addr), ∃ (c3386 : Nat), ∃ (A3388 : Option Addr), ∃ (c3389 : Nat), Is Try.f4.ntmps a [(0, .slice A_one_0 l_one_0.length c_one_0), (1, .slice A_two_1 l_two_1.length c_two_1), (5, .pointer (some ⟨g10, 0, none⟩)), (6, .pointer (some ⟨g23, 0, none⟩)), (7, .pointer (some ⟨g36, 0, none⟩)), (8, .pointer (some ⟨g49, 0, none⟩)), (9, .int .i64 n_3393), (10, .int .i64 k_2919), (11, .int .i64 i_3394)] ∧ Hp S0 w0 w [.rd A_one_0 (rowC (Eint .u32) l_one_0), .rd A_two_1 (rowC (Eint .u32) l_two_1), .box g10 [.slice A12 z6.length c13, .int .i64 z7] 99, .own A12 c13 (rowC (Eint .u8) z6) 5 (Eint .u8).sz, .box g23 [.slice A3385 l3387.length c3386, .int .i64 y3391] 99, .own A3385 c3386 (rowC (Eint .u8) l3387) 5 (Eint .u8).sz, .box g36 [.slice A38 z32.length c39, .int .i64 z33] 99, .own A38 c39 (rowC (Eint .u8) z32) 5 (Eint .u8).sz, .box g49 [.slice A3388 l3390.length c3389, .int .i64 y3392] 99, .own A3388 c3389 (rowC (Eint .u8) l3390) 5 (Eint .u8).sz] ∧ valiselaw3_BitsJoins.l13 k l3387 l3390 y3391 y3392 n_3393 i_3394 l_two_1 k_2919 = some yj2924) FU (fun a ha => ⟨_, _, _, _, _, _, _, _, _, _, Is.cons ha (Is.cons ha (Is.cons ha (Is.cons ha (Is.cons ha (Is.cons ha (Is.cons ha (Is.cons ha (Is.cons ha (Is.nil ha) rfl) rfl) rfl) rfl) rfl) rfl) rfl) rfl) rfl, HS2921.sel [0, 1, 2, 3, 4, 5, 6, 7, 8, 9] rfl, H⟩) (fun kp3384 a w3395 hI Qp3384 hNp3384 hOp3384 => ?_)
            obtain ⟨l3387, l3390, y3391, y3392, n_3393, i_3394, A3385, c3386, A3388, c3389, ha, HS3396, HAp3384⟩ := hI
            cases kp3384 with
            | zero => cases (show (none : Option _) = some _ from HAp3384)
            | succ kp3384 =>
              have H := (valiselaw3_BitsJoins.l13.eq_2 ..).symm.trans HAp3384
              refine wpLF_app ?_ ha
              refine L_seq ?_
              refine L_seq ?_
              refine L_region ?_
              refine F_val rfl rfl rfl (O_move rfl rfl) ?_
              refine F_val rfl rfl rfl (O_move rfl rfl) ?_
              refine F_val rfl rfl rfl (O_len rfl rfl Try.underlying30) ?_
              refine F_val rfl rfl rfl (O_lt rfl rfl rfl) ?_
              refine F_nil ?_
              refine L_condP rfl (fun c3397 => ?_) (fun c3397 => ?_)
              · have H := of_pos H c3397
                refine L_skip ?_
                refine L_seq ?_
                refine L_blk (fun Q3398 hN3398 hX3398 hO3398 => ?_)
                refine L_seq ?_
                refine L_region ?_
                refine F_val rfl rfl rfl (O_move rfl rfl) ?_
                refine F_val rfl rfl rfl (O_rem rfl rfl rfl (by decide)) ?_
                refine F_val rfl rfl rfl (O_add rfl rfl rfl) ?_
                obtain ⟨x3399, h3400, H⟩ := of_bnd H
                refine F_val rfl rfl rfl (O_assign' rfl rfl (congrArg (Value.int .i64) h3400)) ?_
                refine F_nil ?_
                refine L_seq ?_
                refine L_seq ?_
                refine L_region ?_
                refine F_val rfl rfl rfl (O_move rfl rfl) ?_
                refine F_val rfl rfl rfl (O_eq rfl rfl rfl) ?_
                refine F_nil ?_
                obtain ⟨yj3401, Hyj3401, H⟩ := of_bind H
                refine L_join (fun a w => ∃ (l3428 : List Int), ∃ (y3429 : Int), ∃ (n_3430 : Int), ∃ (A3426 : Option Addr), ∃ (c3427 : Nat), yj3401 = Sum.inr (l3428, y3429, n_3430) ∧ Is Try.f4.ntmps a [(0, .slice A_one_0 l_one_0.length c_one_0), (1, .slice A_two_1 l_two_1.length c_two_1), (5, .pointer (some ⟨g10, 0, none⟩)), (6, .pointer (some ⟨g23, 0, none⟩)), (7, .pointer (some ⟨g36, 0, none⟩)), (8, .pointer (some ⟨g49, 0, none⟩)), (9, .int .i64 n_3430), (10, .int .i64 k_2919), (11, .int .i64 i_3394), (12, .int .i64 x3399)] ∧ Hp S0 w0 w [.rd A_one_0 (rowC (Eint .u32) l_one_0), .rd A_two_1 (rowC (Eint .u32) l_two_1), .box g10 [.slice A12 z6.length c13, .int .i64 z7] 99, .own A12 c13 (rowC (Eint .u8) z6) 5 (Eint .u8).sz, .box g23 [.slice A3426 l3428.length c3427, .int .i64 y3429] 99, .own A3426 c3427 (rowC (Eint .u8) l3428) 5 (Eint .u8).sz, .box g36 [.slice A38 z32.length c39, .int .i64 z33] 99, .own A38 c39 (rowC (Eint .u8) z32) 5 (Eint .u8).sz, .box g49 [.slice A3388 l3390.length c3389, .int .i64 y3392] 99, .own A3388 c3389 (rowC (Eint .u8) l3390) 5 (Eint .u8).sz]) (fun Qj3401 hNj3401 hOj3401 => ?_) (fun a w hR => ?_)
                · have HOj3401 := H
                  have H := Hyj3401
                  refine L_condP rfl (fun c3431 => ?_) (fun c3431 => ?_)
                  · have H := of_pos H c3431
                    refine L_seq ?_
                    refine L_seq ?_
                    refine L_region ?_
                    refine F_val rfl rfl rfl (O_move rfl rfl) ?_
                    refine F_val rfl rfl rfl (O_move rfl rfl) ?_
                    refine F_val rfl rfl rfl (O_move rfl rfl) ?_
                    obtain ⟨⟨g3432, g3433⟩, H⟩ := of_gd H
                    refine F_val rfl rfl rfl (O_idx rfl rfl rfl Try.underlying30 size22 g3432 g3433 (Cells.isA (HS3396.cells_rd (i := 1) rfl) (rowC_ne (E := (Eint .u32)) g3432 g3433 (by decide)))) ?_
                    refine F_val rfl rfl rfl (O_loadC rfl rfl flat22 (HS3396.cells_rd (i := 1) rfl) (int_cell g3432 g3433)) ?_
                    refine F_val rfl rfl rfl (O_move rfl rfl) ?_
                    obtain ⟨z3438, h3437, H⟩ := of_bind H
                    refine F_call (xs := [.tmp 62, .tmp 63]) rfl rfl rfl rfl Try.func20 nm20 rfl rfl ((valiselaw3_low.calls (HS3396.give [] rfl (Lent.nil)) h3437).mono (fun e w hc => ?_))
                    obtain ⟨rfl, HSo⟩ := hc
                    refine ⟨.int .u32 z3438, rfl, ?_⟩
                    have HS3440 : Hp S0 w0 w [.rd A_one_0 (rowC (Eint .u32) l_one_0), .rd A_two_1 (rowC (Eint .u32) l_two_1), .box g10 [.slice A12 z6.length c13, .int .i64 z7] 99, .own A12 c13 (rowC (Eint .u8) z6) 5 (Eint .u8).sz, .box g23 [.slice A3385 l3387.length c3386, .int .i64 y3391] 99, .own A3385 c3386 (rowC (Eint .u8) l3387) 5 (Eint .u8).sz, .box g36 [.slice A38 z32.length c39, .int .i64 z33] 99, .own A38 c39 (rowC (Eint .u8) z32) 5 (Eint .u8).sz, .box g49 [.slice A3388 l3390.length c3389, .int .i64 y3392] 99, .own A3388 c3389 (rowC (Eint .u8) l3390) 5 (Eint .u8).sz] := (HS3396.back [] HSo rfl).sel [0, 1, 2, 3, 4, 5, 6, 7, 8, 9] rfl
                    refine F_val rfl rfl rfl (O_move rfl rfl) ?_
                    obtain ⟨⟨z3445, z3446, z3447⟩, h3444, H⟩ := of_bind H
                    refine F_call (xs := [.tmp 58, .tmp 64, .tmp 65]) rfl rfl rfl rfl Try.func19 nm19 rfl rfl ((bits_Writer_Put.calls (HS3440.give [4, 5] rfl (Lent.nil)) h3444).mono (fun e w hc => ?_))
                    obtain ⟨A3450, c3451, rfl, HSo⟩ := hc
                    refine ⟨.int .i64 z3445, rfl, ?_⟩
                    have HS3449 : Hp S0 w0 w [.rd A_one_0 (rowC (Eint .u32) l_one_0), .rd A_two_1 (rowC (Eint .u32) l_two_1), .box g10 [.slice A12 z6.length c13, .int .i64 z7] 99, .own A12 c13 (rowC (Eint .u8) z6) 5 (Eint .u8).sz, .box g23 [.slice A3450 z3446.length c3451, .int .i64 z3447] 99, .own A3450 c3451 (rowC (Eint .u8) z3446) 5 (Eint .u8).sz, .box g36 [.slice A38 z32.length c39, .int .i64 z33] 99, .own A38 c39 (rowC (Eint .u8) z32) 5 (Eint .u8).sz, .box g49 [.slice A3388 l3390.length c3389, .int .i64 y3392] 99, .own A3388 c3389 (rowC (Eint .u8) l3390) 5 (Eint .u8).sz] := (HS3440.back [4, 5] HSo rfl).sel [0, 1, 2, 3, 10, 11, 6, 7, 8, 9] rfl
                    refine F_val rfl rfl rfl (O_ne rfl rfl rfl) ?_
                    refine F_nil ?_
                    refine L_condP rfl (fun c3452 => ?_) (fun c3452 => ?_)
                    · have H := of_pos H c3452
                      refine L_seq ?_
                      refine L_region ?_
                      refine F_val rfl rfl rfl (O_assign rfl rfl) ?_
                      refine F_nil ?_
                      refine L_ret (fun a ha => (hOj3401 .ret a _ rfl (hO3398 .ret a _ rfl (hOp3384 .ret a _ rfl (hOb3207 .ret a _ rfl (hOj2924 .ret a _ rfl (hO2923 .ret a _ rfl (hOp2909 .ret a _ rfl (hOb1774 .ret a _ rfl (hOj54 .ret a _ rfl (post_ret1 ha rfl rfl ?_)))))))))))
                      obtain rfl := Option.some.inj H
                      obtain rfl := Option.some.inj (show (some (Sum.inl false) : Option (Sum (Bool) _)) = some _ from HOj3401)
                      obtain rfl := Option.some.inj (show (some (Sum.inl false) : Option (Sum (Bool) _)) = some _ from HOj2924)
                      obtain rfl := Option.some.inj (show (some false : Option (Bool)) = some _ from HOj54)
                      exact ⟨rfl, HS3449.sel [] rfl⟩
                    · have H := of_neg H c3452
                      refine L_skip ?_
                      refine L_region ?_
                      refine F_val rfl rfl rfl (O_move rfl rfl) ?_
                      refine F_val rfl rfl rfl (O_move rfl rfl) ?_
                      refine F_val rfl rfl rfl (O_add rfl rfl rfl) ?_
                      obtain ⟨x3453, h3454, H⟩ := of_bnd H
                      refine F_val rfl rfl rfl (O_assign' rfl rfl (congrArg (Value.int .i64) h3454)) ?_
                      refine F_nil ?_
                      refine L_nil (fun a ha => hNj3401 a _ ⟨_, _, _, _, _, (Option.some.inj H).symm, Is.cons ha (Is.cons ha (Is.cons ha (Is.cons ha (Is.cons ha (Is.cons ha (Is.cons ha (Is.cons ha (Is.cons ha (Is.cons ha (Is.nil ha) rfl) rfl) rfl) rfl) rfl) rfl) rfl) rfl) rfl) rfl, HS3449.sel [0, 1, 2, 3, 4, 5, 6, 7, 8, 9] rfl⟩)
                  · have H := of_neg H c3431
                    refine L_skip ?_
                    refine L_nil (fun a ha => hNj3401 a _ ⟨_, _, _, _, _, (Option.some.inj H).symm, Is.cons ha (Is.cons ha (Is.cons ha (Is.cons ha (Is.cons ha (Is.cons ha (Is.cons ha (Is.cons ha (Is.cons ha (Is.cons ha (Is.nil ha) rfl) rfl) rfl) rfl) rfl) rfl) rfl) rfl) rfl) rfl, HS3396.sel [0, 1, 2, 3, 4, 5, 6, 7, 8, 9] rfl⟩)
                · obtain ⟨l3428, y3429, n_3430, A3426, c3427, rfl, ha, HS3456⟩ := hR
                  refine wpLF_app ?_ ha
                  have H := (onR_inr _ _ _).symm.trans H
                  refine L_seq ?_
                  refine L_region ?_
                  refine F_val rfl rfl rfl (O_move rfl rfl) ?_
                  refine F_val rfl rfl rfl (O_move rfl rfl) ?_
                  refine F_val rfl rfl rfl (O_move rfl rfl) ?_
                  obtain ⟨⟨g3457, g3458⟩, H⟩ := of_gd H
                  refine F_val rfl rfl rfl (O_idx rfl rfl rfl Try.underlying30 size22 g3457 g3458 (Cells.isA (HS3456.cells_rd (i := 1) rfl) (rowC_ne (E := (Eint .u32)) g3457 g3458 (by decide)))) ?_
                  refine F_val rfl rfl rfl (O_loadC rfl rfl flat22 (HS3456.cells_rd (i := 1) rfl) (int_cell g3457 g3458)) ?_
                  refine F_val rfl rfl rfl (O_move rfl rfl) ?_
                  obtain ⟨z3463, h3462, H⟩ := of_bind H
                  refine F_call (xs := [.tmp 75, .tmp 76]) rfl rfl rfl rfl Try.func20 nm20 rfl rfl ((valiselaw3_low.calls (HS3456.give [] rfl (Lent.nil)) h3462).mono (fun e w hc => ?_))
                  obtain ⟨rfl, HSo⟩ := hc
                  refine ⟨.int .u32 z3463, rfl, ?_⟩
                  have HS3465 : Hp S0 w0 w [.rd A_one_0 (rowC (Eint .u32) l_one_0), .rd A_two_1 (rowC (Eint .u32) l_two_1), .box g10 [.slice A12 z6.length c13, .int .i64 z7] 99, .own A12 c13 (rowC (Eint .u8) z6) 5 (Eint .u8).sz, .box g23 [.slice A3426 l3428.length c3427, .int .i64 y3429] 99, .own A3426 c3427 (rowC (Eint .u8) l3428) 5 (Eint .u8).sz, .box g36 [.slice A38 z32.length c39, .int .i64 z33] 99, .own A38 c39 (rowC (Eint .u8) z32) 5 (Eint .u8).sz, .box g49 [.slice A3388 l3390.length c3389, .int .i64 y3392] 99, .own A3388 c3389 (rowC (Eint .u8) l3390) 5 (Eint .u8).sz] := (HS3456.back [] HSo rfl).sel [0, 1, 2, 3, 4, 5, 6, 7, 8, 9] rfl
                  refine F_val rfl rfl rfl (O_move rfl rfl) ?_
                  obtain ⟨⟨z3470, z3471, z3472⟩, h3469, H⟩ := of_bind H
                  refine F_call (xs := [.tmp 71, .tmp 77, .tmp 78]) rfl rfl rfl rfl Try.func19 nm19 rfl rfl ((bits_Writer_Put.calls (HS3465.give [8, 9] rfl (Lent.nil)) h3469).mono (fun e w hc => ?_))
                  obtain ⟨A3475, c3476, rfl, HSo⟩ := hc
                  refine ⟨.int .i64 z3470, rfl, ?_⟩
                  have HS3474 : Hp S0 w0 w [.rd A_one_0 (rowC (Eint .u32) l_one_0), .rd A_two_1 (rowC (Eint .u32) l_two_1), .box g10 [.slice A12 z6.length c13, .int .i64 z7] 99, .own A12 c13 (rowC (Eint .u8) z6) 5 (Eint .u8).sz, .box g23 [.slice A3426 l3428.length c3427, .int .i64 y3429] 99, .own A3426 c3427 (rowC (Eint .u8) l3428) 5 (Eint .u8).sz, .box g36 [.slice A38 z32.length c39, .int .i64 z33] 99, .own A38 c39 (rowC (Eint .u8) z32) 5 (Eint .u8).sz, .box g49 [.slice A3475 z3471.length c3476, .int .i64 z3472] 99, .own A3475 c3476 (rowC (Eint .u8) z3471) 5 (Eint .u8).sz] := (HS3465.back [8, 9] HSo rfl).sel [0, 1, 2, 3, 4, 5, 6, 7, 10, 11] rfl
                  refine F_val rfl rfl rfl (O_ne rfl rfl rfl) ?_
                  refine F_nil ?_
                  refine L_condP rfl (fun c3477 => ?_) (fun c3477 => ?_)
                  · have H := of_pos H c3477
                    refine L_seq ?_
                    refine L_region ?_
                    refine F_val rfl rfl rfl (O_assign rfl rfl) ?_
                    refine F_nil ?_
                    refine L_ret (fun a ha => (hO3398 .ret a _ rfl (hOp3384 .ret a _ rfl (hOb3207 .ret a _ rfl (hOj2924 .ret a _ rfl (hO2923 .ret a _ rfl (hOp2909 .ret a _ rfl (hOb1774 .ret a _ rfl (hOj54 .ret a _ rfl (post_ret1 ha rfl rfl ?_))))))))))
                    obtain rfl := Option.some.inj H
                    obtain rfl := Option.some.inj (show (some (Sum.inl false) : Option (Sum (Bool) _)) = some _ from HOj2924)
                    obtain rfl := Option.some.inj (show (some false : Option (Bool)) = some _ from HOj54)
                    exact ⟨rfl, HS3474.sel [] rfl⟩
                  · have H := of_neg H c3477
                    refine L_skip ?_
                    refine L_endB hN3398 ?_
                    refine L_region ?_
                    refine F_val rfl rfl rfl (O_move rfl rfl) ?_
                    refine F_val rfl rfl rfl (O_add rfl rfl rfl) ?_
                    obtain ⟨x3478, h3479, H⟩ := of_bnd H
                    refine F_val rfl rfl rfl (O_assign' rfl rfl (congrArg (Value.int .i64) h3479)) ?_
                    refine F_nil ?_
                    refine L_nil (fun a ha => hNp3384 _ a _ (Nat.lt_succ_self _) ⟨_, _, _, _, _, _, _, _, _, _, Is.cons ha (Is.cons ha (Is.cons ha (Is.cons ha (Is.cons ha (Is.cons ha (Is.cons ha (Is.cons ha (Is.cons ha (Is.nil ha) rfl) rfl) rfl) rfl) rfl) rfl) rfl) rfl) rfl, HS3474.sel [0, 1, 2, 3, 4, 5, 6, 7, 8, 9] rfl, H⟩)
              · have H := of_neg H c3397
                refine L_exitB (fun a w h => hOp3384 (.exit 2) a w rfl (hXb3207 a w h)) ?_
                refine L_nil (fun a ha => hNj2924 a _ ⟨_, _, _, _, _, _, _, _, _, (Option.some.inj H).symm, Is.cons ha (Is.cons ha (Is.cons ha (Is.cons ha (Is.cons ha (Is.cons ha (Is.cons ha (Is.cons ha (Is.nil ha) rfl) rfl) rfl) rfl) rfl) rfl) rfl) rfl, HS3396.sel [0, 1, 2, 3, 4, 5, 6, 7, 8, 9] rfl⟩)
          · obtain ⟨l3200, l3203, y3204, y3205, n_3206, A3198, c3199, A3201, c3202, rfl, ha, HS3481⟩ := hR
            refine wpLF_app ?_ ha
            have H := (onR_inr _ _ _).symm.trans H
            refine L_endB hN2923 ?_
            refine L_region ?_
            refine F_val rfl rfl rfl (O_move rfl rfl) ?_
            refine F_val rfl rfl rfl (O_add rfl rfl rfl) ?_
            obtain ⟨x3482, h3483, H⟩ := of_bnd H
            refine F_val rfl rfl rfl (O_assign' rfl rfl (congrArg (Value.int .i64) h3483)) ?_
            refine F_nil ?_
            refine L_nil (fun a ha => hNp2909 _ a _ (Nat.lt_succ_self _) ⟨_, _, _, _, _, _, _, _, _, _, Is.cons ha (Is.cons ha (Is.cons ha (Is.cons ha (Is.cons ha (Is.cons ha (Is.cons ha (Is.cons ha (Is.nil ha) rfl) rfl) rfl) rfl) rfl) rfl) rfl) rfl, HS3481.sel [0, 1, 2, 3, 4, 5, 6, 7, 8, 9] rfl, H⟩)
        · have H := of_neg H c2922
          refine L_exitB (fun a w h => hOp2909 (.exit 0) a w rfl (hXb1774 a w h)) ?_
          refine L_nil (fun a ha => hNj54 a _ ⟨_, _, _, _, _, _, _, _, _, (Option.some.inj H).symm, Is.cons ha (Is.cons ha (Is.cons ha (Is.cons ha (Is.cons ha (Is.cons ha (Is.cons ha (Is.nil ha) rfl) rfl) rfl) rfl) rfl) rfl) rfl, HS2921.sel [0, 1, 2, 3, 4, 5, 6, 7, 8, 9] rfl⟩)
    · obtain ⟨l1767, l1770, y1771, y1772, n_1773, A1765, c1766, A1768, c1769, rfl, ha, HS3485⟩ := hR
      refine wpLF_app ?_ ha
      have H := (onR_inr _ _ _).symm.trans H
      refine L_seq ?_
      refine L_region ?_
      refine F_val rfl rfl rfl (O_move rfl rfl) ?_
      obtain ⟨z3490, h3489, H⟩ := of_bind H
      refine F_call (xs := [.tmp 81]) rfl rfl rfl rfl Try.func21 nm21 rfl rfl ((bits_Writer_Bytes.calls (HS3485.give [] rfl (Lent.box HS3485 (Lent.own HS3485 (Lent.nil) (i := 5) rfl rfl ((HS3485.cells_own (i := 5) rfl).self)) (i := 4) rfl rfl (HS3485.cells_box (i := 4) rfl).self)) h3489).mono (fun e w hc => ?_))
      obtain ⟨A3493, c3494, rfl, HSo⟩ := hc
      refine ⟨.slice A3493 z3490.length c3494, rfl, ?_⟩
      have HS3492 : Hp S0 w0 w [.rd A_one_0 (rowC (Eint .u32) l_one_0), .rd A_two_1 (rowC (Eint .u32) l_two_1), .box g10 [.slice A12 z6.length c13, .int .i64 z7] 99, .own A12 c13 (rowC (Eint .u8) z6) 5 (Eint .u8).sz, .box g23 [.slice A1765 l1767.length c1766, .int .i64 y1771] 99, .own A1765 c1766 (rowC (Eint .u8) l1767) 5 (Eint .u8).sz, .box g36 [.slice A38 z32.length c39, .int .i64 z33] 99, .own A38 c39 (rowC (Eint .u8) z32) 5 (Eint .u8).sz, .box g49 [.slice A1768 l1770.length c1769, .int .i64 y1772] 99, .own A1768 c1769 (rowC (Eint .u8) l1770) 5 (Eint .u8).sz, .own A3493 c3494 (rowC (Eint .u8) z3490) 5 (Eint .u8).sz] := (HS3485.back [] HSo rfl).sel [0, 1, 2, 3, 4, 5, 6, 7, 8, 9, 10] rfl
      refine F_val rfl rfl rfl (O_assign rfl rfl) ?_
      refine F_nil ?_
      refine L_seq ?_
      refine L_region ?_
      refine F_val rfl rfl rfl (O_assign rfl rfl) ?_
      refine F_nil ?_
      refine L_seq ?_
      refine L_seq ?_
      refine L_region ?_
      refine F_val rfl rfl rfl (O_assign rfl rfl) ?_
      refine F_nil ?_
      obtain ⟨yj3496, Hyj3496, H⟩ := of_bind H
      refine L_join (fun a w => ∃ (l3671 : List Int), ∃ (l3674 : List Int), ∃ (y3675 : Int), ∃ (y3676 : Int), ∃ (m_3677 : Int), ∃ (A3669 : Option Addr), ∃ (c3670 : Nat), ∃ (A3672 : Option Addr), ∃ (c3673 : Nat), yj3496 = Sum.inr (l3671, l3674, y3675, y3676, m_3677) ∧ Is Try.f4.ntmps a [(1, .slice A_two_1 l_two_1.length c_two_1), (5, .pointer (some ⟨g10, 0, none⟩)), (6, .pointer (some ⟨g23, 0, none⟩)), (7, .pointer (some ⟨g36, 0, none⟩)), (8, .pointer (some ⟨g49, 0, none⟩)), (9, .int .i64 n_1773), (13, .slice A3493 z3490.length c3494), (14, .int .i64 m_3677)] ∧ Hp S0 w0 w [.rd A_one_0 (rowC (Eint .u32) l_one_0), .rd A_two_1 (rowC (Eint .u32) l_two_1), .box g10 [.slice A3669 l3671.length c3670, .int .i64 y3675] 99, .own A3669 c3670 (rowC (Eint .u8) l3671) 5 (Eint .u8).sz, .box g23 [.slice A1765 l1767.length c1766, .int .i64 y1771] 99, .own A1765 c1766 (rowC (Eint .u8) l1767) 5 (Eint .u8).sz, .box g36 [.slice A3672 l3674.length c3673, .int .i64 y3676] 99, .own A3672 c3673 (rowC (Eint .u8) l3674) 5 (Eint .u8).sz, .box g49 [.slice A1768 l1770.length c1769, .int .i64 y1772] 99, .own A1768 c1769 (rowC (Eint .u8) l1770) 5 (Eint .u8).sz, .own A3493 c3494 (rowC (Eint .u8) z3490) 5 (Eint .u8).sz]) (fun Qj3496 hNj3496 hOj3496 => ?_) (fun a w hR => ?_)
      · have HOj3496 := H
        have H := Hyj3496
        refine L_blk (fun Qb3678 hNb3678 hXb3678 hOb3678 => ?_)
        refine L_lp (fun k a w => ∃ (l3790 : List Int), ∃ (l3793 : List Int), ∃ (y3794 : Int), ∃ (y3795 : Int), ∃ (m_3796 : Int), ∃ (i_3797 : Int), ∃ (A3788 : Option Addr), ∃ (c3789 : Nat), ∃ (A3791 : Option Addr), ∃ (c3792 : Nat), Is Try.f4.ntmps a [(0, .slice A_one_0 l_one_0.length c_one_0), (1, .slice A_two_1 l_two_1.length c_two_1), (5, .pointer (some ⟨g10, 0, none⟩)), (6, .pointer (some ⟨g23, 0, none⟩)), (7, .pointer (some ⟨g36, 0, none⟩)), (8, .pointer (some ⟨g49, 0, none⟩)), (9, .int .i64 n_1773), (13, .slice A3493 z3490.length c3494), (14, .int .i64 m_3796), (15, .int .i64 i_3797)] ∧ Hp S0 w0 w [.rd A_one_0 (rowC (Eint .u32) l_one_0), .rd A_two_1 (rowC (Eint .u32) l_two_1), .box g10 [.slice A3788 l3790.length c3789, .int .i64 y3794] 99, .own A3788 c3789 (rowC (Eint .u8) l3790) 5 (Eint .u8).sz, .box g23 [.slice A1765 l1767.length c1766, .int .i64 y1771] 99, .own A1765 c1766 (rowC (Eint .u8) l1767) 5 (Eint .u8).sz, .box g36 [.slice A3791 l3793.length c3792, .int .i64 y3795] 99, .own A3791 c3792 (rowC (Eint .u8) l3793) 5 (Eint .u8).sz, .box g49 [.slice A1768 l1770.length c1769, .int .i64 y1772] 99, .own A1768 c1769 (rowC (Eint .u8) l1770) 5 (Eint .u8).sz, .own A3493 c3494 (rowC (Eint .u8) z3490) 5 (Eint .u8).sz] ∧ valiselaw3_BitsJoins.l15 k l3790 l3793 y3794 y3795 m_3796 i_3797 l_one_0 = some yj3496) FU (fun a ha => ⟨_, _, _, _, _, _, _, _, _, _, Is.cons ha (Is.cons ha (Is.cons ha (Is.cons ha (Is.cons ha (Is.cons ha (Is.cons ha (Is.cons ha (Is.cons ha (Is.cons ha (Is.nil ha) rfl) rfl) rfl) rfl) rfl) rfl) rfl) rfl) rfl) rfl, HS3492.sel [0, 1, 2, 3, 4, 5, 6, 7, 8, 9, 10] rfl, H⟩) (fun kp3787 a w3798 hI Qp3787 hNp3787 hOp3787 => ?_)
        obtain ⟨l3790, l3793, y3794, y3795, m_3796, i_3797, A3788, c3789, A3791, c3792, ha, HS3799, HAp3787⟩ := hI
        cases kp3787 with
        | zero => cases (show (none : Option _) = some _ from HAp3787)
        | succ kp3787 =>
          have H := (valiselaw3_BitsJoins.l15.eq_2 ..).symm.trans HAp3787
          refine wpLF_app ?_ ha
          refine L_seq ?_
          refine L_seq ?_
          refine L_region ?_
          refine F_val rfl rfl rfl (O_move rfl rfl) ?_
          refine F_val rfl rfl rfl (O_move rfl rfl) ?_
          refine F_val rfl rfl rfl (O_len rfl rfl Try.underlying30) ?_
          refine F_val rfl rfl rfl (O_lt rfl rfl rfl) ?_
          refine F_nil ?_
          refine L_condP rfl (fun c3800 => ?_) (fun c3800 => ?_)
          · have H := of_pos H c3800
            refine L_skip ?_
            refine L_seq ?_
            refine L_blk (fun Q3801 hN3801 hX3801 hO3801 => ?_)
            refine L_seq ?_
            refine L_region ?_
            refine F_val rfl rfl rfl (O_move rfl rfl) ?_
            refine F_val rfl rfl rfl (O_move rfl rfl) ?_
            obtain ⟨⟨g3802, g3803⟩, H⟩ := of_gd H
            refine F_val rfl rfl rfl (O_idx rfl rfl rfl Try.underlying30 size22 g3802 g3803 (Cells.isA (HS3799.cells_rd (i := 0) rfl) (rowC_ne (E := (Eint .u32)) g3802 g3803 (by decide)))) ?_
            refine F_val rfl rfl rfl (O_loadC rfl rfl flat22 (HS3799.cells_rd (i := 0) rfl) (int_cell g3802 g3803)) ?_
            refine F_val rfl rfl rfl (O_rem rfl rfl rfl (by decide)) ?_
            refine F_val rfl rfl rfl (O_conv rfl rfl ⟨_, Try.underlying22⟩ Try.underlying3) ?_
            refine F_val rfl rfl rfl (O_add rfl rfl rfl) ?_
            refine F_val rfl rfl rfl (O_rem rfl rfl rfl (by decide)) ?_
            refine F_val rfl rfl rfl (O_add rfl rfl rfl) ?_
            obtain ⟨x3804, h3805, H⟩ := of_bnd H
            refine F_val rfl rfl rfl (O_assign' rfl rfl (congrArg (Value.int .i64) h3805)) ?_
            refine F_nil ?_
            refine L_seq ?_
            refine L_seq ?_
            refine L_region ?_
            refine F_val rfl rfl rfl (O_move rfl rfl) ?_
            refine F_val rfl rfl rfl (O_move rfl rfl) ?_
            refine F_val rfl rfl rfl (O_move rfl rfl) ?_
            obtain ⟨⟨g3806, g3807⟩, H⟩ := of_gd H
            refine F_val rfl rfl rfl (O_idx rfl rfl rfl Try.underlying30 size22 g3806 g3807 (Cells.isA (HS3799.cells_rd (i := 0) rfl) (rowC_ne (E := (Eint .u32)) g3806 g3807 (by decide)))) ?_
            refine F_val rfl rfl rfl (O_loadC rfl rfl flat22 (HS3799.cells_rd (i := 0) rfl) (int_cell g3806 g3807)) ?_
            refine F_val rfl rfl rfl (O_move rfl rfl) ?_
            obtain ⟨z3812, h3811, H⟩ := of_bind H
            refine F_call (xs := [.tmp 102, .tmp 103]) rfl rfl rfl rfl Try.func20 nm20 rfl rfl ((valiselaw3_low.calls (HS3799.give [] rfl (Lent.nil)) h3811).mono (fun e w hc => ?_))
            obtain ⟨rfl, HSo⟩ := hc
            refine ⟨.int .u32 z3812, rfl, ?_⟩
            have HS3814 : Hp S0 w0 w [.rd A_one_0 (rowC (Eint .u32) l_one_0), .rd A_two_1 (rowC (Eint .u32) l_two_1), .box g10 [.slice A3788 l3790.length c3789, .int .i64 y3794] 99, .own A3788 c3789 (rowC (Eint .u8) l3790) 5 (Eint .u8).sz, .box g23 [.slice A1765 l1767.length c1766, .int .i64 y1771] 99, .own A1765 c1766 (rowC (Eint .u8) l1767) 5 (Eint .u8).sz, .box g36 [.slice A3791 l3793.length c3792, .int .i64 y3795] 99, .own A3791 c3792 (rowC (Eint .u8) l3793) 5 (Eint .u8).sz, .box g49 [.slice A1768 l1770.length c1769, .int .i64 y1772] 99, .own A1768 c1769 (rowC (Eint .u8) l1770) 5 (Eint .u8).sz, .own A3493 c3494 (rowC (Eint .u8) z3490) 5 (Eint .u8).sz] := (HS3799.back [] HSo rfl).sel [0, 1, 2, 3, 4, 5, 6, 7, 8, 9, 10] rfl
            refine F_val rfl rfl rfl (O_move rfl rfl) ?_
            obtain ⟨⟨z3819, z3820, z3821⟩, h3818, H⟩ := of_bind H
            refine F_call (xs := [.tmp 98, .tmp 104, .tmp 105]) rfl rfl rfl rfl Try.func19 nm19 rfl rfl ((bits_Writer_Put.calls (HS3814.give [2, 3] rfl (Lent.nil)) h3818).mono (fun e w hc => ?_))
            obtain ⟨A3824, c3825, rfl, HSo⟩ := hc
            refine ⟨.int .i64 z3819, rfl, ?_⟩
            have HS3823 : Hp S0 w0 w [.rd A_one_0 (rowC (Eint .u32) l_one_0), .rd A_two_1 (rowC (Eint .u32) l_two_1), .box g10 [.slice A3824 z3820.length c3825, .int .i64 z3821] 99, .own A3824 c3825 (rowC (Eint .u8) z3820) 5 (Eint .u8).sz, .box g23 [.slice A1765 l1767.length c1766, .int .i64 y1771] 99, .own A1765 c1766 (rowC (Eint .u8) l1767) 5 (Eint .u8).sz, .box g36 [.slice A3791 l3793.length c3792, .int .i64 y3795] 99, .own A3791 c3792 (rowC (Eint .u8) l3793) 5 (Eint .u8).sz, .box g49 [.slice A1768 l1770.length c1769, .int .i64 y1772] 99, .own A1768 c1769 (rowC (Eint .u8) l1770) 5 (Eint .u8).sz, .own A3493 c3494 (rowC (Eint .u8) z3490) 5 (Eint .u8).sz] := (HS3814.back [2, 3] HSo rfl).sel [0, 1, 11, 12, 4, 5, 6, 7, 8, 9, 10] rfl
            refine F_val rfl rfl rfl (O_ne rfl rfl rfl) ?_
            refine F_val rfl rfl rfl (O_move rfl rfl) ?_
            rcases Decidable.em (z3819 ≠ 0) with c3826 | c3826
            · have H := of_pos H c3826
              refine F_know (i := 108) rfl (dec_t c3826) ?_
              refine F_gskip rfl rfl rfl rfl rfl rfl rfl ?_
              refine F_gskip rfl rfl rfl rfl rfl rfl rfl ?_
              refine F_gskip rfl rfl rfl rfl rfl rfl rfl ?_
              refine F_gskip rfl rfl rfl rfl rfl rfl rfl ?_
              refine F_gskip rfl rfl rfl rfl rfl rfl rfl ?_
              refine F_gskip rfl rfl rfl rfl rfl rfl rfl ?_
              refine F_gskip rfl rfl rfl rfl rfl rfl rfl ?_
              refine F_gskip rfl rfl rfl rfl rfl rfl rfl ?_
              refine F_gskip rfl rfl rfl rfl rfl rfl rfl ?_
              refine F_gskip rfl rfl rfl rfl rfl rfl rfl ?_
              refine F_val rfl rfl rfl (O_pickT rfl rfl rfl) ?_
              refine F_nil ?_
              refine L_cond rfl (fun _ => ?_) (fun hx => by cases hx)
              refine L_seq ?_
              refine L_region ?_
              refine F_val rfl rfl rfl (O_assign rfl rfl) ?_
              refine F_nil ?_
              refine L_ret (fun a ha => (hO3801 .ret a _ rfl (hOp3787 .ret a _ rfl (hOb3678 .ret a _ rfl (hOj3496 .ret a _ rfl (post_ret1 ha rfl rfl ?_))))))
              obtain rfl := Option.some.inj H
              obtain rfl := Option.some.inj (show (some false : Option (Bool)) = some _ from HOj3496)
              exact ⟨rfl, HS3823.sel [] rfl⟩
            · have H := of_neg H c3826
              refine F_know (i := 108) rfl (dec_f c3826) ?_
              refine F_gval rfl rfl rfl rfl rfl rfl (O_move rfl rfl) ?_
              refine F_gval rfl rfl rfl rfl rfl rfl (O_move rfl rfl) ?_
              refine F_gval rfl rfl rfl rfl rfl rfl (O_move rfl rfl) ?_
              refine F_gval rfl rfl rfl rfl rfl rfl (O_idx rfl rfl rfl Try.underlying30 size22 g3806 g3807 (Cells.isA (HS3823.cells_rd (i := 0) rfl) (rowC_ne (E := (Eint .u32)) g3806 g3807 (by decide)))) ?_
              refine F_gval rfl rfl rfl rfl rfl rfl (O_loadC rfl rfl flat22 (HS3823.cells_rd (i := 0) rfl) (int_cell g3806 g3807)) ?_
              refine F_gval rfl rfl rfl rfl rfl rfl (O_move rfl rfl) ?_
              obtain ⟨z3831, h3830, H⟩ := of_bind H
              refine F_gcall (xs := [.tmp 113, .tmp 114]) rfl rfl rfl rfl rfl rfl rfl Try.func20 nm20 rfl rfl ((valiselaw3_low.calls (HS3823.give [] rfl (Lent.nil)) h3830).mono (fun e w hc => ?_))
              obtain ⟨rfl, HSo⟩ := hc
              refine ⟨.int .u32 z3831, rfl, ?_⟩
              have HS3833 : Hp S0 w0 w [.rd A_one_0 (rowC (Eint .u32) l_one_0), .rd A_two_1 (rowC (Eint .u32) l_two_1), .box g10 [.slice A3824 z3820.length c3825, .int .i64 z3821] 99, .own A3824 c3825 (rowC (Eint .u8) z3820) 5 (Eint .u8).sz, .box g23 [.slice A1765 l1767.length c1766, .int .i64 y1771] 99, .own A1765 c1766 (rowC (Eint .u8) l1767) 5 (Eint .u8).sz, .box g36 [.slice A3791 l3793.length c3792, .int .i64 y3795] 99, .own A3791 c3792 (rowC (Eint .u8) l3793) 5 (Eint .u8).sz, .box g49 [.slice A1768 l1770.length c1769, .int .i64 y1772] 99, .own A1768 c1769 (rowC (Eint .u8) l1770) 5 (Eint .u8).sz, .own A3493 c3494 (rowC (Eint .u8) z3490) 5 (Eint .u8).sz] := (HS3823.back [] HSo rfl).sel [0, 1, 2, 3, 4, 5, 6, 7, 8, 9, 10] rfl
              refine F_gval rfl rfl rfl rfl rfl rfl (O_move rfl rfl) ?_
              obtain ⟨⟨z3838, z3839, z3840⟩, h3837, H⟩ := of_bind H
              refine F_gcall (xs := [.tmp 109, .tmp 115, .tmp 116]) rfl rfl rfl rfl rfl rfl rfl Try.func19 nm19 rfl rfl ((bits_Writer_Put.calls (HS3833.give [6, 7] rfl (Lent.nil)) h3837).mono (fun e w hc => ?_))
              obtain ⟨A3843, c3844, rfl, HSo⟩ := hc
              refine ⟨.int .i64 z3838, rfl, ?_⟩
              have HS3842 : Hp S0 w0 w [.rd A_one_0 (rowC (Eint .u32) l_one_0), .rd A_two_1 (rowC (Eint .u32) l_two_1), .box g10 [.slice A3824 z3820.length c3825, .int .i64 z3821] 99, .own A3824 c3825 (rowC (Eint .u8) z3820) 5 (Eint .u8).sz, .box g23 [.slice A1765 l1767.length c1766, .int .i64 y1771] 99, .own A1765 c1766 (rowC (Eint .u8) l1767) 5 (Eint .u8).sz, .box g36 [.slice A3843 z3839.length c3844, .int .i64 z3840] 99, .own A3843 c3844 (rowC (Eint .u8) z3839) 5 (Eint .u8).sz, .box g49 [.slice A1768 l1770.length c1769, .int .i64 y1772] 99, .own A1768 c1769 (rowC (Eint .u8) l1770) 5 (Eint .u8).sz, .own A3493 c3494 (rowC (Eint .u8) z3490) 5 (Eint .u8).sz] := (HS3833.back [6, 7] HSo rfl).sel [0, 1, 2, 3, 4, 5, 11, 12, 8, 9, 10] rfl
              refine F_gval rfl rfl rfl rfl rfl rfl (O_ne rfl rfl rfl) ?_
              refine F_val rfl rfl rfl (O_pickF rfl rfl rfl) ?_
              refine F_nil ?_
              refine L_condP rfl (fun c3845 => ?_) (fun c3845 => ?_)
              · have H := of_pos H c3845
                refine L_seq ?_
                refine L_region ?_
                refine F_val rfl rfl rfl (O_assign rfl rfl) ?_
                refine F_nil ?_
                refine L_ret (fun a ha => (hO3801 .ret a _ rfl (hOp3787 .ret a _ rfl (hOb3678 .ret a _ rfl (hOj3496 .ret a _ rfl (post_ret1 ha rfl rfl ?_))))))
                obtain rfl := Option.some.inj H
                obtain rfl := Option.some.inj (show (some false : Option (Bool)) = some _ from HOj3496)
                exact ⟨rfl, HS3842.sel [] rfl⟩
              · have H := of_neg H c3845
                refine L_skip ?_
                refine L_region ?_
                refine F_val rfl rfl rfl (O_move rfl rfl) ?_
                refine F_val rfl rfl rfl (O_move rfl rfl) ?_
                refine F_val rfl rfl rfl (O_add rfl rfl rfl) ?_
                obtain ⟨x3846, h3847, H⟩ := of_bnd H
                refine F_val rfl rfl rfl (O_assign' rfl rfl (congrArg (Value.int .i64) h3847)) ?_
                refine F_nil ?_
                refine L_endB hN3801 ?_
                refine L_region ?_
                refine F_val rfl rfl rfl (O_move rfl rfl) ?_
                refine F_val rfl rfl rfl (O_add rfl rfl rfl) ?_
                obtain ⟨x3848, h3849, H⟩ := of_bnd H
                refine F_val rfl rfl rfl (O_assign' rfl rfl (congrArg (Value.int .i64) h3849)) ?_
                refine F_nil ?_
                refine L_nil (fun a ha => hNp3787 _ a _ (Nat.lt_succ_self _) ⟨_, _, _, _, _, _, _, _, _, _, Is.cons ha (Is.cons ha (Is.cons ha (Is.cons ha (Is.cons ha (Is.cons ha (Is.cons ha (Is.cons ha (Is.cons ha (Is.cons ha (Is.nil ha) rfl) rfl) rfl) rfl) rfl) rfl) rfl) rfl) rfl) rfl, HS3842.sel [0, 1, 2, 3, 4, 5, 6, 7, 8, 9, 10] rfl, H⟩)
          · have H := of_neg H c3800
            refine L_exitB (fun a w h => hOp3787 (.exit 4) a w rfl (hXb3678 a w h)) ?_
            refine L_nil (fun a ha => hNj3496 a _ ⟨_, _, _, _, _, _, _, _, _, (Option.some.inj H).symm, Is.cons ha (Is.cons ha (Is.cons ha (Is.cons ha (Is.cons ha (Is.cons ha (Is.cons ha (Is.cons ha (Is.nil ha) rfl) rfl) rfl) rfl) rfl) rfl) rfl) rfl, HS3799.sel [0, 1, 2, 3, 4, 5, 6, 7, 8, 9, 10] rfl⟩)
      · obtain ⟨l3671, l3674, y3675, y3676, m_3677, A3669, c3670, A3672, c3673, rfl, ha, HS3851⟩ := hR
        refine wpLF_app ?_ ha
        have H := (onR_inr _ _ _).symm.trans H
        refine L_seq ?_
        refine L_seq ?_
        refine L_region ?_
        refine F_val rfl rfl rfl (O_assign rfl rfl) ?_
        refine F_nil ?_
        obtain ⟨yj3852, Hyj3852, H⟩ := of_bind H
        refine L_join (fun a w => ∃ (l3950 : List Int), ∃ (y3951 : Int), ∃ (A3948 : Option Addr), ∃ (c3949 : Nat), yj3852 = Sum.inr (l3950, y3951) ∧ Is Try.f4.ntmps a [(5, .pointer (some ⟨g10, 0, none⟩)), (6, .pointer (some ⟨g23, 0, none⟩)), (7, .pointer (some ⟨g36, 0, none⟩)), (8, .pointer (some ⟨g49, 0, none⟩)), (9, .int .i64 n_1773), (13, .slice A3493 z3490.length c3494), (14, .int .i64 m_3677)] ∧ Hp S0 w0 w [.rd A_one_0 (rowC (Eint .u32) l_one_0), .rd A_two_1 (rowC (Eint .u32) l_two_1), .box g10 [.slice A3669 l3671.length c3670, .int .i64 y3675] 99, .own A3669 c3670 (rowC (Eint .u8) l3671) 5 (Eint .u8).sz, .box g23 [.slice A1765 l1767.length c1766, .int .i64 y1771] 99, .own A1765 c1766 (rowC (Eint .u8) l1767) 5 (Eint .u8).sz, .box g36 [.slice A3948 l3950.length c3949, .int .i64 y3951] 99, .own A3948 c3949 (rowC (Eint .u8) l3950) 5 (Eint .u8).sz, .box g49 [.slice A1768 l1770.length c1769, .int .i64 y1772] 99, .own A1768 c1769 (rowC (Eint .u8) l1770) 5 (Eint .u8).sz, .own A3493 c3494 (rowC (Eint .u8) z3490) 5 (Eint .u8).sz]) (fun Qj3852 hNj3852 hOj3852 => ?_) (fun a w hR => ?_)
        · have HOj3852 := H
          have H := Hyj3852
          refine L_blk (fun Qb3952 hNb3952 hXb3952 hOb3952 => ?_)
          refine L_lp (fun k a w => ∃ (l4015 : List Int), ∃ (y4016 : Int), ∃ (i_4017 : Int), ∃ (A4013 : Option Addr), ∃ (c4014 : Nat), Is Try.f4.ntmps a [(1, .slice A_two_1 l_two_1.length c_two_1), (5, .pointer (some ⟨g10, 0, none⟩)), (6, .pointer (some ⟨g23, 0, none⟩)), (7, .pointer (some ⟨g36, 0, none⟩)), (8, .pointer (some ⟨g49, 0, none⟩)), (9, .int .i64 n_1773), (13, .slice A3493 z3490.length c3494), (14, .int .i64 m_3677), (17, .int .i64 i_4017)] ∧ Hp S0 w0 w [.rd A_one_0 (rowC (Eint .u32) l_one_0), .rd A_two_1 (rowC (Eint .u32) l_two_1), .box g10 [.slice A3669 l3671.length c3670, .int .i64 y3675] 99, .own A3669 c3670 (rowC (Eint .u8) l3671) 5 (Eint .u8).sz, .box g23 [.slice A1765 l1767.length c1766, .int .i64 y1771] 99, .own A1765 c1766 (rowC (Eint .u8) l1767) 5 (Eint .u8).sz, .box g36 [.slice A4013 l4015.length c4014, .int .i64 y4016] 99, .own A4013 c4014 (rowC (Eint .u8) l4015) 5 (Eint .u8).sz, .box g49 [.slice A1768 l1770.length c1769, .int .i64 y1772] 99, .own A1768 c1769 (rowC (Eint .u8) l1770) 5 (Eint .u8).sz, .own A3493 c3494 (rowC (Eint .u8) z3490) 5 (Eint .u8).sz] ∧ valiselaw3_BitsJoins.l17 k l4015 y4016 i_4017 l_two_1 = some yj3852) FU (fun a ha => ⟨_, _, _, _, _, Is.cons ha (Is.cons ha (Is.cons ha (Is.cons ha (Is.cons ha (Is.cons ha (Is.cons ha (Is.cons ha (Is.cons ha (Is.nil ha) rfl) rfl) rfl) rfl) rfl) rfl) rfl) rfl) rfl, HS3851.sel [0, 1, 2, 3, 4, 5, 6, 7, 8, 9, 10] rfl, H⟩) (fun kp4012 a w4018 hI Qp4012 hNp4012 hOp4012 => ?_)
          obtain ⟨l4015, y4016, i_4017, A4013, c4014, ha, HS4019, HAp4012⟩ := hI
          cases kp4012 with
          | zero => cases (show (none : Option _) = some _ from HAp4012)
          | succ kp4012 =>
            have H := (valiselaw3_BitsJoins.l17.eq_2 ..).symm.trans HAp4012
            refine wpLF_app ?_ ha
            refine L_seq ?_
            refine L_seq ?_
            refine L_region ?_
            refine F_val rfl rfl rfl (O_move rfl rfl) ?_
            refine F_val rfl rfl rfl (O_move rfl rfl) ?_
            refine F_val rfl rfl rfl (O_len rfl rfl Try.underlying30) ?_
            refine F_val rfl rfl rfl (O_lt rfl rfl rfl) ?_
            refine F_nil ?_
            refine L_condP rfl (fun c4020 => ?_) (fun c4020 => ?_)
            · have H := of_pos H c4020
              refine L_skip ?_
              refine L_seq ?_
              refine L_blk (fun Q4021 hN4021 hX4021 hO4021 => ?_)
              refine L_seq ?_
              refine L_region ?_
              refine F_val rfl rfl rfl (O_move rfl rfl) ?_
              refine F_val rfl rfl rfl (O_rem rfl rfl rfl (by decide)) ?_
              refine F_val rfl rfl rfl (O_add rfl rfl rfl) ?_
              obtain ⟨x4022, h4023, H⟩ := of_bnd H
              refine F_val rfl rfl rfl (O_assign' rfl rfl (congrArg (Value.int .i64) h4023)) ?_
              refine F_nil ?_
              refine L_seq ?_
              refine L_region ?_
              refine F_val rfl rfl rfl (O_move rfl rfl) ?_
              refine F_val rfl rfl rfl (O_move rfl rfl) ?_
              refine F_val rfl rfl rfl (O_move rfl rfl) ?_
              obtain ⟨⟨g4024, g4025⟩, H⟩ := of_gd H
              refine F_val rfl rfl rfl (O_idx rfl rfl rfl Try.underlying30 size22 g4024 g4025 (Cells.isA (HS4019.cells_rd (i := 1) rfl) (rowC_ne (E := (Eint .u32)) g4024 g4025 (by decide)))) ?_
              refine F_val rfl rfl rfl (O_loadC rfl rfl flat22 (HS4019.cells_rd (i := 1) rfl) (int_cell g4024 g4025)) ?_
              refine F_val rfl rfl rfl (O_move rfl rfl) ?_
              obtain ⟨z4030, h4029, H⟩ := of_bind H
              refine F_call (xs := [.tmp 136, .tmp 137]) rfl rfl rfl rfl Try.func20 nm20 rfl rfl ((valiselaw3_low.calls (HS4019.give [] rfl (Lent.nil)) h4029).mono (fun e w hc => ?_))
              obtain ⟨rfl, HSo⟩ := hc
              refine ⟨.int .u32 z4030, rfl, ?_⟩
              have HS4032 : Hp S0 w0 w [.rd A_one_0 (rowC (Eint .u32) l_one_0), .rd A_two_1 (rowC (Eint .u32) l_two_1), .box g10 [.slice A3669 l3671.length c3670, .int .i64 y3675] 99, .own A3669 c3670 (rowC (Eint .u8) l3671) 5 (Eint .u8).sz, .box g23 [.slice A1765 l1767.length c1766, .int .i64 y1771] 99, .own A1765 c1766 (rowC (Eint .u8) l1767) 5 (Eint .u8).sz, .box g36 [.slice A4013 l4015.length c4014, .int .i64 y4016] 99, .own A4013 c4014 (rowC (Eint .u8) l4015) 5 (Eint .u8).sz, .box g49 [.slice A1768 l1770.length c1769, .int .i64 y1772] 99, .own A1768 c1769 (rowC (Eint .u8) l1770) 5 (Eint .u8).sz, .own A3493 c3494 (rowC (Eint .u8) z3490) 5 (Eint .u8).sz] := (HS4019.back [] HSo rfl).sel [0, 1, 2, 3, 4, 5, 6, 7, 8, 9, 10] rfl
              refine F_val rfl rfl rfl (O_move rfl rfl) ?_
              obtain ⟨⟨z4037, z4038, z4039⟩, h4036, H⟩ := of_bind H
              refine F_call (xs := [.tmp 132, .tmp 138, .tmp 139]) rfl rfl rfl rfl Try.func19 nm19 rfl rfl ((bits_Writer_Put.calls (HS4032.give [6, 7] rfl (Lent.nil)) h4036).mono (fun e w hc => ?_))
              obtain ⟨A4042, c4043, rfl, HSo⟩ := hc
              refine ⟨.int .i64 z4037, rfl, ?_⟩
              have HS4041 : Hp S0 w0 w [.rd A_one_0 (rowC (Eint .u32) l_one_0), .rd A_two_1 (rowC (Eint .u32) l_two_1), .box g10 [.slice A3669 l3671.length c3670, .int .i64 y3675] 99, .own A3669 c3670 (rowC (Eint .u8) l3671) 5 (Eint .u8).sz, .box g23 [.slice A1765 l1767.length c1766, .int .i64 y1771] 99, .own A1765 c1766 (rowC (Eint .u8) l1767) 5 (Eint .u8).sz, .box g36 [.slice A4042 z4038.length c4043, .int .i64 z4039] 99, .own A4042 c4043 (rowC (Eint .u8) z4038) 5 (Eint .u8).sz, .box g49 [.slice A1768 l1770.length c1769, .int .i64 y1772] 99, .own A1768 c1769 (rowC (Eint .u8) l1770) 5 (Eint .u8).sz, .own A3493 c3494 (rowC (Eint .u8) z3490) 5 (Eint .u8).sz] := (HS4032.back [6, 7] HSo rfl).sel [0, 1, 2, 3, 4, 5, 11, 12, 8, 9, 10] rfl
              refine F_val rfl rfl rfl (O_ne rfl rfl rfl) ?_
              refine F_nil ?_
              refine L_condP rfl (fun c4044 => ?_) (fun c4044 => ?_)
              · have H := of_pos H c4044
                refine L_seq ?_
                refine L_region ?_
                refine F_val rfl rfl rfl (O_assign rfl rfl) ?_
                refine F_nil ?_
                refine L_ret (fun a ha => (hO4021 .ret a _ rfl (hOp4012 .ret a _ rfl (hOb3952 .ret a _ rfl (hOj3852 .ret a _ rfl (post_ret1 ha rfl rfl ?_))))))
                obtain rfl := Option.some.inj H
                obtain rfl := Option.some.inj (show (some false : Option (Bool)) = some _ from HOj3852)
                exact ⟨rfl, HS4041.sel [] rfl⟩
              · have H := of_neg H c4044
                refine L_skip ?_
                refine L_endB hN4021 ?_
                refine L_region ?_
                refine F_val rfl rfl rfl (O_move rfl rfl) ?_
                refine F_val rfl rfl rfl (O_add rfl rfl rfl) ?_
                obtain ⟨x4045, h4046, H⟩ := of_bnd H
                refine F_val rfl rfl rfl (O_assign' rfl rfl (congrArg (Value.int .i64) h4046)) ?_
                refine F_nil ?_
                refine L_nil (fun a ha => hNp4012 _ a _ (Nat.lt_succ_self _) ⟨_, _, _, _, _, Is.cons ha (Is.cons ha (Is.cons ha (Is.cons ha (Is.cons ha (Is.cons ha (Is.cons ha (Is.cons ha (Is.cons ha (Is.nil ha) rfl) rfl) rfl) rfl) rfl) rfl) rfl) rfl) rfl, HS4041.sel [0, 1, 2, 3, 4, 5, 6, 7, 8, 9, 10] rfl, H⟩)
            · have H := of_neg H c4020
              refine L_exitB (fun a w h => hOp4012 (.exit 6) a w rfl (hXb3952 a w h)) ?_
              refine L_nil (fun a ha => hNj3852 a _ ⟨_, _, _, _, (Option.some.inj H).symm, Is.cons ha (Is.cons ha (Is.cons ha (Is.cons ha (Is.cons ha (Is.cons ha (Is.cons ha (Is.nil ha) rfl) rfl) rfl) rfl) rfl) rfl) rfl, HS4019.sel [0, 1, 2, 3, 4, 5, 6, 7, 8, 9, 10] rfl⟩)
        · obtain ⟨l3950, y3951, A3948, c3949, rfl, ha, HS4048⟩ := hR
          refine wpLF_app ?_ ha
          have H := (onR_inr _ _ _).symm.trans H
          refine L_seq ?_
          refine L_seq ?_
          refine L_region ?_
          refine F_val rfl rfl rfl (O_move rfl rfl) ?_
          refine F_val rfl rfl rfl (O_move rfl rfl) ?_
          obtain ⟨⟨z4053, z4054, z4055⟩, h4052, H⟩ := of_bind H
          refine F_call (xs := [.tmp 142, .tmp 143]) rfl rfl rfl rfl Try.func22 nm22 rfl rfl ((bits_Writer_Join.calls (HS4048.give [2, 3] rfl (Lent.box HS4048 (Lent.own HS4048 (Lent.nil) (i := 5) rfl rfl ((HS4048.cells_own (i := 5) rfl).self)) (i := 4) rfl rfl (HS4048.cells_box (i := 4) rfl).self)) h4052).mono (fun e w hc => ?_))
          obtain ⟨A4058, c4059, rfl, HSo⟩ := hc
          refine ⟨.int .i64 z4053, rfl, ?_⟩
          have HS4057 : Hp S0 w0 w [.rd A_one_0 (rowC (Eint .u32) l_one_0), .rd A_two_1 (rowC (Eint .u32) l_two_1), .box g10 [.slice A4058 z4054.length c4059, .int .i64 z4055] 99, .own A4058 c4059 (rowC (Eint .u8) z4054) 5 (Eint .u8).sz, .box g23 [.slice A1765 l1767.length c1766, .int .i64 y1771] 99, .own A1765 c1766 (rowC (Eint .u8) l1767) 5 (Eint .u8).sz, .box g36 [.slice A3948 l3950.length c3949, .int .i64 y3951] 99, .own A3948 c3949 (rowC (Eint .u8) l3950) 5 (Eint .u8).sz, .box g49 [.slice A1768 l1770.length c1769, .int .i64 y1772] 99, .own A1768 c1769 (rowC (Eint .u8) l1770) 5 (Eint .u8).sz, .own A3493 c3494 (rowC (Eint .u8) z3490) 5 (Eint .u8).sz] := (HS4048.back [2, 3] HSo rfl).sel [0, 1, 11, 12, 4, 5, 6, 7, 8, 9, 10] rfl
          refine F_val rfl rfl rfl (O_ne rfl rfl rfl) ?_
          refine F_val rfl rfl rfl (O_move rfl rfl) ?_
          rcases Decidable.em (z4053 ≠ 0) with c4060 | c4060
          · have H := of_pos H c4060
            refine F_know (i := 146) rfl (dec_t c4060) ?_
            refine F_gskip rfl rfl rfl rfl rfl rfl rfl ?_
            refine F_gskip rfl rfl rfl rfl rfl rfl rfl ?_
            refine F_gskip rfl rfl rfl rfl rfl rfl rfl ?_
            refine F_gskip rfl rfl rfl rfl rfl rfl rfl ?_
            refine F_gskip rfl rfl rfl rfl rfl rfl rfl ?_
            refine F_gskip rfl rfl rfl rfl rfl rfl rfl ?_
            refine F_val rfl rfl rfl (O_pickT rfl rfl rfl) ?_
            refine F_val rfl rfl rfl (O_move rfl rfl) ?_
            refine F_gskip rfl rfl rfl rfl rfl rfl rfl ?_
            refine F_gskip rfl rfl rfl rfl rfl rfl rfl ?_
            refine F_gskip rfl rfl rfl rfl rfl rfl rfl ?_
            refine F_gskip rfl rfl rfl rfl rfl rfl rfl ?_
            refine F_gskip rfl rfl rfl rfl rfl rfl rfl ?_
            refine F_gskip rfl rfl rfl rfl rfl rfl rfl ?_
            refine F_val rfl rfl rfl (O_pickT rfl rfl rfl) ?_
            refine F_val rfl rfl rfl (O_move rfl rfl) ?_
            refine F_gskip rfl rfl rfl rfl rfl rfl rfl ?_
            refine F_gskip rfl rfl rfl rfl rfl rfl rfl ?_
            refine F_gskip rfl rfl rfl rfl rfl rfl rfl ?_
            refine F_gskip rfl rfl rfl rfl rfl rfl rfl ?_
            refine F_gskip rfl rfl rfl rfl rfl rfl rfl ?_
            refine F_gskip rfl rfl rfl rfl rfl rfl rfl ?_
            refine F_val rfl rfl rfl (O_pickT rfl rfl rfl) ?_
            refine F_nil ?_
            refine L_cond rfl (fun _ => ?_) (fun hx => by cases hx)
            refine L_seq ?_
            refine L_region ?_
            refine F_val rfl rfl rfl (O_assign rfl rfl) ?_
            refine F_nil ?_
            refine L_ret (fun a ha => (post_ret1 ha rfl rfl ?_))
            obtain rfl := Option.some.inj H
            exact ⟨rfl, HS4057.sel [] rfl⟩
          · have H := of_neg H c4060
            refine F_know (i := 146) rfl (dec_f c4060) ?_
            refine F_gval rfl rfl rfl rfl rfl rfl (O_move rfl rfl) ?_
            obtain ⟨z4065, h4064, H⟩ := of_bind H
            refine F_gcall (xs := [.tmp 147]) rfl rfl rfl rfl rfl rfl rfl Try.func23 nm23 rfl rfl ((bits_Writer_Len.calls (HS4057.give [] rfl (Lent.box HS4057 (Lent.own HS4057 (Lent.nil) (i := 3) rfl rfl ((HS4057.cells_own (i := 3) rfl).self)) (i := 2) rfl rfl (HS4057.cells_box (i := 2) rfl).self)) h4064).mono (fun e w hc => ?_))
            obtain ⟨rfl, HSo⟩ := hc
            refine ⟨.int .i64 z4065, rfl, ?_⟩
            have HS4067 : Hp S0 w0 w [.rd A_one_0 (rowC (Eint .u32) l_one_0), .rd A_two_1 (rowC (Eint .u32) l_two_1), .box g10 [.slice A4058 z4054.length c4059, .int .i64 z4055] 99, .own A4058 c4059 (rowC (Eint .u8) z4054) 5 (Eint .u8).sz, .box g23 [.slice A1765 l1767.length c1766, .int .i64 y1771] 99, .own A1765 c1766 (rowC (Eint .u8) l1767) 5 (Eint .u8).sz, .box g36 [.slice A3948 l3950.length c3949, .int .i64 y3951] 99, .own A3948 c3949 (rowC (Eint .u8) l3950) 5 (Eint .u8).sz, .box g49 [.slice A1768 l1770.length c1769, .int .i64 y1772] 99, .own A1768 c1769 (rowC (Eint .u8) l1770) 5 (Eint .u8).sz, .own A3493 c3494 (rowC (Eint .u8) z3490) 5 (Eint .u8).sz] := (HS4057.back [] HSo rfl).sel [0, 1, 2, 3, 4, 5, 6, 7, 8, 9, 10] rfl
            refine F_gval rfl rfl rfl rfl rfl rfl (O_move rfl rfl) ?_
            refine F_gval rfl rfl rfl rfl rfl rfl (O_move rfl rfl) ?_
            refine F_gval rfl rfl rfl rfl rfl rfl (O_add rfl rfl rfl) ?_
            refine F_gval rfl rfl rfl rfl rfl rfl (O_ne rfl rfl rfl) ?_
            refine F_val rfl rfl rfl (O_pickF rfl rfl rfl) ?_
            refine F_val rfl rfl rfl (O_move rfl rfl) ?_
            rcases Decidable.em (z4065 ≠ IntKind.i64.wrap (m_3677 + n_1773)) with c4068 | c4068
            · have H := of_pos H c4068
              refine F_know (i := 154) rfl (dec_t c4068) ?_
              refine F_gskip rfl rfl rfl rfl rfl rfl rfl ?_
              refine F_gskip rfl rfl rfl rfl rfl rfl rfl ?_
              refine F_gskip rfl rfl rfl rfl rfl rfl rfl ?_
              refine F_gskip rfl rfl rfl rfl rfl rfl rfl ?_
              refine F_gskip rfl rfl rfl rfl rfl rfl rfl ?_
              refine F_gskip rfl rfl rfl rfl rfl rfl rfl ?_
              refine F_val rfl rfl rfl (O_pickT rfl rfl rfl) ?_
              refine F_val rfl rfl rfl (O_move rfl rfl) ?_
              refine F_gskip rfl rfl rfl rfl rfl rfl rfl ?_
              refine F_gskip rfl rfl rfl rfl rfl rfl rfl ?_
              refine F_gskip rfl rfl rfl rfl rfl rfl rfl ?_
              refine F_gskip rfl rfl rfl rfl rfl rfl rfl ?_
              refine F_gskip rfl rfl rfl rfl rfl rfl rfl ?_
              refine F_gskip rfl rfl rfl rfl rfl rfl rfl ?_
              refine F_val rfl rfl rfl (O_pickT rfl rfl rfl) ?_
              refine F_nil ?_
              refine L_cond rfl (fun _ => ?_) (fun hx => by cases hx)
              refine L_seq ?_
              refine L_region ?_
              refine F_val rfl rfl rfl (O_assign rfl rfl) ?_
              refine F_nil ?_
              refine L_ret (fun a ha => (post_ret1 ha rfl rfl ?_))
              obtain rfl := Option.some.inj H
              exact ⟨rfl, HS4067.sel [] rfl⟩
            · have H := of_neg H c4068
              refine F_know (i := 154) rfl (dec_f c4068) ?_
              refine F_gval rfl rfl rfl rfl rfl rfl (O_move rfl rfl) ?_
              obtain ⟨z4073, h4072, H⟩ := of_bind H
              refine F_gcall (xs := [.tmp 155]) rfl rfl rfl rfl rfl rfl rfl Try.func23 nm23 rfl rfl ((bits_Writer_Len.calls (HS4067.give [] rfl (Lent.box HS4067 (Lent.own HS4067 (Lent.nil) (i := 7) rfl rfl ((HS4067.cells_own (i := 7) rfl).self)) (i := 6) rfl rfl (HS4067.cells_box (i := 6) rfl).self)) h4072).mono (fun e w hc => ?_))
              obtain ⟨rfl, HSo⟩ := hc
              refine ⟨.int .i64 z4073, rfl, ?_⟩
              have HS4075 : Hp S0 w0 w [.rd A_one_0 (rowC (Eint .u32) l_one_0), .rd A_two_1 (rowC (Eint .u32) l_two_1), .box g10 [.slice A4058 z4054.length c4059, .int .i64 z4055] 99, .own A4058 c4059 (rowC (Eint .u8) z4054) 5 (Eint .u8).sz, .box g23 [.slice A1765 l1767.length c1766, .int .i64 y1771] 99, .own A1765 c1766 (rowC (Eint .u8) l1767) 5 (Eint .u8).sz, .box g36 [.slice A3948 l3950.length c3949, .int .i64 y3951] 99, .own A3948 c3949 (rowC (Eint .u8) l3950) 5 (Eint .u8).sz, .box g49 [.slice A1768 l1770.length c1769, .int .i64 y1772] 99, .own A1768 c1769 (rowC (Eint .u8) l1770) 5 (Eint .u8).sz, .own A3493 c3494 (rowC (Eint .u8) z3490) 5 (Eint .u8).sz] := (HS4067.back [] HSo rfl).sel [0, 1, 2, 3, 4, 5, 6, 7, 8, 9, 10] rfl
              refine F_gval rfl rfl rfl rfl rfl rfl (O_move rfl rfl) ?_
              refine F_gval rfl rfl rfl rfl rfl rfl (O_move rfl rfl) ?_
              refine F_gval rfl rfl rfl rfl rfl rfl (O_add rfl rfl rfl) ?_
              refine F_gval rfl rfl rfl rfl rfl rfl (O_ne rfl rfl rfl) ?_
              refine F_val rfl rfl rfl (O_pickF rfl rfl rfl) ?_
              refine F_val rfl rfl rfl (O_move rfl rfl) ?_
              rcases Decidable.em (z4073 ≠ IntKind.i64.wrap (m_3677 + n_1773)) with c4076 | c4076
              · have H := of_pos H c4076
                refine F_know (i := 162) rfl (dec_t c4076) ?_
                refine F_gskip rfl rfl rfl rfl rfl rfl rfl ?_
                refine F_gskip rfl rfl rfl rfl rfl rfl rfl ?_
                refine F_gskip rfl rfl rfl rfl rfl rfl rfl ?_
                refine F_gskip rfl rfl rfl rfl rfl rfl rfl ?_
                refine F_gskip rfl rfl rfl rfl rfl rfl rfl ?_
                refine F_gskip rfl rfl rfl rfl rfl rfl rfl ?_
                refine F_val rfl rfl rfl (O_pickT rfl rfl rfl) ?_
                refine F_nil ?_
                refine L_cond rfl (fun _ => ?_) (fun hx => by cases hx)
                refine L_seq ?_
                refine L_region ?_
                refine F_val rfl rfl rfl (O_assign rfl rfl) ?_
                refine F_nil ?_
                refine L_ret (fun a ha => (post_ret1 ha rfl rfl ?_))
                obtain rfl := Option.some.inj H
                exact ⟨rfl, HS4075.sel [] rfl⟩
              · have H := of_neg H c4076
                refine F_know (i := 162) rfl (dec_f c4076) ?_
                refine F_gval rfl rfl rfl rfl rfl rfl (O_move rfl rfl) ?_
                obtain ⟨z4081, h4080, H⟩ := of_bind H
                refine F_gcall (xs := [.tmp 163]) rfl rfl rfl rfl rfl rfl rfl Try.func21 nm21 rfl rfl ((bits_Writer_Bytes.calls (HS4075.give [] rfl (Lent.box HS4075 (Lent.own HS4075 (Lent.nil) (i := 3) rfl rfl ((HS4075.cells_own (i := 3) rfl).self)) (i := 2) rfl rfl (HS4075.cells_box (i := 2) rfl).self)) h4080).mono (fun e w hc => ?_))
                obtain ⟨A4084, c4085, rfl, HSo⟩ := hc
                refine ⟨.slice A4084 z4081.length c4085, rfl, ?_⟩
                have HS4083 : Hp S0 w0 w [.rd A_one_0 (rowC (Eint .u32) l_one_0), .rd A_two_1 (rowC (Eint .u32) l_two_1), .box g10 [.slice A4058 z4054.length c4059, .int .i64 z4055] 99, .own A4058 c4059 (rowC (Eint .u8) z4054) 5 (Eint .u8).sz, .box g23 [.slice A1765 l1767.length c1766, .int .i64 y1771] 99, .own A1765 c1766 (rowC (Eint .u8) l1767) 5 (Eint .u8).sz, .box g36 [.slice A3948 l3950.length c3949, .int .i64 y3951] 99, .own A3948 c3949 (rowC (Eint .u8) l3950) 5 (Eint .u8).sz, .box g49 [.slice A1768 l1770.length c1769, .int .i64 y1772] 99, .own A1768 c1769 (rowC (Eint .u8) l1770) 5 (Eint .u8).sz, .own A3493 c3494 (rowC (Eint .u8) z3490) 5 (Eint .u8).sz, .own A4084 c4085 (rowC (Eint .u8) z4081) 5 (Eint .u8).sz] := (HS4075.back [] HSo rfl).sel [0, 1, 2, 3, 4, 5, 6, 7, 8, 9, 10, 11] rfl
                refine F_gval rfl rfl rfl rfl rfl rfl (O_move rfl rfl) ?_
                obtain ⟨z4091, h4090, H⟩ := of_bind H
                refine F_gcall (xs := [.tmp 165]) rfl rfl rfl rfl rfl rfl rfl Try.func21 nm21 rfl rfl ((bits_Writer_Bytes.calls (HS4083.give [] rfl (Lent.box HS4083 (Lent.own HS4083 (Lent.nil) (i := 7) rfl rfl ((HS4083.cells_own (i := 7) rfl).self)) (i := 6) rfl rfl (HS4083.cells_box (i := 6) rfl).self)) h4090).mono (fun e w hc => ?_))
                obtain ⟨A4094, c4095, rfl, HSo⟩ := hc
                refine ⟨.slice A4094 z4091.length c4095, rfl, ?_⟩
                have HS4093 : Hp S0 w0 w [.rd A_one_0 (rowC (Eint .u32) l_one_0), .rd A_two_1 (rowC (Eint .u32) l_two_1), .box g10 [.slice A4058 z4054.length c4059, .int .i64 z4055] 99, .own A4058 c4059 (rowC (Eint .u8) z4054) 5 (Eint .u8).sz, .box g23 [.slice A1765 l1767.length c1766, .int .i64 y1771] 99, .own A1765 c1766 (rowC (Eint .u8) l1767) 5 (Eint .u8).sz, .box g36 [.slice A3948 l3950.length c3949, .int .i64 y3951] 99, .own A3948 c3949 (rowC (Eint .u8) l3950) 5 (Eint .u8).sz, .box g49 [.slice A1768 l1770.length c1769, .int .i64 y1772] 99, .own A1768 c1769 (rowC (Eint .u8) l1770) 5 (Eint .u8).sz, .own A3493 c3494 (rowC (Eint .u8) z3490) 5 (Eint .u8).sz, .own A4084 c4085 (rowC (Eint .u8) z4081) 5 (Eint .u8).sz, .own A4094 c4095 (rowC (Eint .u8) z4091) 5 (Eint .u8).sz] := (HS4083.back [] HSo rfl).sel [0, 1, 2, 3, 4, 5, 6, 7, 8, 9, 10, 11, 12] rfl
                obtain ⟨z4101, h4100, H⟩ := of_bind H
                refine F_gcall (xs := [.tmp 164, .tmp 166]) rfl rfl rfl rfl rfl rfl rfl Try.func24 nm24 rfl rfl ((valiselaw3_same.calls (HS4093.give [] rfl (Lent.own HS4093 (Lent.own HS4093 (Lent.nil) (i := 12) rfl rfl ((HS4093.cells_own (i := 12) rfl).self)) (i := 11) rfl rfl ((HS4093.cells_own (i := 11) rfl).self))) (HS4093.own_capE (i := 11) rfl (by decide)) (HS4093.own_capE (i := 12) rfl (by decide)) h4100).mono (fun e w hc => ?_))
                obtain ⟨rfl, HSo⟩ := hc
                refine ⟨.bool z4101, rfl, ?_⟩
                have HS4103 : Hp S0 w0 w [.rd A_one_0 (rowC (Eint .u32) l_one_0), .rd A_two_1 (rowC (Eint .u32) l_two_1), .box g10 [.slice A4058 z4054.length c4059, .int .i64 z4055] 99, .own A4058 c4059 (rowC (Eint .u8) z4054) 5 (Eint .u8).sz, .box g23 [.slice A1765 l1767.length c1766, .int .i64 y1771] 99, .own A1765 c1766 (rowC (Eint .u8) l1767) 5 (Eint .u8).sz, .box g36 [.slice A3948 l3950.length c3949, .int .i64 y3951] 99, .own A3948 c3949 (rowC (Eint .u8) l3950) 5 (Eint .u8).sz, .box g49 [.slice A1768 l1770.length c1769, .int .i64 y1772] 99, .own A1768 c1769 (rowC (Eint .u8) l1770) 5 (Eint .u8).sz, .own A3493 c3494 (rowC (Eint .u8) z3490) 5 (Eint .u8).sz, .own A4084 c4085 (rowC (Eint .u8) z4081) 5 (Eint .u8).sz, .own A4094 c4095 (rowC (Eint .u8) z4091) 5 (Eint .u8).sz] := (HS4093.back [] HSo rfl).sel [0, 1, 2, 3, 4, 5, 6, 7, 8, 9, 10, 11, 12] rfl
                refine F_gval rfl rfl rfl rfl rfl rfl (O_notb rfl rfl) ?_
                refine F_val rfl rfl rfl (O_pickF rfl rfl rfl) ?_
                refine F_nil ?_
                refine L_cond rfl (fun c4104 => ?_) (fun c4104 => ?_)
                · have H := of_pos H c4104
                  refine L_seq ?_
                  refine L_region ?_
                  refine F_val rfl rfl rfl (O_assign rfl rfl) ?_
                  refine F_nil ?_
                  refine L_ret (fun a ha => (post_ret1 ha rfl rfl ?_))
                  obtain rfl := Option.some.inj H
                  exact ⟨rfl, HS4103.sel [] rfl⟩
                · have H := of_neg H (by rw [c4104]; exact Bool.false_ne_true)
                  refine L_skip ?_
                  refine L_seq ?_
                  refine L_seq ?_
                  refine L_region ?_
                  refine F_val rfl rfl rfl (O_move rfl rfl) ?_
                  obtain ⟨z4109, h4108, H⟩ := of_bind H
                  refine F_call (xs := [.tmp 170]) rfl rfl rfl rfl Try.func23 nm23 rfl rfl ((bits_Writer_Len.calls (HS4103.give [] rfl (Lent.box HS4103 (Lent.own HS4103 (Lent.nil) (i := 5) rfl rfl ((HS4103.cells_own (i := 5) rfl).self)) (i := 4) rfl rfl (HS4103.cells_box (i := 4) rfl).self)) h4108).mono (fun e w hc => ?_))
                  obtain ⟨rfl, HSo⟩ := hc
                  refine ⟨.int .i64 z4109, rfl, ?_⟩
                  have HS4111 : Hp S0 w0 w [.rd A_one_0 (rowC (Eint .u32) l_one_0), .rd A_two_1 (rowC (Eint .u32) l_two_1), .box g10 [.slice A4058 z4054.length c4059, .int .i64 z4055] 99, .own A4058 c4059 (rowC (Eint .u8) z4054) 5 (Eint .u8).sz, .box g23 [.slice A1765 l1767.length c1766, .int .i64 y1771] 99, .own A1765 c1766 (rowC (Eint .u8) l1767) 5 (Eint .u8).sz, .box g36 [.slice A3948 l3950.length c3949, .int .i64 y3951] 99, .own A3948 c3949 (rowC (Eint .u8) l3950) 5 (Eint .u8).sz, .box g49 [.slice A1768 l1770.length c1769, .int .i64 y1772] 99, .own A1768 c1769 (rowC (Eint .u8) l1770) 5 (Eint .u8).sz, .own A3493 c3494 (rowC (Eint .u8) z3490) 5 (Eint .u8).sz, .own A4084 c4085 (rowC (Eint .u8) z4081) 5 (Eint .u8).sz, .own A4094 c4095 (rowC (Eint .u8) z4091) 5 (Eint .u8).sz] := (HS4103.back [] HSo rfl).sel [0, 1, 2, 3, 4, 5, 6, 7, 8, 9, 10, 11, 12] rfl
                  refine F_val rfl rfl rfl (O_move rfl rfl) ?_
                  refine F_val rfl rfl rfl (O_ne rfl rfl rfl) ?_
                  refine F_val rfl rfl rfl (O_move rfl rfl) ?_
                  rcases Decidable.em (z4109 ≠ n_1773) with c4112 | c4112
                  · have H := of_pos H c4112
                    refine F_know (i := 174) rfl (dec_t c4112) ?_
                    refine F_gskip rfl rfl rfl rfl rfl rfl rfl ?_
                    refine F_gskip rfl rfl rfl rfl rfl rfl rfl ?_
                    refine F_gskip rfl rfl rfl rfl rfl rfl rfl ?_
                    refine F_gskip rfl rfl rfl rfl rfl rfl rfl ?_
                    refine F_gskip rfl rfl rfl rfl rfl rfl rfl ?_
                    refine F_val rfl rfl rfl (O_pickT rfl rfl rfl) ?_
                    refine F_nil ?_
                    refine L_cond rfl (fun _ => ?_) (fun hx => by cases hx)
                    refine L_seq ?_
                    refine L_region ?_
                    refine F_val rfl rfl rfl (O_assign rfl rfl) ?_
                    refine F_nil ?_
                    refine L_ret (fun a ha => (post_ret1 ha rfl rfl ?_))
                    obtain rfl := Option.some.inj H
                    exact ⟨rfl, HS4111.sel [] rfl⟩
                  · have H := of_neg H c4112
                    refine F_know (i := 174) rfl (dec_f c4112) ?_
                    refine F_gval rfl rfl rfl rfl rfl rfl (O_move rfl rfl) ?_
                    obtain ⟨z4117, h4116, H⟩ := of_bind H
                    refine F_gcall (xs := [.tmp 175]) rfl rfl rfl rfl rfl rfl rfl Try.func21 nm21 rfl rfl ((bits_Writer_Bytes.calls (HS4111.give [] rfl (Lent.box HS4111 (Lent.own HS4111 (Lent.nil) (i := 5) rfl rfl ((HS4111.cells_own (i := 5) rfl).self)) (i := 4) rfl rfl (HS4111.cells_box (i := 4) rfl).self)) h4116).mono (fun e w hc => ?_))
                    obtain ⟨A4120, c4121, rfl, HSo⟩ := hc
                    refine ⟨.slice A4120 z4117.length c4121, rfl, ?_⟩
                    have HS4119 : Hp S0 w0 w [.rd A_one_0 (rowC (Eint .u32) l_one_0), .rd A_two_1 (rowC (Eint .u32) l_two_1), .box g10 [.slice A4058 z4054.length c4059, .int .i64 z4055] 99, .own A4058 c4059 (rowC (Eint .u8) z4054) 5 (Eint .u8).sz, .box g23 [.slice A1765 l1767.length c1766, .int .i64 y1771] 99, .own A1765 c1766 (rowC (Eint .u8) l1767) 5 (Eint .u8).sz, .box g36 [.slice A3948 l3950.length c3949, .int .i64 y3951] 99, .own A3948 c3949 (rowC (Eint .u8) l3950) 5 (Eint .u8).sz, .box g49 [.slice A1768 l1770.length c1769, .int .i64 y1772] 99, .own A1768 c1769 (rowC (Eint .u8) l1770) 5 (Eint .u8).sz, .own A3493 c3494 (rowC (Eint .u8) z3490) 5 (Eint .u8).sz, .own A4084 c4085 (rowC (Eint .u8) z4081) 5 (Eint .u8).sz, .own A4094 c4095 (rowC (Eint .u8) z4091) 5 (Eint .u8).sz, .own A4120 c4121 (rowC (Eint .u8) z4117) 5 (Eint .u8).sz] := (HS4111.back [] HSo rfl).sel [0, 1, 2, 3, 4, 5, 6, 7, 8, 9, 10, 11, 12, 13] rfl
                    refine F_gval rfl rfl rfl rfl rfl rfl (O_move rfl rfl) ?_
                    obtain ⟨z4127, h4126, H⟩ := of_bind H
                    refine F_gcall (xs := [.tmp 176, .tmp 177]) rfl rfl rfl rfl rfl rfl rfl Try.func24 nm24 rfl rfl ((valiselaw3_same.calls (HS4119.give [] rfl (Lent.own HS4119 (Lent.own HS4119 (Lent.nil) (i := 10) rfl rfl ((HS4119.cells_own (i := 10) rfl).self)) (i := 13) rfl rfl ((HS4119.cells_own (i := 13) rfl).self))) (HS4119.own_capE (i := 13) rfl (by decide)) (HS4119.own_capE (i := 10) rfl (by decide)) h4126).mono (fun e w hc => ?_))
                    obtain ⟨rfl, HSo⟩ := hc
                    refine ⟨.bool z4127, rfl, ?_⟩
                    have HS4129 : Hp S0 w0 w [.rd A_one_0 (rowC (Eint .u32) l_one_0), .rd A_two_1 (rowC (Eint .u32) l_two_1), .box g10 [.slice A4058 z4054.length c4059, .int .i64 z4055] 99, .own A4058 c4059 (rowC (Eint .u8) z4054) 5 (Eint .u8).sz, .box g23 [.slice A1765 l1767.length c1766, .int .i64 y1771] 99, .own A1765 c1766 (rowC (Eint .u8) l1767) 5 (Eint .u8).sz, .box g36 [.slice A3948 l3950.length c3949, .int .i64 y3951] 99, .own A3948 c3949 (rowC (Eint .u8) l3950) 5 (Eint .u8).sz, .box g49 [.slice A1768 l1770.length c1769, .int .i64 y1772] 99, .own A1768 c1769 (rowC (Eint .u8) l1770) 5 (Eint .u8).sz, .own A3493 c3494 (rowC (Eint .u8) z3490) 5 (Eint .u8).sz, .own A4084 c4085 (rowC (Eint .u8) z4081) 5 (Eint .u8).sz, .own A4094 c4095 (rowC (Eint .u8) z4091) 5 (Eint .u8).sz, .own A4120 c4121 (rowC (Eint .u8) z4117) 5 (Eint .u8).sz] := (HS4119.back [] HSo rfl).sel [0, 1, 2, 3, 4, 5, 6, 7, 8, 9, 10, 11, 12, 13] rfl
                    refine F_gval rfl rfl rfl rfl rfl rfl (O_notb rfl rfl) ?_
                    refine F_val rfl rfl rfl (O_pickF rfl rfl rfl) ?_
                    refine F_nil ?_
                    refine L_cond rfl (fun c4130 => ?_) (fun c4130 => ?_)
                    · have H := of_pos H c4130
                      refine L_seq ?_
                      refine L_region ?_
                      refine F_val rfl rfl rfl (O_assign rfl rfl) ?_
                      refine F_nil ?_
                      refine L_ret (fun a ha => (post_ret1 ha rfl rfl ?_))
                      obtain rfl := Option.some.inj H
                      exact ⟨rfl, HS4129.sel [] rfl⟩
                    · have H := of_neg H (by rw [c4130]; exact Bool.false_ne_true)
                      refine L_skip ?_
                      refine L_seq ?_
                      refine L_seq ?_
                      refine L_region ?_
                      refine F_val rfl rfl rfl (O_move rfl rfl) ?_
                      refine F_val rfl rfl rfl (O_move rfl rfl) ?_
                      obtain ⟨⟨z4135, z4136, z4137⟩, h4134, H⟩ := of_bind H
                      refine F_call (xs := [.tmp 181, .tmp 182]) rfl rfl rfl rfl Try.func22 nm22 rfl rfl ((bits_Writer_Join_s1.calls (HS4129.give [4, 5] rfl (Lent.nil)) h4134).mono (fun e w hc => ?_))
                      obtain ⟨A4140, c4141, rfl, HSo⟩ := hc
                      refine ⟨.int .i64 z4135, rfl, ?_⟩
                      have HS4139 : Hp S0 w0 w [.rd A_one_0 (rowC (Eint .u32) l_one_0), .rd A_two_1 (rowC (Eint .u32) l_two_1), .box g10 [.slice A4058 z4054.length c4059, .int .i64 z4055] 99, .own A4058 c4059 (rowC (Eint .u8) z4054) 5 (Eint .u8).sz, .box g23 [.slice A4140 z4136.length c4141, .int .i64 z4137] 99, .own A4140 c4141 (rowC (Eint .u8) z4136) 5 (Eint .u8).sz, .box g36 [.slice A3948 l3950.length c3949, .int .i64 y3951] 99, .own A3948 c3949 (rowC (Eint .u8) l3950) 5 (Eint .u8).sz, .box g49 [.slice A1768 l1770.length c1769, .int .i64 y1772] 99, .own A1768 c1769 (rowC (Eint .u8) l1770) 5 (Eint .u8).sz, .own A3493 c3494 (rowC (Eint .u8) z3490) 5 (Eint .u8).sz, .own A4084 c4085 (rowC (Eint .u8) z4081) 5 (Eint .u8).sz, .own A4094 c4095 (rowC (Eint .u8) z4091) 5 (Eint .u8).sz, .own A4120 c4121 (rowC (Eint .u8) z4117) 5 (Eint .u8).sz] := (HS4129.back [4, 5] HSo rfl).sel [0, 1, 2, 3, 14, 15, 6, 7, 8, 9, 10, 11, 12, 13] rfl
                      refine F_val rfl rfl rfl (O_ne rfl rfl rfl) ?_
                      refine F_val rfl rfl rfl (O_move rfl rfl) ?_
                      rcases Decidable.em (z4135 ≠ 0) with c4142 | c4142
                      · have H := of_pos H c4142
                        refine F_know (i := 185) rfl (dec_t c4142) ?_
                        refine F_gskip rfl rfl rfl rfl rfl rfl rfl ?_
                        refine F_gskip rfl rfl rfl rfl rfl rfl rfl ?_
                        refine F_gskip rfl rfl rfl rfl rfl rfl rfl ?_
                        refine F_gskip rfl rfl rfl rfl rfl rfl rfl ?_
                        refine F_gskip rfl rfl rfl rfl rfl rfl rfl ?_
                        refine F_val rfl rfl rfl (O_pickT rfl rfl rfl) ?_
                        refine F_nil ?_
                        refine L_cond rfl (fun _ => ?_) (fun hx => by cases hx)
                        refine L_seq ?_
                        refine L_region ?_
                        refine F_val rfl rfl rfl (O_assign rfl rfl) ?_
                        refine F_nil ?_
                        refine L_ret (fun a ha => (post_ret1 ha rfl rfl ?_))
                        obtain rfl := Option.some.inj H
                        exact ⟨rfl, HS4139.sel [] rfl⟩
                      · have H := of_neg H c4142
                        refine F_know (i := 185) rfl (dec_f c4142) ?_
                        refine F_gval rfl rfl rfl rfl rfl rfl (O_move rfl rfl) ?_
                        obtain ⟨z4147, h4146, H⟩ := of_bind H
                        refine F_gcall (xs := [.tmp 186]) rfl rfl rfl rfl rfl rfl rfl Try.func23 nm23 rfl rfl ((bits_Writer_Len.calls (HS4139.give [] rfl (Lent.box HS4139 (Lent.own HS4139 (Lent.nil) (i := 5) rfl rfl ((HS4139.cells_own (i := 5) rfl).self)) (i := 4) rfl rfl (HS4139.cells_box (i := 4) rfl).self)) h4146).mono (fun e w hc => ?_))
                        obtain ⟨rfl, HSo⟩ := hc
                        refine ⟨.int .i64 z4147, rfl, ?_⟩
                        have HS4149 : Hp S0 w0 w [.rd A_one_0 (rowC (Eint .u32) l_one_0), .rd A_two_1 (rowC (Eint .u32) l_two_1), .box g10 [.slice A4058 z4054.length c4059, .int .i64 z4055] 99, .own A4058 c4059 (rowC (Eint .u8) z4054) 5 (Eint .u8).sz, .box g23 [.slice A4140 z4136.length c4141, .int .i64 z4137] 99, .own A4140 c4141 (rowC (Eint .u8) z4136) 5 (Eint .u8).sz, .box g36 [.slice A3948 l3950.length c3949, .int .i64 y3951] 99, .own A3948 c3949 (rowC (Eint .u8) l3950) 5 (Eint .u8).sz, .box g49 [.slice A1768 l1770.length c1769, .int .i64 y1772] 99, .own A1768 c1769 (rowC (Eint .u8) l1770) 5 (Eint .u8).sz, .own A3493 c3494 (rowC (Eint .u8) z3490) 5 (Eint .u8).sz, .own A4084 c4085 (rowC (Eint .u8) z4081) 5 (Eint .u8).sz, .own A4094 c4095 (rowC (Eint .u8) z4091) 5 (Eint .u8).sz, .own A4120 c4121 (rowC (Eint .u8) z4117) 5 (Eint .u8).sz] := (HS4139.back [] HSo rfl).sel [0, 1, 2, 3, 4, 5, 6, 7, 8, 9, 10, 11, 12, 13] rfl
                        refine F_gval rfl rfl rfl rfl rfl rfl (O_move rfl rfl) ?_
                        refine F_gval rfl rfl rfl rfl rfl rfl (O_mul rfl rfl rfl) ?_
                        refine F_gval rfl rfl rfl rfl rfl rfl (O_ne rfl rfl rfl) ?_
                        refine F_val rfl rfl rfl (O_pickF rfl rfl rfl) ?_
                        refine F_nil ?_
                        refine L_condP rfl (fun c4150 => ?_) (fun c4150 => ?_)
                        · have H := of_pos H c4150
                          refine L_seq ?_
                          refine L_region ?_
                          refine F_val rfl rfl rfl (O_assign rfl rfl) ?_
                          refine F_nil ?_
                          refine L_ret (fun a ha => (post_ret1 ha rfl rfl ?_))
                          obtain rfl := Option.some.inj H
                          exact ⟨rfl, HS4149.sel [] rfl⟩
                        · have H := of_neg H c4150
                          refine L_skip ?_
                          refine L_seq ?_
                          refine L_region ?_
                          refine F_val rfl rfl rfl (O_move rfl rfl) ?_
                          obtain ⟨z4155, h4154, H⟩ := of_bind H
                          refine F_call (xs := [.tmp 192]) rfl rfl rfl rfl Try.func21 nm21 rfl rfl ((bits_Writer_Bytes.calls (HS4149.give [] rfl (Lent.box HS4149 (Lent.own HS4149 (Lent.nil) (i := 5) rfl rfl ((HS4149.cells_own (i := 5) rfl).self)) (i := 4) rfl rfl (HS4149.cells_box (i := 4) rfl).self)) h4154).mono (fun e w hc => ?_))
                          obtain ⟨A4158, c4159, rfl, HSo⟩ := hc
                          refine ⟨.slice A4158 z4155.length c4159, rfl, ?_⟩
                          have HS4157 : Hp S0 w0 w [.rd A_one_0 (rowC (Eint .u32) l_one_0), .rd A_two_1 (rowC (Eint .u32) l_two_1), .box g10 [.slice A4058 z4054.length c4059, .int .i64 z4055] 99, .own A4058 c4059 (rowC (Eint .u8) z4054) 5 (Eint .u8).sz, .box g23 [.slice A4140 z4136.length c4141, .int .i64 z4137] 99, .own A4140 c4141 (rowC (Eint .u8) z4136) 5 (Eint .u8).sz, .box g36 [.slice A3948 l3950.length c3949, .int .i64 y3951] 99, .own A3948 c3949 (rowC (Eint .u8) l3950) 5 (Eint .u8).sz, .box g49 [.slice A1768 l1770.length c1769, .int .i64 y1772] 99, .own A1768 c1769 (rowC (Eint .u8) l1770) 5 (Eint .u8).sz, .own A3493 c3494 (rowC (Eint .u8) z3490) 5 (Eint .u8).sz, .own A4084 c4085 (rowC (Eint .u8) z4081) 5 (Eint .u8).sz, .own A4094 c4095 (rowC (Eint .u8) z4091) 5 (Eint .u8).sz, .own A4120 c4121 (rowC (Eint .u8) z4117) 5 (Eint .u8).sz, .own A4158 c4159 (rowC (Eint .u8) z4155) 5 (Eint .u8).sz] := (HS4149.back [] HSo rfl).sel [0, 1, 2, 3, 4, 5, 6, 7, 8, 9, 10, 11, 12, 13, 14] rfl
                          refine F_val rfl rfl rfl (O_move rfl rfl) ?_
                          obtain ⟨z4165, h4164, H⟩ := of_bind H
                          refine F_call (xs := [.tmp 194]) rfl rfl rfl rfl Try.func21 nm21 rfl rfl ((bits_Writer_Bytes.calls (HS4157.give [] rfl (Lent.box HS4157 (Lent.own HS4157 (Lent.nil) (i := 9) rfl rfl ((HS4157.cells_own (i := 9) rfl).self)) (i := 8) rfl rfl (HS4157.cells_box (i := 8) rfl).self)) h4164).mono (fun e w hc => ?_))
                          obtain ⟨A4168, c4169, rfl, HSo⟩ := hc
                          refine ⟨.slice A4168 z4165.length c4169, rfl, ?_⟩
                          have HS4167 : Hp S0 w0 w [.rd A_one_0 (rowC (Eint .u32) l_one_0), .rd A_two_1 (rowC (Eint .u32) l_two_1), .box g10 [.slice A4058 z4054.length c4059, .int .i64 z4055] 99, .own A4058 c4059 (rowC (Eint .u8) z4054) 5 (Eint .u8).sz, .box g23 [.slice A4140 z4136.length c4141, .int .i64 z4137] 99, .own A4140 c4141 (rowC (Eint .u8) z4136) 5 (Eint .u8).sz, .box g36 [.slice A3948 l3950.length c3949, .int .i64 y3951] 99, .own A3948 c3949 (rowC (Eint .u8) l3950) 5 (Eint .u8).sz, .box g49 [.slice A1768 l1770.length c1769, .int .i64 y1772] 99, .own A1768 c1769 (rowC (Eint .u8) l1770) 5 (Eint .u8).sz, .own A3493 c3494 (rowC (Eint .u8) z3490) 5 (Eint .u8).sz, .own A4084 c4085 (rowC (Eint .u8) z4081) 5 (Eint .u8).sz, .own A4094 c4095 (rowC (Eint .u8) z4091) 5 (Eint .u8).sz, .own A4120 c4121 (rowC (Eint .u8) z4117) 5 (Eint .u8).sz, .own A4158 c4159 (rowC (Eint .u8) z4155) 5 (Eint .u8).sz, .own A4168 c4169 (rowC (Eint .u8) z4165) 5 (Eint .u8).sz] := (HS4157.back [] HSo rfl).sel [0, 1, 2, 3, 4, 5, 6, 7, 8, 9, 10, 11, 12, 13, 14, 15] rfl
                          obtain ⟨z4175, h4174, H⟩ := of_bind H
                          refine F_call (xs := [.tmp 193, .tmp 195]) rfl rfl rfl rfl Try.func24 nm24 rfl rfl ((valiselaw3_same.calls (HS4167.give [] rfl (Lent.own HS4167 (Lent.own HS4167 (Lent.nil) (i := 15) rfl rfl ((HS4167.cells_own (i := 15) rfl).self)) (i := 14) rfl rfl ((HS4167.cells_own (i := 14) rfl).self))) (HS4167.own_capE (i := 14) rfl (by decide)) (HS4167.own_capE (i := 15) rfl (by decide)) h4174).mono (fun e w hc => ?_))
                          obtain ⟨rfl, HSo⟩ := hc
                          refine ⟨.bool z4175, rfl, ?_⟩
                          have HS4177 : Hp S0 w0 w [.rd A_one_0 (rowC (Eint .u32) l_one_0), .rd A_two_1 (rowC (Eint .u32) l_two_1), .box g10 [.slice A4058 z4054.length c4059, .int .i64 z4055] 99, .own A4058 c4059 (rowC (Eint .u8) z4054) 5 (Eint .u8).sz, .box g23 [.slice A4140 z4136.length c4141, .int .i64 z4137] 99, .own A4140 c4141 (rowC (Eint .u8) z4136) 5 (Eint .u8).sz, .box g36 [.slice A3948 l3950.length c3949, .int .i64 y3951] 99, .own A3948 c3949 (rowC (Eint .u8) l3950) 5 (Eint .u8).sz, .box g49 [.slice A1768 l1770.length c1769, .int .i64 y1772] 99, .own A1768 c1769 (rowC (Eint .u8) l1770) 5 (Eint .u8).sz, .own A3493 c3494 (rowC (Eint .u8) z3490) 5 (Eint .u8).sz, .own A4084 c4085 (rowC (Eint .u8) z4081) 5 (Eint .u8).sz, .own A4094 c4095 (rowC (Eint .u8) z4091) 5 (Eint .u8).sz, .own A4120 c4121 (rowC (Eint .u8) z4117) 5 (Eint .u8).sz, .own A4158 c4159 (rowC (Eint .u8) z4155) 5 (Eint .u8).sz, .own A4168 c4169 (rowC (Eint .u8) z4165) 5 (Eint .u8).sz] := (HS4167.back [] HSo rfl).sel [0, 1, 2, 3, 4, 5, 6, 7, 8, 9, 10, 11, 12, 13, 14, 15] rfl
                          refine F_val rfl rfl rfl (O_move rfl rfl) ?_
                          rcases Decidable.em (z4175 = true) with c4178 | c4178
                          · have H := of_pos H c4178
                            refine F_know (i := 197) rfl (congrArg Value.bool c4178) ?_
                            refine F_gval rfl rfl rfl rfl rfl rfl (O_move rfl rfl) ?_
                            obtain ⟨z4183, h4182, H⟩ := of_bind H
                            refine F_gcall (xs := [.tmp 198]) rfl rfl rfl rfl rfl rfl rfl Try.func21 nm21 rfl rfl ((bits_Writer_Bytes.calls (HS4177.give [] rfl (Lent.box HS4177 (Lent.own HS4177 (Lent.nil) (i := 3) rfl rfl ((HS4177.cells_own (i := 3) rfl).self)) (i := 2) rfl rfl (HS4177.cells_box (i := 2) rfl).self)) h4182).mono (fun e w hc => ?_))
                            obtain ⟨A4186, c4187, rfl, HSo⟩ := hc
                            refine ⟨.slice A4186 z4183.length c4187, rfl, ?_⟩
                            have HS4185 : Hp S0 w0 w [.rd A_one_0 (rowC (Eint .u32) l_one_0), .rd A_two_1 (rowC (Eint .u32) l_two_1), .box g10 [.slice A4058 z4054.length c4059, .int .i64 z4055] 99, .own A4058 c4059 (rowC (Eint .u8) z4054) 5 (Eint .u8).sz, .box g23 [.slice A4140 z4136.length c4141, .int .i64 z4137] 99, .own A4140 c4141 (rowC (Eint .u8) z4136) 5 (Eint .u8).sz, .box g36 [.slice A3948 l3950.length c3949, .int .i64 y3951] 99, .own A3948 c3949 (rowC (Eint .u8) l3950) 5 (Eint .u8).sz, .box g49 [.slice A1768 l1770.length c1769, .int .i64 y1772] 99, .own A1768 c1769 (rowC (Eint .u8) l1770) 5 (Eint .u8).sz, .own A3493 c3494 (rowC (Eint .u8) z3490) 5 (Eint .u8).sz, .own A4084 c4085 (rowC (Eint .u8) z4081) 5 (Eint .u8).sz, .own A4094 c4095 (rowC (Eint .u8) z4091) 5 (Eint .u8).sz, .own A4120 c4121 (rowC (Eint .u8) z4117) 5 (Eint .u8).sz, .own A4158 c4159 (rowC (Eint .u8) z4155) 5 (Eint .u8).sz, .own A4168 c4169 (rowC (Eint .u8) z4165) 5 (Eint .u8).sz, .own A4186 c4187 (rowC (Eint .u8) z4183) 5 (Eint .u8).sz] := (HS4177.back [] HSo rfl).sel [0, 1, 2, 3, 4, 5, 6, 7, 8, 9, 10, 11, 12, 13, 14, 15, 16] rfl
                            refine F_gval rfl rfl rfl rfl rfl rfl (O_move rfl rfl) ?_
                            obtain ⟨z4193, h4192, H⟩ := of_bind H
                            refine F_gcall (xs := [.tmp 200]) rfl rfl rfl rfl rfl rfl rfl Try.func21 nm21 rfl rfl ((bits_Writer_Bytes.calls (HS4185.give [] rfl (Lent.box HS4185 (Lent.own HS4185 (Lent.nil) (i := 7) rfl rfl ((HS4185.cells_own (i := 7) rfl).self)) (i := 6) rfl rfl (HS4185.cells_box (i := 6) rfl).self)) h4192).mono (fun e w hc => ?_))
                            obtain ⟨A4196, c4197, rfl, HSo⟩ := hc
                            refine ⟨.slice A4196 z4193.length c4197, rfl, ?_⟩
                            have HS4195 : Hp S0 w0 w [.rd A_one_0 (rowC (Eint .u32) l_one_0), .rd A_two_1 (rowC (Eint .u32) l_two_1), .box g10 [.slice A4058 z4054.length c4059, .int .i64 z4055] 99, .own A4058 c4059 (rowC (Eint .u8) z4054) 5 (Eint .u8).sz, .box g23 [.slice A4140 z4136.length c4141, .int .i64 z4137] 99, .own A4140 c4141 (rowC (Eint .u8) z4136) 5 (Eint .u8).sz, .box g36 [.slice A3948 l3950.length c3949, .int .i64 y3951] 99, .own A3948 c3949 (rowC (Eint .u8) l3950) 5 (Eint .u8).sz, .box g49 [.slice A1768 l1770.length c1769, .int .i64 y1772] 99, .own A1768 c1769 (rowC (Eint .u8) l1770) 5 (Eint .u8).sz, .own A3493 c3494 (rowC (Eint .u8) z3490) 5 (Eint .u8).sz, .own A4084 c4085 (rowC (Eint .u8) z4081) 5 (Eint .u8).sz, .own A4094 c4095 (rowC (Eint .u8) z4091) 5 (Eint .u8).sz, .own A4120 c4121 (rowC (Eint .u8) z4117) 5 (Eint .u8).sz, .own A4158 c4159 (rowC (Eint .u8) z4155) 5 (Eint .u8).sz, .own A4168 c4169 (rowC (Eint .u8) z4165) 5 (Eint .u8).sz, .own A4186 c4187 (rowC (Eint .u8) z4183) 5 (Eint .u8).sz, .own A4196 c4197 (rowC (Eint .u8) z4193) 5 (Eint .u8).sz] := (HS4185.back [] HSo rfl).sel [0, 1, 2, 3, 4, 5, 6, 7, 8, 9, 10, 11, 12, 13, 14, 15, 16, 17] rfl
                            obtain ⟨z4203, h4202, H⟩ := of_bind H
                            refine F_gcall (xs := [.tmp 199, .tmp 201]) rfl rfl rfl rfl rfl rfl rfl Try.func24 nm24 rfl rfl ((valiselaw3_same.calls (HS4195.give [] rfl (Lent.own HS4195 (Lent.own HS4195 (Lent.nil) (i := 17) rfl rfl ((HS4195.cells_own (i := 17) rfl).self)) (i := 16) rfl rfl ((HS4195.cells_own (i := 16) rfl).self))) (HS4195.own_capE (i := 16) rfl (by decide)) (HS4195.own_capE (i := 17) rfl (by decide)) h4202).mono (fun e w hc => ?_))
                            obtain ⟨rfl, HSo⟩ := hc
                            refine ⟨.bool z4203, rfl, ?_⟩
                            have HS4205 : Hp S0 w0 w [.rd A_one_0 (rowC (Eint .u32) l_one_0), .rd A_two_1 (rowC (Eint .u32) l_two_1), .box g10 [.slice A4058 z4054.length c4059, .int .i64 z4055] 99, .own A4058 c4059 (rowC (Eint .u8) z4054) 5 (Eint .u8).sz, .box g23 [.slice A4140 z4136.length c4141, .int .i64 z4137] 99, .own A4140 c4141 (rowC (Eint .u8) z4136) 5 (Eint .u8).sz, .box g36 [.slice A3948 l3950.length c3949, .int .i64 y3951] 99, .own A3948 c3949 (rowC (Eint .u8) l3950) 5 (Eint .u8).sz, .box g49 [.slice A1768 l1770.length c1769, .int .i64 y1772] 99, .own A1768 c1769 (rowC (Eint .u8) l1770) 5 (Eint .u8).sz, .own A3493 c3494 (rowC (Eint .u8) z3490) 5 (Eint .u8).sz, .own A4084 c4085 (rowC (Eint .u8) z4081) 5 (Eint .u8).sz, .own A4094 c4095 (rowC (Eint .u8) z4091) 5 (Eint .u8).sz, .own A4120 c4121 (rowC (Eint .u8) z4117) 5 (Eint .u8).sz, .own A4158 c4159 (rowC (Eint .u8) z4155) 5 (Eint .u8).sz, .own A4168 c4169 (rowC (Eint .u8) z4165) 5 (Eint .u8).sz, .own A4186 c4187 (rowC (Eint .u8) z4183) 5 (Eint .u8).sz, .own A4196 c4197 (rowC (Eint .u8) z4193) 5 (Eint .u8).sz] := (HS4195.back [] HSo rfl).sel [0, 1, 2, 3, 4, 5, 6, 7, 8, 9, 10, 11, 12, 13, 14, 15, 16, 17] rfl
                            refine F_val rfl rfl rfl (O_pickT rfl rfl rfl) ?_
                            refine F_val rfl rfl rfl (O_assign rfl rfl) ?_
                            refine F_nil ?_
                            refine L_ret (fun a ha => (post_ret1 ha rfl rfl ?_))
                            obtain rfl := Option.some.inj H
                            exact ⟨rfl, HS4205.sel [] rfl⟩
                          · have H := of_neg H c4178
                            refine F_know (i := 197) rfl (congrArg Value.bool (Bool.eq_false_iff.mpr c4178)) ?_
                            refine F_gskip rfl rfl rfl rfl rfl rfl rfl ?_
                            refine F_gskip rfl rfl rfl rfl rfl rfl rfl ?_
                            refine F_gskip rfl rfl rfl rfl rfl rfl rfl ?_
                            refine F_gskip rfl rfl rfl rfl rfl rfl rfl ?_
                            refine F_gskip rfl rfl rfl rfl rfl rfl rfl ?_
                            refine F_val rfl rfl rfl (O_pickF rfl rfl rfl) ?_
                            refine F_val rfl rfl rfl (O_assign rfl rfl) ?_
                            refine F_nil ?_
                            refine L_ret (fun a ha => (post_ret1 ha rfl rfl ?_))
                            obtain rfl := Option.some.inj H
                            exact ⟨rfl, HS4177.sel [] rfl⟩

end Go.Proofs.Ytmbcoaiaeeckiaa
