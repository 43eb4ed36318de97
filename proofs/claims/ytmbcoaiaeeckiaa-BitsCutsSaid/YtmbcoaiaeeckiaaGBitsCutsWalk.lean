import Derived.Test.YtmbcoaiaeeckiaaChecked
import Derived.Test.YtmbcoaiaeeckiaaGBitsCutsPure
set_option linter.unusedVariables false
set_option linter.unusedSimpArgs false
set_option maxRecDepth 10000
namespace Go.Proofs.Ytmbcoaiaeeckiaa
open Go Go.V Go.V.Pu
theorem mix : Try.prog.follows .mixedOrders = true := by kernel_rfl
theorem nm44 : (Try.f44.name == "runtime.NumGoroutine") = false := by kernel_rfl
theorem nm27 : (Try.f27.name == "runtime.NumGoroutine") = false := by kernel_rfl
theorem nm20 : (Try.f20.name == "runtime.NumGoroutine") = false := by kernel_rfl
theorem nm18 : (Try.f18.name == "runtime.NumGoroutine") = false := by kernel_rfl
theorem field99_1 : FieldAt Try.prog 99 1 1 := fun w a => by kernel_rfl
theorem flat3 : Flat Try.prog 3 := Flat.of Try.underlying3 rfl
theorem field99_0 : FieldAt Try.prog 99 0 0 := fun w a => by kernel_rfl
theorem flat35 : Flat Try.prog 35 := Flat.of Try.underlying35 rfl
theorem info5 : (Try.prog.info? 5).map (fun i => (i.zero, i.size, i.bytes)) = some (some (.int .u8 0), 1, 1) := by kernel_rfl
theorem size35 : (Try.prog.info? 35).map (·.size) = some 1 := by kernel_rfl
theorem size5 : (Try.prog.info? 5).map (·.size) = some 1 := by kernel_rfl
theorem flat5 : Flat Try.prog 5 := Flat.of Try.underlying5 rfl
theorem size3 : (Try.prog.info? 3).map (·.size) = some 1 := by kernel_rfl
theorem nm56 : (Try.f56.name == "runtime.NumGoroutine") = false := by kernel_rfl
theorem nm19 : (Try.f19.name == "runtime.NumGoroutine") = false := by kernel_rfl
theorem nm23 : (Try.f23.name == "runtime.NumGoroutine") = false := by kernel_rfl
theorem nm21 : (Try.f21.name == "runtime.NumGoroutine") = false := by kernel_rfl
theorem nm24 : (Try.f24.name == "runtime.NumGoroutine") = false := by kernel_rfl
theorem nm25 : (Try.f25.name == "runtime.NumGoroutine") = false := by kernel_rfl
theorem field102_0 : FieldAt Try.prog 102 0 0 := fun w a => by kernel_rfl
theorem field102_1 : FieldAt Try.prog 102 1 1 := fun w a => by kernel_rfl
theorem nm30 : (Try.f30.name == "runtime.NumGoroutine") = false := by kernel_rfl
theorem nm32 : (Try.f32.name == "runtime.NumGoroutine") = false := by kernel_rfl
theorem nm57 : (Try.f57.name == "runtime.NumGoroutine") = false := by kernel_rfl
theorem nm31 : (Try.f31.name == "runtime.NumGoroutine") = false := by kernel_rfl
theorem nm29 : (Try.f29.name == "runtime.NumGoroutine") = false := by kernel_rfl
/-! function 44: valise/valiselaw3.which -/
theorem valiselaw3_which.calls {S0 : Nat → Prop} {w0 : World} {k_0 : Int} {n_1 : Int} {r : Int} (HS0 : Hp S0 w0 w0 []) (h : valiselaw3_which.f k_0 n_1 = some r) :
    Calls Try.prog 44 ([.int .i64 k_0, .int .i64 n_1] : List Value).toArray w0 (fun e w => e = .returned (.int .i64 r) ∧ Hp S0 w0 w []) := by
  have H : ((gd (n_1 ≠ 0) (bnd (Int.tmod k_0 n_1) fun x2 => (if x2 < 0 then (bnd (IntKind.i64.wrap (x2 + n_1)) fun x10 => some x10) else (some x2)).bind fun m_8 => some m_8)) : Option (Int)) = some r := h
  refine calls_start Try.func44 rfl rfl ?_
  refine L_seq ?_
  refine L_region ?_
  refine F_val rfl rfl rfl (O_assign rfl rfl) ?_
  refine F_nil ?_
  refine L_seq ?_
  refine L_region ?_
  refine F_val rfl rfl rfl (O_move rfl rfl) ?_
  refine F_val rfl rfl rfl (O_move rfl rfl) ?_
  obtain ⟨g1, H⟩ := of_gd H
  refine F_val rfl rfl rfl (O_rem rfl rfl rfl g1) ?_
  obtain ⟨x2, h3, H⟩ := of_bnd H
  refine F_val rfl rfl rfl (O_assign' rfl rfl (congrArg (Value.int .i64) h3)) ?_
  refine F_nil ?_
  refine L_seq ?_
  refine L_seq ?_
  refine L_region ?_
  refine F_val rfl rfl rfl (O_move rfl rfl) ?_
  refine F_val rfl rfl rfl (O_lt rfl rfl rfl) ?_
  refine F_nil ?_
  obtain ⟨yj4, Hyj4, H⟩ := of_bind H
  refine L_join (fun a w => ∃ (m_8 : Int), yj4 = m_8 ∧ Is Try.f44.ntmps a [(5, .int .i64 m_8)] ∧ Hp S0 w0 w []) (fun Qj4 hNj4 hOj4 => ?_) (fun a w hR => ?_)
  · skip
    have H := Hyj4
    refine L_condP rfl (fun c9 => ?_) (fun c9 => ?_)
    · have H := of_pos H c9
      refine L_region ?_
      refine F_val rfl rfl rfl (O_move rfl rfl) ?_
      refine F_val rfl rfl rfl (O_move rfl rfl) ?_
      refine F_val rfl rfl rfl (O_add rfl rfl rfl) ?_
      obtain ⟨x10, h11, H⟩ := of_bnd H
      refine F_val rfl rfl rfl (O_assign' rfl rfl (congrArg (Value.int .i64) h11)) ?_
      refine F_nil ?_
      refine L_nil (fun a ha => hNj4 a _ ⟨_, (Option.some.inj H).symm, Is.cons ha (Is.nil ha) rfl, HS0.sel [] rfl⟩)
    · have H := of_neg H c9
      refine L_skip ?_
      refine L_nil (fun a ha => hNj4 a _ ⟨_, (Option.some.inj H).symm, Is.cons ha (Is.nil ha) rfl, HS0.sel [] rfl⟩)
  · obtain ⟨m_8, ej, ha, HS13⟩ := hR
    obtain rfl := ej.symm
    refine wpLF_app ?_ ha
    refine L_seq ?_
    refine L_region ?_
    refine F_val rfl rfl rfl (O_move rfl rfl) ?_
    refine F_val rfl rfl rfl (O_assign rfl rfl) ?_
    refine F_nil ?_
    refine L_ret (fun a ha => (post_ret1 ha rfl rfl ?_))
    obtain rfl := Option.some.inj H
    exact ⟨rfl, HS13.sel [] rfl⟩

/-! function 27: valise/valiselaw3.width -/
theorem valiselaw3_width.calls {S0 : Nat → Prop} {w0 : World} {n_0 : Int} {r : Int} (HS0 : Hp S0 w0 w0 []) (h : valiselaw3_width.f n_0 = some r) :
    Calls Try.prog 27 ([.int .i64 n_0] : List Value).toArray w0 (fun e w => e = .returned (.int .i64 r) ∧ Hp S0 w0 w []) := by
  have H : (((valiselaw3_which.f n_0 33).bind fun z5 => some z5) : Option (Int)) = some r := h
  refine calls_start Try.func27 rfl rfl ?_
  refine L_seq ?_
  refine L_region ?_
  refine F_val rfl rfl rfl (O_assign rfl rfl) ?_
  refine F_nil ?_
  refine L_seq ?_
  refine L_region ?_
  refine F_val rfl rfl rfl (O_move rfl rfl) ?_
  obtain ⟨z5, h4, H⟩ := of_bind H
  refine F_call (xs := [.tmp 3, .const (.int .i64 33)]) rfl rfl rfl rfl Try.func44 nm44 rfl rfl ((valiselaw3_which.calls (HS0.give [] rfl (Lent.nil)) h4).mono (fun e w hc => ?_))
  obtain ⟨rfl, HSo⟩ := hc
  refine ⟨.int .i64 z5, rfl, ?_⟩
  have HS7 : Hp S0 w0 w [] := (HS0.back [] HSo rfl).sel [] rfl
  refine F_val rfl rfl rfl (O_assign rfl rfl) ?_
  refine F_nil ?_
  refine L_ret (fun a ha => (post_ret1 ha rfl rfl ?_))
  obtain rfl := Option.some.inj H
  exact ⟨rfl, HS7.sel [] rfl⟩

/-! function 20: valise/valiselaw3.low -/
theorem valiselaw3_low.calls {S0 : Nat → Prop} {w0 : World} {v_0 : Int} {n_1 : Int} {r : Int} (HS0 : Hp S0 w0 w0 []) (h : valiselaw3_low.f v_0 n_1 = some r) :
    Calls Try.prog 20 ([.int .u32 v_0, .int .i64 n_1] : List Value).toArray w0 (fun e w => e = .returned (.int .u32 r) ∧ Hp S0 w0 w []) := by
  have H : ((gd (¬ (IntKind.u64.wrap n_1) < 0) (some (IntKind.u32.wrap (band .u64 (IntKind.u64.wrap v_0) (IntKind.u64.wrap ((shl .u64 1 (IntKind.u64.wrap n_1)) - 1)))))) : Option (Int)) = some r := h
  refine calls_start Try.func20 rfl rfl ?_
  refine L_seq ?_
  refine L_region ?_
  refine F_val rfl rfl rfl (O_assign rfl rfl) ?_
  refine F_nil ?_
  refine L_seq ?_
  refine L_region ?_
  refine F_val rfl rfl rfl (O_move rfl rfl) ?_
  refine F_val rfl rfl rfl (O_conv rfl rfl ⟨_, Try.underlying22⟩ Try.underlying87) ?_
  refine F_val rfl rfl rfl (O_move rfl rfl) ?_
  refine F_val rfl rfl rfl (O_conv rfl rfl ⟨_, Try.underlying3⟩ Try.underlying75) ?_
  obtain ⟨g1, H⟩ := of_gd H
  refine F_val rfl rfl rfl (O_shl rfl rfl rfl g1) ?_
  refine F_val rfl rfl rfl (O_sub rfl rfl rfl) ?_
  refine F_val rfl rfl rfl (O_and rfl rfl rfl) ?_
  refine F_val rfl rfl rfl (O_conv rfl rfl ⟨_, Try.underlying87⟩ Try.underlying22) ?_
  refine F_val rfl rfl rfl (O_assign rfl rfl) ?_
  refine F_nil ?_
  refine L_ret (fun a ha => (post_ret1 ha rfl rfl ?_))
  obtain rfl := Option.some.inj H
  exact ⟨rfl, HS0.sel [] rfl⟩

/-! function 18: valise/bits.NewWriter -/
theorem bits_NewWriter.calls {S0 : Nat → Prop} {w0 : World} {r : (List Int × Int)} (HS0 : Hp S0 w0 w0 []) (h : bits_NewWriter.f = some r) :
    Calls Try.prog 18 ([] : List Value).toArray w0 (fun e w => ∃ (g1 : Nat), ∃ (A1_0 : Option Addr), ∃ (c1_0 : Nat), e = .returned (.pointer (some ⟨g1, 0, none⟩)) ∧ Hp S0 w0 w [.box g1 [.slice A1_0 r.1.length c1_0, .int .i64 r.2] 99, .own A1_0 c1_0 (rowC (Eint .u8) r.1) 5 (Eint .u8).sz]) := by
  have H : ((some (([] : List Int), 0)) : Option ((List Int × Int))) = some r := h
  refine calls_start Try.func18 rfl rfl ?_
  refine L_seq ?_
  refine L_region ?_
  refine F_val rfl rfl rfl (O_assign rfl rfl) ?_
  refine F_nil ?_
  refine L_seq ?_
  refine L_region ?_
  refine F_val rfl rfl rfl (O_build (vs := []) (v := .agg #[.slice none 0 0, .int .i64 0]) rfl rfl rfl (fun w => by kernel_rfl)) ?_
  have HS5 := HS0.addNil 5 (Eint .u8).sz
  have HS5 : Hp S0 w0 w0 [.own none 0 (rowC (Eint .u8) ([] : List Int)) 5 (Eint .u8).sz] := HS5
  refine F_box (C := [.slice none ([] : List Int).length 0, .int .i64 0]) rfl rfl rfl rfl rfl rfl HS5 (fun w1 g3 HS2 => ?_)
  have HS2 : Hp S0 w0 w1 [.own none 0 (rowC (Eint .u8) ([] : List Int)) 5 (Eint .u8).sz, .box g3 ([.slice none ([] : List Int).length 0, .int .i64 0]) 99] := HS2
  refine F_val rfl rfl rfl (O_assign rfl rfl) ?_
  refine F_nil ?_
  refine L_ret (fun a ha => (post_ret1 ha rfl rfl ?_))
  obtain rfl := Option.some.inj H
  exact ⟨_, _, _, rfl, HS2.sel [1, 0] rfl⟩

/-! function 56: (*valise/bits.Writer).lay -/
theorem bits_Writer_lay.calls {S0 : Nat → Prop} {w0 : World} {g_w_0 : Nat} {A_w_0_bytes : Option Addr} {c_w_0_bytes : Nat} {w_0_bytes : List Int} {w_0_count : Int} {v_1 : Int} {n_2 : Int} {r : List Int × Int} (HS0 : Hp S0 w0 w0 [.box g_w_0 [.slice A_w_0_bytes w_0_bytes.length c_w_0_bytes, .int .i64 w_0_count] 99, .own A_w_0_bytes c_w_0_bytes (rowC (Eint .u8) w_0_bytes) 5 (Eint .u8).sz]) (h : bits_Writer_lay.f w_0_bytes w_0_count v_1 n_2 = some r) :
    Calls Try.prog 56 ([.pointer (some ⟨g_w_0, 0, none⟩), .int .u64 v_1, .int .i64 n_2] : List Value).toArray w0 (fun e w => ∃ (A_w_0_bytes' : Option Addr), ∃ (c_w_0_bytes' : Nat), e = .returned (.tuple #[]) ∧ Hp S0 w0 w [.box g_w_0 [.slice A_w_0_bytes' r.1.length c_w_0_bytes', .int .i64 r.2] 99, .own A_w_0_bytes' c_w_0_bytes' (rowC (Eint .u8) r.1) 5 (Eint .u8).sz]) := by
  have H : (((bits_Writer_lay.l1 FU w_0_bytes w_0_count v_1 n_2 ).bind fun (l206, y207) => some (l206, y207)) : Option (List Int × Int)) = some r := h
  refine calls_start Try.func56 rfl rfl ?_
  obtain ⟨yj1, Hyj1, H⟩ := of_bind H
  refine L_join (fun a w => ∃ (l206 : List Int), ∃ (y207 : Int), ∃ (A204 : Option Addr), ∃ (c205 : Nat), yj1 = (l206, y207) ∧ Is Try.f56.ntmps a [] ∧ Hp S0 w0 w [.box g_w_0 [.slice A204 l206.length c205, .int .i64 y207] 99, .own A204 c205 (rowC (Eint .u8) l206) 5 (Eint .u8).sz]) (fun Qj1 hNj1 hOj1 => ?_) (fun a w hR => ?_)
  · skip
    have H := Hyj1
    refine L_blk (fun Qb208 hNb208 hXb208 hOb208 => ?_)
    refine L_lp (fun k a w => ∃ (l342 : List Int), ∃ (y343 : Int), ∃ (v_344 : Int), ∃ (n_345 : Int), ∃ (A340 : Option Addr), ∃ (c341 : Nat), Is Try.f56.ntmps a [(0, .pointer (some ⟨g_w_0, 0, none⟩)), (1, .int .u64 v_344), (2, .int .i64 n_345)] ∧ Hp S0 w0 w [.box g_w_0 [.slice A340 l342.length c341, .int .i64 y343] 99, .own A340 c341 (rowC (Eint .u8) l342) 5 (Eint .u8).sz] ∧ bits_Writer_lay.l1 k l342 y343 v_344 n_345  = some yj1) FU (fun a ha => ⟨_, _, _, _, _, _, Is.cons ha (Is.cons ha (Is.cons ha (Is.nil ha) rfl) rfl) rfl, HS0.sel [0, 1] rfl, H⟩) (fun kp339 a w346 hI Qp339 hNp339 hOp339 => ?_)
    obtain ⟨l342, y343, v_344, n_345, A340, c341, ha, HS347, HAp339⟩ := hI
    cases kp339 with
    | zero => cases (show (none : Option _) = some _ from HAp339)
    | succ kp339 =>
      have H := (bits_Writer_lay.l1.eq_2 ..).symm.trans HAp339
      refine wpLF_app ?_ ha
      refine L_seq ?_
      refine L_seq ?_
      refine L_region ?_
      refine F_val rfl rfl rfl (O_move rfl rfl) ?_
      refine F_val rfl rfl rfl (O_gt rfl rfl rfl) ?_
      refine F_nil ?_
      refine L_condP rfl (fun c348 => ?_) (fun c348 => ?_)
      · have H := of_pos H c348
        refine L_skip ?_
        refine L_blk (fun Q349 hN349 hX349 hO349 => ?_)
        refine L_seq ?_
        refine L_region ?_
        refine F_val rfl rfl rfl (O_move rfl rfl) ?_
        refine F_val rfl rfl rfl (O_nilCheck rfl rfl) ?_
        refine F_val rfl rfl rfl (O_fieldB rfl rfl field99_1) ?_
        refine F_val rfl rfl rfl (O_loadB rfl rfl flat3 (HS347.cells_box (i := 0) rfl) rfl) ?_
        refine F_val rfl rfl rfl (O_rem rfl rfl rfl (by decide)) ?_
        obtain ⟨x350, h351, H⟩ := of_bnd H
        refine F_val rfl rfl rfl (O_assign' rfl rfl (congrArg (Value.int .i64) h351)) ?_
        refine F_nil ?_
        refine L_seq ?_
        refine L_seq ?_
        refine L_region ?_
        refine F_val rfl rfl rfl (O_move rfl rfl) ?_
        refine F_val rfl rfl rfl (O_eq rfl rfl rfl) ?_
        refine F_nil ?_
        obtain ⟨yj352, Hyj352, H⟩ := of_bind H
        refine L_join (fun a w => ∃ (l370 : List Int), ∃ (A368 : Option Addr), ∃ (c369 : Nat), yj352 = l370 ∧ Is Try.f56.ntmps a [(0, .pointer (some ⟨g_w_0, 0, none⟩)), (1, .int .u64 v_344), (2, .int .i64 n_345), (6, .int .i64 x350)] ∧ Hp S0 w0 w [.box g_w_0 [.slice A368 l370.length c369, .int .i64 y343] 99, .own A368 c369 (rowC (Eint .u8) l370) 5 (Eint .u8).sz]) (fun Qj352 hNj352 hOj352 => ?_) (fun a w hR => ?_)
        · skip
          have H := Hyj352
          refine L_condP rfl (fun c371 => ?_) (fun c371 => ?_)
          · have H := of_pos H c371
            refine L_region ?_
            refine F_val rfl rfl rfl (O_move rfl rfl) ?_
            refine F_val rfl rfl rfl (O_move rfl rfl) ?_
            refine F_val rfl rfl rfl (O_nilCheck rfl rfl) ?_
            refine F_val rfl rfl rfl (O_fieldB rfl rfl field99_0) ?_
            refine F_val rfl rfl rfl (O_loadB rfl rfl flat35 (HS347.cells_box (i := 0) rfl) rfl) ?_
            refine F_litE (E := (Eint .u8)) (e := 5) [(0, .int .u8 0)] [0] rfl rfl rfl rfl rfl rfl rfl (by decide) (fun w => by kernel_rfl) HS347 (fun w372 A374 c375 HS373 => ?_)
            have HS373 : Hp S0 w0 w372 [.box g_w_0 [.slice A340 l342.length c341, .int .i64 y343] 99, .own A340 c341 (rowC (Eint .u8) l342) 5 (Eint .u8).sz, .own A374 c375 (rowC (Eint .u8) [0]) 5 (Eint .u8).sz] := HS373
            obtain ⟨l379, h380, H⟩ := of_bnd H
            obtain ⟨g381, H⟩ := of_gd H
            refine F_appE (E := (Eint .u8)) (xs := l342) (ys := [0]) (i := 1) rfl rfl rfl rfl Try.underlying35 info5 rfl (by decide) (by decide) rfl rfl HS373 rfl (HS373.cells_own (i := 2) rfl) h380 g381 (fun w377 A382 c383 HS378 => ?_)
            have HS378 : Hp S0 w0 w377 [.box g_w_0 [.slice A340 l342.length c341, .int .i64 y343] 99, .own A382 c383 (rowC (Eint .u8) l379) 5 (Eint .u8).sz, .own A374 c375 (rowC (Eint .u8) [0]) 5 (Eint .u8).sz] := HS378
            refine F_val rfl rfl rfl (O_nilCheck rfl rfl) ?_
            refine F_val rfl rfl rfl (O_fieldB rfl rfl field99_0) ?_
            refine F_stB 0 ([.slice A382 l379.length c383, .int .i64 y343]) rfl rfl rfl rfl rfl size35 HS378 rfl rfl rfl rfl rfl (fun w384 HS385 => ?_)
            have HS385 : Hp S0 w0 w384 [.box g_w_0 [.slice A382 l379.length c383, .int .i64 y343] 99, .own A382 c383 (rowC (Eint .u8) l379) 5 (Eint .u8).sz, .own A374 c375 (rowC (Eint .u8) [0]) 5 (Eint .u8).sz] := HS385
            refine F_nil ?_
            refine L_nil (fun a ha => hNj352 a _ ⟨_, _, _, (Option.some.inj H).symm, Is.cons ha (Is.cons ha (Is.cons ha (Is.cons ha (Is.nil ha) rfl) rfl) rfl) rfl, HS385.sel [0, 1] rfl⟩)
          · have H := of_neg H c371
            refine L_skip ?_
            refine L_nil (fun a ha => hNj352 a _ ⟨_, _, _, (Option.some.inj H).symm, Is.cons ha (Is.cons ha (Is.cons ha (Is.cons ha (Is.nil ha) rfl) rfl) rfl) rfl, HS347.sel [0, 1] rfl⟩)
        · obtain ⟨l370, A368, c369, ej, ha, HS387⟩ := hR
          obtain rfl := ej.symm
          refine wpLF_app ?_ ha
          refine L_seq ?_
          refine L_region ?_
          refine F_val rfl rfl rfl (O_move rfl rfl) ?_
          refine F_val rfl rfl rfl (O_sub rfl rfl rfl) ?_
          refine F_val rfl rfl rfl (O_move rfl rfl) ?_
          refine F_val rfl rfl rfl (O_min rfl rfl rfl) ?_
          obtain ⟨x388, h389, H⟩ := of_bnd H
          refine F_val rfl rfl rfl (O_assign' rfl rfl (congrArg (Value.int .i64) h389)) ?_
          refine F_nil ?_
          refine L_seq ?_
          refine L_region ?_
          refine F_val rfl rfl rfl (O_move rfl rfl) ?_
          refine F_val rfl rfl rfl (O_move rfl rfl) ?_
          refine F_val rfl rfl rfl (O_conv rfl rfl ⟨_, Try.underlying3⟩ Try.underlying75) ?_
          obtain ⟨g390, H⟩ := of_gd H
          refine F_val rfl rfl rfl (O_shl rfl rfl rfl g390) ?_
          refine F_val rfl rfl rfl (O_sub rfl rfl rfl) ?_
          refine F_val rfl rfl rfl (O_and rfl rfl rfl) ?_
          obtain ⟨x391, h392, H⟩ := of_bnd H
          refine F_val rfl rfl rfl (O_assign' rfl rfl (congrArg (Value.int .u64) h392)) ?_
          refine F_nil ?_
          refine L_seq ?_
          refine L_tail 19 mix (by kernel_rfl) (fun w393 hw394 => ?_)
          have HS395 := HS387.keep hw394
          refine S_val rfl rfl rfl (O_move rfl rfl) ?_
          refine S_val rfl rfl rfl (O_nilCheck rfl rfl) ?_
          refine S_val rfl rfl rfl (O_fieldB rfl rfl field99_0) ?_
          refine S_val rfl rfl rfl (O_loadB rfl rfl flat35 (HS395.cells_box (i := 0) rfl) rfl) ?_
          refine S_val rfl rfl rfl (O_move rfl rfl) ?_
          refine S_val rfl rfl rfl (O_nilCheck rfl rfl) ?_
          refine S_val rfl rfl rfl (O_fieldB rfl rfl field99_0) ?_
          refine S_val rfl rfl rfl (O_loadB rfl rfl flat35 (HS395.cells_box (i := 0) rfl) rfl) ?_
          refine S_val rfl rfl rfl (O_len rfl rfl Try.underlying35) ?_
          refine S_val rfl rfl rfl (O_sub rfl rfl rfl) ?_
          obtain ⟨⟨g396, g397⟩, H⟩ := of_gd H
          refine S_val rfl rfl rfl (O_idx rfl rfl rfl Try.underlying35 size5 g396 g397 (Cells.isA (HS395.cells_own (i := 1) rfl) (rowC_ne (E := (Eint .u8)) g396 g397 (by decide)))) ?_
          refine S_val rfl rfl rfl (O_loadC rfl rfl flat5 (HS395.cells_own (i := 1) rfl) (int_cell g396 g397)) ?_
          refine S_val rfl rfl rfl (O_move rfl rfl) ?_
          refine S_val rfl rfl rfl (O_move rfl rfl) ?_
          refine S_val rfl rfl rfl (O_conv rfl rfl ⟨_, Try.underlying3⟩ Try.underlying75) ?_
          obtain ⟨g398, H⟩ := of_gd H
          refine S_val rfl rfl rfl (O_shl rfl rfl rfl g398) ?_
          refine S_val rfl rfl rfl (O_conv rfl rfl ⟨_, Try.underlying87⟩ Try.underlying5) ?_
          refine S_val rfl rfl rfl (O_or rfl rfl rfl) ?_
          refine S_val rfl rfl rfl (O_idx rfl rfl rfl Try.underlying35 size5 g396 g397 (Cells.isA (HS395.cells_own (i := 1) rfl) (rowC_ne (E := (Eint .u8)) g396 g397 (by decide)))) ?_
          refine S_nil ?_
          obtain ⟨l401, h402, H⟩ := of_bnd H
          refine F_setE (E := (Eint .u8)) (i := 1) (a := bor .u8 (rd l370 (IntKind.i64.wrap ((l370.length : Int) - 1))) (IntKind.u8.wrap (shl .u64 x391 (IntKind.u64.wrap x350)))) (q := IntKind.i64.wrap ((l370.length : Int) - 1)) rfl rfl rfl rfl rfl rfl size5 HS395 rfl (by decide) g396 g397 h402 (fun w399 HS400 => ?_)
          have e403 : l370.length = l401.length := by rw [← h402, List.length_set]
          have HS400 : Hp S0 w0 w399 [.box g_w_0 [.slice A368 l401.length c369, .int .i64 y343] 99, .own A368 c369 (rowC (Eint .u8) l401) 5 (Eint .u8).sz] := (by rw [← e403]; exact HS400)
          refine F_nil ?_
          refine L_seq ?_
          refine L_region ?_
          refine F_val rfl rfl rfl (O_move rfl rfl) ?_
          refine F_val rfl rfl rfl (O_move rfl rfl) ?_
          refine F_val rfl rfl rfl (O_conv rfl rfl ⟨_, Try.underlying3⟩ Try.underlying75) ?_
          refine F_val rfl rfl rfl (O_shr rfl rfl rfl g390) ?_
          obtain ⟨x404, h405, H⟩ := of_bnd H
          refine F_val rfl rfl rfl (O_assign' rfl rfl (congrArg (Value.int .u64) h405)) ?_
          refine F_nil ?_
          refine L_seq ?_
          refine L_region ?_
          refine F_val rfl rfl rfl (O_move rfl rfl) ?_
          refine F_val rfl rfl rfl (O_move rfl rfl) ?_
          refine F_val rfl rfl rfl (O_sub rfl rfl rfl) ?_
          obtain ⟨x406, h407, H⟩ := of_bnd H
          refine F_val rfl rfl rfl (O_assign' rfl rfl (congrArg (Value.int .i64) h407)) ?_
          refine F_nil ?_
          refine L_region ?_
          refine F_val rfl rfl rfl (O_move rfl rfl) ?_
          refine F_val rfl rfl rfl (O_nilCheck rfl rfl) ?_
          refine F_val rfl rfl rfl (O_fieldB rfl rfl field99_1) ?_
          refine F_val rfl rfl rfl (O_loadB rfl rfl flat3 (HS400.cells_box (i := 0) rfl) rfl) ?_
          refine F_val rfl rfl rfl (O_move rfl rfl) ?_
          refine F_val rfl rfl rfl (O_add rfl rfl rfl) ?_
          refine F_val rfl rfl rfl (O_nilCheck rfl rfl) ?_
          refine F_val rfl rfl rfl (O_fieldB rfl rfl field99_1) ?_
          refine F_stB 0 ([.slice A368 l401.length c369, .int .i64 (IntKind.i64.wrap (y343 + x388))]) rfl rfl rfl rfl rfl size3 HS400 rfl rfl rfl rfl rfl (fun w408 HS409 => ?_)
          have HS409 : Hp S0 w0 w408 [.box g_w_0 [.slice A368 l401.length c369, .int .i64 (IntKind.i64.wrap (y343 + x388))] 99, .own A368 c369 (rowC (Eint .u8) l401) 5 (Eint .u8).sz] := HS409
          refine F_nil ?_
          refine L_endB hN349 ?_
          refine L_nil (fun a ha => hNp339 _ a _ (Nat.lt_succ_self _) ⟨_, _, _, _, _, _, Is.cons ha (Is.cons ha (Is.cons ha (Is.nil ha) rfl) rfl) rfl, HS409.sel [0, 1] rfl, H⟩)
      · have H := of_neg H c348
        refine L_exitB (fun a w h => hOp339 (.exit 0) a w rfl (hXb208 a w h)) ?_
        refine L_nil (fun a ha => hNj1 a _ ⟨_, _, _, _, (Option.some.inj H).symm, Is.nil ha, HS347.sel [0, 1] rfl⟩)
  · obtain ⟨l206, y207, A204, c205, rfl, ha, HS411⟩ := hR
    refine wpLF_app ?_ ha
    refine L_nil (fun a ha => (post_end0 ha rfl ?_))
    obtain rfl := Option.some.inj H
    exact ⟨_, _, rfl, HS411.sel [0, 1] rfl⟩

/-! function 19: (*valise/bits.Writer).Put -/
theorem bits_Writer_Put.calls {S0 : Nat → Prop} {w0 : World} {g_w_0 : Nat} {A_w_0_bytes : Option Addr} {c_w_0_bytes : Nat} {w_0_bytes : List Int} {w_0_count : Int} {v_1 : Int} {n_2 : Int} {r : Int × List Int × Int} (HS0 : Hp S0 w0 w0 [.box g_w_0 [.slice A_w_0_bytes w_0_bytes.length c_w_0_bytes, .int .i64 w_0_count] 99, .own A_w_0_bytes c_w_0_bytes (rowC (Eint .u8) w_0_bytes) 5 (Eint .u8).sz]) (h : bits_Writer_Put.f w_0_bytes w_0_count v_1 n_2 = some r) :
    Calls Try.prog 19 ([.pointer (some ⟨g_w_0, 0, none⟩), .int .u32 v_1, .int .i64 n_2] : List Value).toArray w0 (fun e w => ∃ (A_w_0_bytes' : Option Addr), ∃ (c_w_0_bytes' : Nat), e = .returned (.int .i64 r.1) ∧ Hp S0 w0 w [.box g_w_0 [.slice A_w_0_bytes' r.2.1.length c_w_0_bytes', .int .i64 r.2.2] 99, .own A_w_0_bytes' c_w_0_bytes' (rowC (Eint .u8) r.2.1) 5 (Eint .u8).sz]) := by
  have H : (((if (n_2 < 0) ∨ (32 < n_2) then (some true) else (gd (¬ (IntKind.u64.wrap n_2) < 0) (some (decide (shr .u64 (IntKind.u64.wrap v_1) (IntKind.u64.wrap n_2) ≠ 0))))).bind fun b3 => if (b3 = true) ∨ (268435456 < IntKind.i64.wrap (w_0_count + n_2)) then (some (1, w_0_bytes, w_0_count)) else ((bits_Writer_lay.f w_0_bytes w_0_count (IntKind.u64.wrap v_1) n_2).bind fun (z12, z13) => some (0, z12, z13))) : Option (Int × List Int × Int)) = some r := h
  refine calls_start Try.func19 rfl rfl ?_
  refine L_seq ?_
  refine L_region ?_
  refine F_val rfl rfl rfl (O_assign rfl rfl) ?_
  refine F_nil ?_
  refine L_seq ?_
  refine L_seq ?_
  refine L_region ?_
  refine F_val rfl rfl rfl (O_move rfl rfl) ?_
  refine F_val rfl rfl rfl (O_peq rfl rfl rfl Try.underlying31) ?_
  refine F_val rfl rfl rfl (O_move rfl rfl) ?_
  refine F_gval rfl rfl rfl rfl rfl rfl (O_move rfl rfl) ?_
  refine F_gval rfl rfl rfl rfl rfl rfl (O_lt rfl rfl rfl) ?_
  refine F_val rfl rfl rfl (O_pickF rfl rfl rfl) ?_
  refine F_val rfl rfl rfl (O_move rfl rfl) ?_
  refine F_grp 3 [(16, .bool (decide ((n_2 < 0) ∨ (32 < n_2)))), (0, .pointer (some ⟨g_w_0, 0, none⟩)), (1, .int .u32 v_1), (2, .int .i64 n_2)] ?_ ?_
  · rcases Decidable.em (n_2 < 0) with c1 | c1
    · refine F_know (i := 13) rfl (dec_t c1) ?_
      refine F_gskip rfl rfl rfl rfl rfl rfl rfl ?_
      refine F_gskip rfl rfl rfl rfl rfl rfl rfl ?_
      refine F_val rfl rfl rfl (O_pickT rfl rfl rfl) ?_
      refine F_know (i := 16) rfl (dec_or_t (q := 32 < n_2) c1) ?_
      exact F_grpE (fun a ha => Is.cons ha (Is.cons ha (Is.cons ha (Is.cons ha (Is.nil ha) rfl) rfl) rfl) rfl)
    · refine F_know (i := 13) rfl (dec_f c1) ?_
      refine F_gval rfl rfl rfl rfl rfl rfl (O_move rfl rfl) ?_
      refine F_gval rfl rfl rfl rfl rfl rfl (O_gt rfl rfl rfl) ?_
      refine F_val rfl rfl rfl (O_pickF rfl rfl rfl) ?_
      refine F_know (i := 16) rfl (dec_or_f (q := 32 < n_2) c1) ?_
      exact F_grpE (fun a ha => Is.cons ha (Is.cons ha (Is.cons ha (Is.cons ha (Is.nil ha) rfl) rfl) rfl) rfl)
  · skip
    refine F_val rfl rfl rfl (O_move rfl rfl) ?_
    obtain ⟨b3, Hb3, H⟩ := of_bind H
    refine F_grp 7 [(24, .bool b3), (0, .pointer (some ⟨g_w_0, 0, none⟩)), (1, .int .u32 v_1), (2, .int .i64 n_2)] ?_ ?_
    · rcases Decidable.em ((n_2 < 0) ∨ (32 < n_2)) with c4 | c4
      · refine F_know (i := 17) rfl (dec_t c4) ?_
        have H := of_pos Hb3 c4
        refine F_gskip rfl rfl rfl rfl rfl rfl rfl ?_
        refine F_gskip rfl rfl rfl rfl rfl rfl rfl ?_
        refine F_gskip rfl rfl rfl rfl rfl rfl rfl ?_
        refine F_gskip rfl rfl rfl rfl rfl rfl rfl ?_
        refine F_gskip rfl rfl rfl rfl rfl rfl rfl ?_
        refine F_gskip rfl rfl rfl rfl rfl rfl rfl ?_
        refine F_val rfl rfl rfl (O_pickT rfl rfl rfl) ?_
        refine F_know (i := 24) rfl (congrArg Value.bool (Option.some.inj H)) ?_
        exact F_grpE (fun a ha => Is.cons ha (Is.cons ha (Is.cons ha (Is.cons ha (Is.nil ha) rfl) rfl) rfl) rfl)
      · refine F_know (i := 17) rfl (dec_f c4) ?_
        have H := of_neg Hb3 c4
        refine F_gval rfl rfl rfl rfl rfl rfl (O_move rfl rfl) ?_
        refine F_gval rfl rfl rfl rfl rfl rfl (O_conv rfl rfl ⟨_, Try.underlying22⟩ Try.underlying87) ?_
        refine F_gval rfl rfl rfl rfl rfl rfl (O_move rfl rfl) ?_
        refine F_gval rfl rfl rfl rfl rfl rfl (O_conv rfl rfl ⟨_, Try.underlying3⟩ Try.underlying75) ?_
        obtain ⟨g5, H⟩ := of_gd H
        refine F_gval rfl rfl rfl rfl rfl rfl (O_shr rfl rfl rfl g5) ?_
        refine F_gval rfl rfl rfl rfl rfl rfl (O_ne rfl rfl rfl) ?_
        refine F_val rfl rfl rfl (O_pickF rfl rfl rfl) ?_
        refine F_know (i := 24) rfl (congrArg Value.bool (Option.some.inj H)) ?_
        exact F_grpE (fun a ha => Is.cons ha (Is.cons ha (Is.cons ha (Is.cons ha (Is.nil ha) rfl) rfl) rfl) rfl)
    · skip
      refine F_val rfl rfl rfl (O_move rfl rfl) ?_
      refine F_grp 8 [(33, .bool (decide ((b3 = true) ∨ (268435456 < IntKind.i64.wrap (w_0_count + n_2))))), (0, .pointer (some ⟨g_w_0, 0, none⟩)), (1, .int .u32 v_1), (2, .int .i64 n_2)] ?_ ?_
      · rcases Decidable.em (b3 = true) with c6 | c6
        · refine F_know (i := 25) rfl (congrArg Value.bool c6) ?_
          refine F_gskip rfl rfl rfl rfl rfl rfl rfl ?_
          refine F_gskip rfl rfl rfl rfl rfl rfl rfl ?_
          refine F_gskip rfl rfl rfl rfl rfl rfl rfl ?_
          refine F_gskip rfl rfl rfl rfl rfl rfl rfl ?_
          refine F_gskip rfl rfl rfl rfl rfl rfl rfl ?_
          refine F_gskip rfl rfl rfl rfl rfl rfl rfl ?_
          refine F_gskip rfl rfl rfl rfl rfl rfl rfl ?_
          refine F_val rfl rfl rfl (O_pickT rfl rfl rfl) ?_
          refine F_know (i := 33) rfl (dec_or_t (q := 268435456 < IntKind.i64.wrap (w_0_count + n_2)) c6) ?_
          exact F_grpE (fun a ha => Is.cons ha (Is.cons ha (Is.cons ha (Is.cons ha (Is.nil ha) rfl) rfl) rfl) rfl)
        · refine F_know (i := 25) rfl (congrArg Value.bool (Bool.eq_false_iff.mpr c6)) ?_
          refine F_gval rfl rfl rfl rfl rfl rfl (O_move rfl rfl) ?_
          refine F_gval rfl rfl rfl rfl rfl rfl (O_nilCheck rfl rfl) ?_
          refine F_gval rfl rfl rfl rfl rfl rfl (O_fieldB rfl rfl field99_1) ?_
          refine F_gval rfl rfl rfl rfl rfl rfl (O_loadB rfl rfl flat3 (HS0.cells_box (i := 0) rfl) rfl) ?_
          refine F_gval rfl rfl rfl rfl rfl rfl (O_move rfl rfl) ?_
          refine F_gval rfl rfl rfl rfl rfl rfl (O_add rfl rfl rfl) ?_
          refine F_gval rfl rfl rfl rfl rfl rfl (O_gt rfl rfl rfl) ?_
          refine F_val rfl rfl rfl (O_pickF rfl rfl rfl) ?_
          refine F_know (i := 33) rfl (dec_or_f (q := 268435456 < IntKind.i64.wrap (w_0_count + n_2)) c6) ?_
          exact F_grpE (fun a ha => Is.cons ha (Is.cons ha (Is.cons ha (Is.cons ha (Is.nil ha) rfl) rfl) rfl) rfl)
      · skip
        refine F_nil ?_
        refine L_condP rfl (fun c7 => ?_) (fun c7 => ?_)
        · have H := of_pos H c7
          refine L_seq ?_
          refine L_region ?_
          refine F_val rfl rfl rfl (O_assign rfl rfl) ?_
          refine F_nil ?_
          refine L_ret (fun a ha => (post_ret1 ha rfl rfl ?_))
          obtain rfl := Option.some.inj H
          exact ⟨_, _, rfl, HS0.sel [0, 1] rfl⟩
        · have H := of_neg H c7
          refine L_skip ?_
          refine L_seq ?_
          refine L_region ?_
          refine F_val rfl rfl rfl (O_move rfl rfl) ?_
          refine F_val rfl rfl rfl (O_move rfl rfl) ?_
          refine F_val rfl rfl rfl (O_conv rfl rfl ⟨_, Try.underlying22⟩ Try.underlying87) ?_
          refine F_val rfl rfl rfl (O_move rfl rfl) ?_
          obtain ⟨⟨z12, z13⟩, h11, H⟩ := of_bind H
          refine F_call (xs := [.tmp 34, .tmp 36, .tmp 37]) rfl rfl rfl rfl Try.func56 nm56 rfl rfl ((bits_Writer_lay.calls (HS0.give [0, 1] rfl (Lent.nil)) h11).mono (fun e w hc => ?_))
          obtain ⟨A16, c17, rfl, HSo⟩ := hc
          refine ⟨.tuple #[], rfl, ?_⟩
          have HS15 : Hp S0 w0 w [.box g_w_0 [.slice A16 z12.length c17, .int .i64 z13] 99, .own A16 c17 (rowC (Eint .u8) z12) 5 (Eint .u8).sz] := (HS0.back [0, 1] HSo rfl).sel [2, 3] rfl
          refine F_nil ?_
          refine L_seq ?_
          refine L_region ?_
          refine F_val rfl rfl rfl (O_assign rfl rfl) ?_
          refine F_nil ?_
          refine L_ret (fun a ha => (post_ret1 ha rfl rfl ?_))
          obtain rfl := Option.some.inj H
          exact ⟨_, _, rfl, HS15.sel [0, 1] rfl⟩

/-! function 23: (*valise/bits.Writer).Len -/
theorem bits_Writer_Len.calls {S0 : Nat → Prop} {w0 : World} {g_w_0 : Nat} {A_w_0_bytes : Option Addr} {c_w_0_bytes : Nat} {w_0_bytes : List Int} {w_0_count : Int} {r : Int} (HS0 : Hp S0 w0 w0 [.rd (some ⟨g_w_0, 0, none⟩) [.slice A_w_0_bytes w_0_bytes.length c_w_0_bytes, .int .i64 w_0_count], .rd A_w_0_bytes (rowC (Eint .u8) w_0_bytes)]) (h : bits_Writer_Len.f w_0_bytes w_0_count = some r) :
    Calls Try.prog 23 ([.pointer (some ⟨g_w_0, 0, none⟩)] : List Value).toArray w0 (fun e w => e = .returned (.int .i64 r) ∧ Hp S0 w0 w []) := by
  have H : ((some w_0_count) : Option (Int)) = some r := h
  refine calls_start Try.func23 rfl rfl ?_
  refine L_seq ?_
  refine L_region ?_
  refine F_val rfl rfl rfl (O_assign rfl rfl) ?_
  refine F_nil ?_
  refine L_seq ?_
  refine L_seq ?_
  refine L_region ?_
  refine F_val rfl rfl rfl (O_move rfl rfl) ?_
  refine F_val rfl rfl rfl (O_peq rfl rfl rfl Try.underlying31) ?_
  refine F_nil ?_
  refine L_cond rfl (fun hx => by cases hx) (fun _ => ?_)
  refine L_skip ?_
  refine L_seq ?_
  refine L_region ?_
  refine F_val rfl rfl rfl (O_move rfl rfl) ?_
  refine F_val rfl rfl rfl (O_nilCheck rfl rfl) ?_
  refine F_val rfl rfl rfl (O_fieldB rfl rfl field99_1) ?_
  refine F_val rfl rfl rfl (O_loadB rfl rfl flat3 (HS0.cells_rd (i := 0) rfl) rfl) ?_
  refine F_val rfl rfl rfl (O_assign rfl rfl) ?_
  refine F_nil ?_
  refine L_ret (fun a ha => (post_ret1 ha rfl rfl ?_))
  obtain rfl := Option.some.inj H
  exact ⟨rfl, HS0.sel [] rfl⟩

/-! function 21: (*valise/bits.Writer).Bytes -/
theorem bits_Writer_Bytes.calls {S0 : Nat → Prop} {w0 : World} {g_w_0 : Nat} {A_w_0_bytes : Option Addr} {c_w_0_bytes : Nat} {w_0_bytes : List Int} {w_0_count : Int} {r : List Int} (HS0 : Hp S0 w0 w0 [.rd (some ⟨g_w_0, 0, none⟩) [.slice A_w_0_bytes w_0_bytes.length c_w_0_bytes, .int .i64 w_0_count], .rd A_w_0_bytes (rowC (Eint .u8) w_0_bytes)]) (h : bits_Writer_Bytes.f w_0_bytes w_0_count = some r) :
    Calls Try.prog 21 ([.pointer (some ⟨g_w_0, 0, none⟩)] : List Value).toArray w0 (fun e w => ∃ (A1 : Option Addr), ∃ (c1 : Nat), e = .returned (.slice A1 r.length c1) ∧ Hp S0 w0 w [.own A1 c1 (rowC (Eint .u8) r) 5 (Eint .u8).sz]) := by
  have H : ((if (w_0_bytes.length : Int) = 0 then (some ([] : List Int)) else (gd ((0 : Int) ≤ (w_0_bytes.length : Int) ∧ (w_0_bytes.length : Int) * 1 ≤ 281474976710656) (bnd (List.replicate ((w_0_bytes.length : Int) : Int).toNat (0 : Int)) fun l8 => bnd (cpy l8 w_0_bytes) fun l15 => some l15))) : Option (List Int)) = some r := h
  refine calls_start Try.func21 rfl rfl ?_
  refine L_seq ?_
  refine L_region ?_
  refine F_val rfl rfl rfl (O_assign rfl rfl) ?_
  refine F_nil ?_
  refine L_seq ?_
  refine L_seq ?_
  refine L_region ?_
  refine F_val rfl rfl rfl (O_move rfl rfl) ?_
  refine F_val rfl rfl rfl (O_peq rfl rfl rfl Try.underlying31) ?_
  refine F_val rfl rfl rfl (O_move rfl rfl) ?_
  refine F_gval rfl rfl rfl rfl rfl rfl (O_move rfl rfl) ?_
  refine F_gval rfl rfl rfl rfl rfl rfl (O_nilCheck rfl rfl) ?_
  refine F_gval rfl rfl rfl rfl rfl rfl (O_fieldB rfl rfl field99_0) ?_
  refine F_gval rfl rfl rfl rfl rfl rfl (O_loadB rfl rfl flat35 (HS0.cells_rd (i := 0) rfl) rfl) ?_
  refine F_gval rfl rfl rfl rfl rfl rfl (O_len rfl rfl Try.underlying35) ?_
  refine F_gval rfl rfl rfl rfl rfl rfl (O_eq rfl rfl rfl) ?_
  refine F_val rfl rfl rfl (O_pickF rfl rfl rfl) ?_
  refine F_nil ?_
  refine L_condP rfl (fun c1 => ?_) (fun c1 => ?_)
  · have H := of_pos H c1
    refine L_seq ?_
    refine L_region ?_
    refine F_val rfl rfl rfl (O_assign rfl rfl) ?_
    refine F_nil ?_
    have HS2 := HS0.addNil 5 (Eint .u8).sz
    refine L_ret (fun a ha => (post_ret1 ha rfl rfl ?_))
    obtain rfl := Option.some.inj H
    exact ⟨_, _, rfl, HS2.sel [2] rfl⟩
  · have H := of_neg H c1
    refine L_skip ?_
    refine L_seq ?_
    refine L_region ?_
    refine F_val rfl rfl rfl (O_move rfl rfl) ?_
    refine F_val rfl rfl rfl (O_nilCheck rfl rfl) ?_
    refine F_val rfl rfl rfl (O_fieldB rfl rfl field99_0) ?_
    refine F_val rfl rfl rfl (O_loadB rfl rfl flat35 (HS0.cells_rd (i := 0) rfl) rfl) ?_
    refine F_val rfl rfl rfl (O_len rfl rfl Try.underlying35) ?_
    obtain ⟨⟨g6, g7⟩, H⟩ := of_gd H
    obtain ⟨l8, h9, H⟩ := of_bnd H
    refine F_makeE (E := (Eint .u8)) rfl rfl rfl rfl rfl rfl Try.underlying35 info5 rfl (by decide) (by decide) g6 g7 HS0 h9 (fun w4 A10 c11 HS5 => ?_)
    have HS5 : Hp S0 w0 w4 [.rd (some ⟨g_w_0, 0, none⟩) [.slice A_w_0_bytes w_0_bytes.length c_w_0_bytes, .int .i64 w_0_count], .rd A_w_0_bytes (rowC (Eint .u8) w_0_bytes), .own A10 c11 (rowC (Eint .u8) l8) 5 (Eint .u8).sz] := HS5
    refine F_val rfl rfl rfl (O_assign rfl rfl) ?_
    refine F_nil ?_
    refine L_seq ?_
    refine L_region ?_
    refine F_val rfl rfl rfl (O_move rfl rfl) ?_
    refine F_val rfl rfl rfl (O_move rfl rfl) ?_
    refine F_val rfl rfl rfl (O_nilCheck rfl rfl) ?_
    refine F_val rfl rfl rfl (O_fieldB rfl rfl field99_0) ?_
    refine F_val rfl rfl rfl (O_loadB rfl rfl flat35 (HS5.cells_rd (i := 0) rfl) rfl) ?_
    obtain ⟨l15, h16, H⟩ := of_bnd H
    refine F_copyE (E := (Eint .u8)) (xs := l8) (ys := w_0_bytes) (i := 2) rfl rfl rfl rfl Try.underlying35 size5 rfl rfl HS5 rfl (HS5.cells_rd (i := 1) rfl) h16 (fun w13 HS14 => ?_)
    have e17 : l8.length = l15.length := by rw [← h16, cpy_length]
    refine F_know (i := 3) rfl (congrArg (fun n => Value.slice A10 n c11) e17) ?_
    have HS14 : Hp S0 w0 w13 [.rd (some ⟨g_w_0, 0, none⟩) [.slice A_w_0_bytes w_0_bytes.length c_w_0_bytes, .int .i64 w_0_count], .rd A_w_0_bytes (rowC (Eint .u8) w_0_bytes), .own A10 c11 (rowC (Eint .u8) l15) 5 (Eint .u8).sz] := HS14
    refine F_nil ?_
    refine L_seq ?_
    refine L_region ?_
    refine F_val rfl rfl rfl (O_move rfl rfl) ?_
    refine F_val rfl rfl rfl (O_assign rfl rfl) ?_
    refine F_nil ?_
    refine L_ret (fun a ha => (post_ret1 ha rfl rfl ?_))
    obtain rfl := Option.some.inj H
    exact ⟨_, _, rfl, HS14.sel [2] rfl⟩

/-! function 24: valise/valiselaw3.same -/
theorem valiselaw3_same.calls {S0 : Nat → Prop} {w0 : World} {A_a_0 : Option Addr} {c_a_0 : Nat} {A_b_1 : Option Addr} {c_b_1 : Nat} {l_a_0 : List Int} {l_b_1 : List Int} {r : Bool} (HS0 : Hp S0 w0 w0 [.rd A_a_0 (rowC (Eint .u8) l_a_0), .rd A_b_1 (rowC (Eint .u8) l_b_1)]) (hc_a_0 : l_a_0.length ≤ c_a_0) (hc_b_1 : l_b_1.length ≤ c_b_1) (h : valiselaw3_same.f l_a_0 l_b_1 = some r) :
    Calls Try.prog 24 ([.slice A_a_0 l_a_0.length c_a_0, .slice A_b_1 l_b_1.length c_b_1] : List Value).toArray w0 (fun e w => e = .returned (.bool r) ∧ Hp S0 w0 w []) := by
  have H : ((if (l_a_0.length : Int) ≠ (l_b_1.length : Int) then (some false) else ((valiselaw3_same.l1 FU 0 l_a_0 l_b_1).bind fun (yj2 : Sum (Bool) (Unit)) => onR yj2 (fun r => some r) fun () => some true)) : Option (Bool)) = some r := h
  refine calls_start Try.func24 rfl rfl ?_
  refine L_seq ?_
  refine L_region ?_
  refine F_val rfl rfl rfl (O_assign rfl rfl) ?_
  refine F_nil ?_
  refine L_seq ?_
  refine L_seq ?_
  refine L_region ?_
  refine F_val rfl rfl rfl (O_move rfl rfl) ?_
  refine F_val rfl rfl rfl (O_len rfl rfl Try.underlying35) ?_
  refine F_val rfl rfl rfl (O_move rfl rfl) ?_
  refine F_val rfl rfl rfl (O_len rfl rfl Try.underlying35) ?_
  refine F_val rfl rfl rfl (O_ne rfl rfl rfl) ?_
  refine F_nil ?_
  refine L_condP rfl (fun c1 => ?_) (fun c1 => ?_)
  · have H := of_pos H c1
    refine L_seq ?_
    refine L_region ?_
    refine F_val rfl rfl rfl (O_assign rfl rfl) ?_
    refine F_nil ?_
    refine L_ret (fun a ha => (post_ret1 ha rfl rfl ?_))
    obtain rfl := Option.some.inj H
    exact ⟨rfl, HS0.sel [] rfl⟩
  · have H := of_neg H c1
    refine L_skip ?_
    refine L_seq ?_
    refine L_seq ?_
    refine L_region ?_
    refine F_val rfl rfl rfl (O_assign rfl rfl) ?_
    refine F_nil ?_
    obtain ⟨yj2, Hyj2, H⟩ := of_bind H
    refine L_join (fun a w => yj2 = Sum.inr () ∧ Is Try.f24.ntmps a [] ∧ Hp S0 w0 w [.rd A_a_0 (rowC (Eint .u8) l_a_0), .rd A_b_1 (rowC (Eint .u8) l_b_1)]) (fun Qj2 hNj2 hOj2 => ?_) (fun a w hR => ?_)
    · have HOj2 := H
      have H := Hyj2
      refine L_blk (fun Qb45 hNb45 hXb45 hOb45 => ?_)
      refine L_lp (fun k a w => ∃ (i_72 : Int), Is Try.f24.ntmps a [(0, .slice A_a_0 l_a_0.length c_a_0), (1, .slice A_b_1 l_b_1.length c_b_1), (5, .int .i64 i_72)] ∧ Hp S0 w0 w [.rd A_a_0 (rowC (Eint .u8) l_a_0), .rd A_b_1 (rowC (Eint .u8) l_b_1)] ∧ valiselaw3_same.l1 k i_72 l_a_0 l_b_1 = some yj2) FU (fun a ha => ⟨_, Is.cons ha (Is.cons ha (Is.cons ha (Is.nil ha) rfl) rfl) rfl, HS0.sel [0, 1] rfl, H⟩) (fun kp71 a w73 hI Qp71 hNp71 hOp71 => ?_)
      obtain ⟨i_72, ha, HS74, HAp71⟩ := hI
      cases kp71 with
      | zero => cases (show (none : Option _) = some _ from HAp71)
      | succ kp71 =>
        have H := (valiselaw3_same.l1.eq_2 ..).symm.trans HAp71
        refine wpLF_app ?_ ha
        refine L_seq ?_
        refine L_seq ?_
        refine L_region ?_
        refine F_val rfl rfl rfl (O_move rfl rfl) ?_
        refine F_val rfl rfl rfl (O_move rfl rfl) ?_
        refine F_val rfl rfl rfl (O_len rfl rfl Try.underlying35) ?_
        refine F_val rfl rfl rfl (O_lt rfl rfl rfl) ?_
        refine F_nil ?_
        refine L_condP rfl (fun c75 => ?_) (fun c75 => ?_)
        · have H := of_pos H c75
          refine L_skip ?_
          refine L_seq ?_
          refine L_blk (fun Q76 hN76 hX76 hO76 => ?_)
          refine L_seq ?_
          refine L_quiet mix (by kernel_rfl) ?_
          refine Q_val rfl rfl rfl (fun wq hq => O_move rfl rfl) ?_
          refine Q_val rfl rfl rfl (fun wq hq => O_move rfl rfl) ?_
          obtain ⟨⟨g77, g78⟩, H⟩ := of_gd H
          refine Q_val rfl rfl rfl (fun wq hq => O_idx rfl rfl rfl Try.underlying35 size5 g77 g78 (Cells.isA ((HS74.keep hq).cells_rd (i := 0) rfl) (rowC_ne (E := (Eint .u8)) g77 g78 (by decide)))) ?_
          refine Q_val rfl rfl rfl (fun wq hq => O_loadC rfl rfl flat5 ((HS74.keep hq).cells_rd (i := 0) rfl) (int_cell g77 g78)) ?_
          refine Q_val rfl rfl rfl (fun wq hq => O_move rfl rfl) ?_
          refine Q_val rfl rfl rfl (fun wq hq => O_move rfl rfl) ?_
          obtain ⟨⟨g79, g80⟩, H⟩ := of_gd H
          refine Q_val rfl rfl rfl (fun wq hq => O_idx rfl rfl rfl Try.underlying35 size5 g79 g80 (Cells.isA ((HS74.keep hq).cells_rd (i := 1) rfl) (rowC_ne (E := (Eint .u8)) g79 g80 (by decide)))) ?_
          refine Q_val rfl rfl rfl (fun wq hq => O_loadC rfl rfl flat5 ((HS74.keep hq).cells_rd (i := 1) rfl) (int_cell g79 g80)) ?_
          refine Q_val rfl rfl rfl (fun wq hq => O_ne rfl rfl rfl) ?_
          refine Q_nil (fun w81 hw82 => ?_)
          have HS83 := HS74.keep hw82
          refine L_condP rfl (fun c84 => ?_) (fun c84 => ?_)
          · have H := of_pos H c84
            refine L_seq ?_
            refine L_region ?_
            refine F_val rfl rfl rfl (O_assign rfl rfl) ?_
            refine F_nil ?_
            refine L_ret (fun a ha => (hO76 .ret a _ rfl (hOp71 .ret a _ rfl (hOb45 .ret a _ rfl (hOj2 .ret a _ rfl (post_ret1 ha rfl rfl ?_))))))
            obtain rfl := Option.some.inj H
            obtain rfl := Option.some.inj (show (some false : Option (Bool)) = some _ from HOj2)
            exact ⟨rfl, HS83.sel [] rfl⟩
          · have H := of_neg H c84
            refine L_skip ?_
            refine L_endB hN76 ?_
            refine L_region ?_
            refine F_val rfl rfl rfl (O_move rfl rfl) ?_
            refine F_val rfl rfl rfl (O_add rfl rfl rfl) ?_
            obtain ⟨x85, h86, H⟩ := of_bnd H
            refine F_val rfl rfl rfl (O_assign' rfl rfl (congrArg (Value.int .i64) h86)) ?_
            refine F_nil ?_
            refine L_nil (fun a ha => hNp71 _ a _ (Nat.lt_succ_self _) ⟨_, Is.cons ha (Is.cons ha (Is.cons ha (Is.nil ha) rfl) rfl) rfl, HS83.sel [0, 1] rfl, H⟩)
        · have H := of_neg H c75
          refine L_exitB (fun a w h => hOp71 (.exit 0) a w rfl (hXb45 a w h)) ?_
          refine L_nil (fun a ha => hNj2 a _ ⟨(Option.some.inj H).symm, Is.nil ha, HS74.sel [0, 1] rfl⟩)
    · obtain ⟨rfl, ha, HS88⟩ := hR
      refine wpLF_app ?_ ha
      have H := (onR_inr _ _ _).symm.trans H
      refine L_seq ?_
      refine L_region ?_
      refine F_val rfl rfl rfl (O_assign rfl rfl) ?_
      refine F_nil ?_
      refine L_ret (fun a ha => (post_ret1 ha rfl rfl ?_))
      obtain rfl := Option.some.inj H
      exact ⟨rfl, HS88.sel [] rfl⟩

/-! function 25: valise/bits.NewReader -/
theorem bits_NewReader.calls {S0 : Nat → Prop} {w0 : World} {A_data_0 : Option Addr} {c_data_0 : Nat} {l_data_0 : List Int} {r : Option (List Int × Int)} (HS0 : Hp S0 w0 w0 [.rd A_data_0 (rowC (Eint .u8) l_data_0)]) (hc_data_0 : l_data_0.length ≤ c_data_0) (h : bits_NewReader.f l_data_0 = some r) :
    Calls Try.prog 25 ([.slice A_data_0 l_data_0.length c_data_0] : List Value).toArray w0 (fun e w => match r with | none => e = .returned (.pointer none) ∧ Hp S0 w0 w [] | some x => ∃ (g0 : Nat), ∃ (A0_0 : Option Addr), ∃ (c0_0 : Nat), e = .returned (.pointer (some ⟨g0, 0, none⟩)) ∧ Hp S0 w0 w [.box g0 [.slice A0_0 x.1.length c0_0, .int .i64 x.2] 102, .own A0_0 c0_0 (rowC (Eint .u8) x.1) 5 (Eint .u8).sz]) := by
  have H : ((if 33554432 < (l_data_0.length : Int) then (some none) else (gd ((0 : Int) ≤ (l_data_0.length : Int) ∧ (l_data_0.length : Int) * 1 ≤ 281474976710656) (bnd (List.replicate ((l_data_0.length : Int) : Int).toNat (0 : Int)) fun l6 => bnd (cpy l6 l_data_0) fun l13 => some (some (l13, 0))))) : Option (Option (List Int × Int))) = some r := h
  refine calls_start Try.func25 rfl rfl ?_
  refine L_seq ?_
  refine L_region ?_
  refine F_val rfl rfl rfl (O_assign rfl rfl) ?_
  refine F_nil ?_
  refine L_seq ?_
  refine L_seq ?_
  refine L_region ?_
  refine F_val rfl rfl rfl (O_move rfl rfl) ?_
  refine F_val rfl rfl rfl (O_len rfl rfl Try.underlying35) ?_
  refine F_val rfl rfl rfl (O_gt rfl rfl rfl) ?_
  refine F_nil ?_
  refine L_condP rfl (fun c1 => ?_) (fun c1 => ?_)
  · have H := of_pos H c1
    refine L_seq ?_
    refine L_region ?_
    refine F_val rfl rfl rfl (O_assign rfl rfl) ?_
    refine F_nil ?_
    refine L_ret (fun a ha => (post_ret1 ha rfl rfl ?_))
    obtain rfl := Option.some.inj H
    exact ⟨rfl, HS0.sel [] rfl⟩
  · have H := of_neg H c1
    refine L_skip ?_
    refine L_seq ?_
    refine L_region ?_
    refine F_val rfl rfl rfl (O_move rfl rfl) ?_
    refine F_val rfl rfl rfl (O_len rfl rfl Try.underlying35) ?_
    obtain ⟨⟨g4, g5⟩, H⟩ := of_gd H
    obtain ⟨l6, h7, H⟩ := of_bnd H
    refine F_makeE (E := (Eint .u8)) rfl rfl rfl rfl rfl rfl Try.underlying35 info5 rfl (by decide) (by decide) g4 g5 HS0 h7 (fun w2 A8 c9 HS3 => ?_)
    have HS3 : Hp S0 w0 w2 [.rd A_data_0 (rowC (Eint .u8) l_data_0), .own A8 c9 (rowC (Eint .u8) l6) 5 (Eint .u8).sz] := HS3
    refine F_val rfl rfl rfl (O_assign rfl rfl) ?_
    refine F_nil ?_
    refine L_seq ?_
    refine L_region ?_
    refine F_val rfl rfl rfl (O_move rfl rfl) ?_
    refine F_val rfl rfl rfl (O_move rfl rfl) ?_
    obtain ⟨l13, h14, H⟩ := of_bnd H
    refine F_copyE (E := (Eint .u8)) (xs := l6) (ys := l_data_0) (i := 1) rfl rfl rfl rfl Try.underlying35 size5 rfl rfl HS3 rfl (HS3.cells_rd (i := 0) rfl) h14 (fun w11 HS12 => ?_)
    have e15 : l6.length = l13.length := by rw [← h14, cpy_length]
    refine F_know (i := 3) rfl (congrArg (fun n => Value.slice A8 n c9) e15) ?_
    have HS12 : Hp S0 w0 w11 [.rd A_data_0 (rowC (Eint .u8) l_data_0), .own A8 c9 (rowC (Eint .u8) l13) 5 (Eint .u8).sz] := HS12
    refine F_nil ?_
    refine L_seq ?_
    refine L_region ?_
    refine F_val rfl rfl rfl (O_move rfl rfl) ?_
    refine F_val rfl rfl rfl (O_build (vs := [(0, .slice A8 l13.length c9)]) (v := .agg #[.slice A8 l13.length c9, .int .i64 0]) rfl rfl rfl (fun w => by kernel_rfl)) ?_
    refine F_box (C := [.slice A8 l13.length c9, .int .i64 0]) rfl rfl rfl rfl rfl rfl HS12 (fun w16 g18 HS17 => ?_)
    have HS17 : Hp S0 w0 w16 [.rd A_data_0 (rowC (Eint .u8) l_data_0), .own A8 c9 (rowC (Eint .u8) l13) 5 (Eint .u8).sz, .box g18 [.slice A8 l13.length c9, .int .i64 0] 102] := HS17
    refine F_val rfl rfl rfl (O_assign rfl rfl) ?_
    refine F_nil ?_
    refine L_ret (fun a ha => (post_ret1 ha rfl rfl ?_))
    obtain rfl := Option.some.inj H
    exact ⟨_, _, _, rfl, HS17.sel [2, 1] rfl⟩

/-! function 30: (*valise/bits.Reader).Left -/
theorem bits_Reader_Left.calls {S0 : Nat → Prop} {w0 : World} {g_r_0 : Nat} {A_r_0_data : Option Addr} {c_r_0_data : Nat} {r_0_data : List Int} {r_0_at : Int} {r : Int} (HS0 : Hp S0 w0 w0 [.rd (some ⟨g_r_0, 0, none⟩) [.slice A_r_0_data r_0_data.length c_r_0_data, .int .i64 r_0_at], .rd A_r_0_data (rowC (Eint .u8) r_0_data)]) (h : bits_Reader_Left.f r_0_data r_0_at = some r) :
    Calls Try.prog 30 ([.pointer (some ⟨g_r_0, 0, none⟩)] : List Value).toArray w0 (fun e w => e = .returned (.int .i64 r) ∧ Hp S0 w0 w []) := by
  have H : ((some (IntKind.i64.wrap ((IntKind.i64.wrap (8 * (r_0_data.length : Int))) - r_0_at))) : Option (Int)) = some r := h
  refine calls_start Try.func30 rfl rfl ?_
  refine L_seq ?_
  refine L_region ?_
  refine F_val rfl rfl rfl (O_assign rfl rfl) ?_
  refine F_nil ?_
  refine L_seq ?_
  refine L_seq ?_
  refine L_region ?_
  refine F_val rfl rfl rfl (O_move rfl rfl) ?_
  refine F_val rfl rfl rfl (O_peq rfl rfl rfl Try.underlying42) ?_
  refine F_nil ?_
  refine L_cond rfl (fun hx => by cases hx) (fun _ => ?_)
  refine L_skip ?_
  refine L_seq ?_
  refine L_quiet mix (by kernel_rfl) ?_
  refine Q_val rfl rfl rfl (fun wq hq => O_move rfl rfl) ?_
  refine Q_val rfl rfl rfl (fun wq hq => O_nilCheck rfl rfl) ?_
  refine Q_val rfl rfl rfl (fun wq hq => O_fieldB rfl rfl field102_0) ?_
  refine Q_val rfl rfl rfl (fun wq hq => O_loadB rfl rfl flat35 ((HS0.keep hq).cells_rd (i := 0) rfl) rfl) ?_
  refine Q_val rfl rfl rfl (fun wq hq => O_len rfl rfl Try.underlying35) ?_
  refine Q_val rfl rfl rfl (fun wq hq => O_mul rfl rfl rfl) ?_
  refine Q_val rfl rfl rfl (fun wq hq => O_move rfl rfl) ?_
  refine Q_val rfl rfl rfl (fun wq hq => O_nilCheck rfl rfl) ?_
  refine Q_val rfl rfl rfl (fun wq hq => O_fieldB rfl rfl field102_1) ?_
  refine Q_val rfl rfl rfl (fun wq hq => O_loadB rfl rfl flat3 ((HS0.keep hq).cells_rd (i := 0) rfl) rfl) ?_
  refine Q_val rfl rfl rfl (fun wq hq => O_sub rfl rfl rfl) ?_
  refine Q_val rfl rfl rfl (fun wq hq => O_assign rfl rfl) ?_
  refine Q_nil (fun w1 hw2 => ?_)
  have HS3 := HS0.keep hw2
  refine L_ret (fun a ha => (post_ret1 ha rfl rfl ?_))
  obtain rfl := Option.some.inj H
  exact ⟨rfl, HS3.sel [] rfl⟩

/-! function 32: (*valise/bits.Reader).Skip -/
theorem bits_Reader_Skip.calls {S0 : Nat → Prop} {w0 : World} {g_r_0 : Nat} {A_r_0_data : Option Addr} {c_r_0_data : Nat} {r_0_data : List Int} {r_0_at : Int} {n_1 : Int} {r : Int × List Int × Int} (HS0 : Hp S0 w0 w0 [.box g_r_0 [.slice A_r_0_data r_0_data.length c_r_0_data, .int .i64 r_0_at] 102, .own A_r_0_data c_r_0_data (rowC (Eint .u8) r_0_data) 5 (Eint .u8).sz]) (h : bits_Reader_Skip.f r_0_data r_0_at n_1 = some r) :
    Calls Try.prog 32 ([.pointer (some ⟨g_r_0, 0, none⟩), .int .i64 n_1] : List Value).toArray w0 (fun e w => ∃ (A_r_0_data' : Option Addr), ∃ (c_r_0_data' : Nat), e = .returned (.int .i64 r.1) ∧ Hp S0 w0 w [.box g_r_0 [.slice A_r_0_data' r.2.1.length c_r_0_data', .int .i64 r.2.2] 102, .own A_r_0_data' c_r_0_data' (rowC (Eint .u8) r.2.1) 5 (Eint .u8).sz]) := by
  have H : ((if n_1 < 0 then (some (1, r_0_data, r_0_at)) else ((bits_Reader_Left.f r_0_data r_0_at).bind fun z6 => if z6 < n_1 then (some (30, r_0_data, r_0_at)) else (some (0, r_0_data, IntKind.i64.wrap (r_0_at + n_1))))) : Option (Int × List Int × Int)) = some r := h
  refine calls_start Try.func32 rfl rfl ?_
  refine L_seq ?_
  refine L_region ?_
  refine F_val rfl rfl rfl (O_assign rfl rfl) ?_
  refine F_nil ?_
  refine L_seq ?_
  refine L_seq ?_
  refine L_region ?_
  refine F_val rfl rfl rfl (O_move rfl rfl) ?_
  refine F_val rfl rfl rfl (O_peq rfl rfl rfl Try.underlying42) ?_
  refine F_val rfl rfl rfl (O_move rfl rfl) ?_
  refine F_gval rfl rfl rfl rfl rfl rfl (O_move rfl rfl) ?_
  refine F_gval rfl rfl rfl rfl rfl rfl (O_lt rfl rfl rfl) ?_
  refine F_val rfl rfl rfl (O_pickF rfl rfl rfl) ?_
  refine F_nil ?_
  refine L_condP rfl (fun c1 => ?_) (fun c1 => ?_)
  · have H := of_pos H c1
    refine L_seq ?_
    refine L_region ?_
    refine F_val rfl rfl rfl (O_assign rfl rfl) ?_
    refine F_nil ?_
    refine L_ret (fun a ha => (post_ret1 ha rfl rfl ?_))
    obtain rfl := Option.some.inj H
    exact ⟨_, _, rfl, HS0.sel [0, 1] rfl⟩
  · have H := of_neg H c1
    refine L_skip ?_
    refine L_seq ?_
    refine L_seq ?_
    refine L_region ?_
    refine F_val rfl rfl rfl (O_move rfl rfl) ?_
    refine F_val rfl rfl rfl (O_move rfl rfl) ?_
    obtain ⟨z6, h5, H⟩ := of_bind H
    refine F_call (xs := [.tmp 12]) rfl rfl rfl rfl Try.func30 nm30 rfl rfl ((bits_Reader_Left.calls (HS0.give [] rfl (Lent.box HS0 (Lent.own HS0 (Lent.nil) (i := 1) rfl rfl ((HS0.cells_own (i := 1) rfl).self)) (i := 0) rfl rfl (HS0.cells_box (i := 0) rfl).self)) h5).mono (fun e w hc => ?_))
    obtain ⟨rfl, HSo⟩ := hc
    refine ⟨.int .i64 z6, rfl, ?_⟩
    have HS8 : Hp S0 w0 w [.box g_r_0 [.slice A_r_0_data r_0_data.length c_r_0_data, .int .i64 r_0_at] 102, .own A_r_0_data c_r_0_data (rowC (Eint .u8) r_0_data) 5 (Eint .u8).sz] := (HS0.back [] HSo rfl).sel [0, 1] rfl
    refine F_val rfl rfl rfl (O_gt rfl rfl rfl) ?_
    refine F_nil ?_
    refine L_condP rfl (fun c9 => ?_) (fun c9 => ?_)
    · have H := of_pos H c9
      refine L_seq ?_
      refine L_region ?_
      refine F_val rfl rfl rfl (O_assign rfl rfl) ?_
      refine F_nil ?_
      refine L_ret (fun a ha => (post_ret1 ha rfl rfl ?_))
      obtain rfl := Option.some.inj H
      exact ⟨_, _, rfl, HS8.sel [0, 1] rfl⟩
    · have H := of_neg H c9
      refine L_skip ?_
      refine L_seq ?_
      refine L_region ?_
      refine F_val rfl rfl rfl (O_move rfl rfl) ?_
      refine F_val rfl rfl rfl (O_nilCheck rfl rfl) ?_
      refine F_val rfl rfl rfl (O_fieldB rfl rfl field102_1) ?_
      refine F_val rfl rfl rfl (O_loadB rfl rfl flat3 (HS8.cells_box (i := 0) rfl) rfl) ?_
      refine F_val rfl rfl rfl (O_move rfl rfl) ?_
      refine F_val rfl rfl rfl (O_add rfl rfl rfl) ?_
      refine F_val rfl rfl rfl (O_nilCheck rfl rfl) ?_
      refine F_val rfl rfl rfl (O_fieldB rfl rfl field102_1) ?_
      refine F_stB 0 ([.slice A_r_0_data r_0_data.length c_r_0_data, .int .i64 (IntKind.i64.wrap (r_0_at + n_1))]) rfl rfl rfl rfl rfl size3 HS8 rfl rfl rfl rfl rfl (fun w10 HS11 => ?_)
      have HS11 : Hp S0 w0 w10 [.box g_r_0 [.slice A_r_0_data r_0_data.length c_r_0_data, .int .i64 (IntKind.i64.wrap (r_0_at + n_1))] 102, .own A_r_0_data c_r_0_data (rowC (Eint .u8) r_0_data) 5 (Eint .u8).sz] := HS11
      refine F_nil ?_
      refine L_seq ?_
      refine L_region ?_
      refine F_val rfl rfl rfl (O_assign rfl rfl) ?_
      refine F_nil ?_
      refine L_ret (fun a ha => (post_ret1 ha rfl rfl ?_))
      obtain rfl := Option.some.inj H
      exact ⟨_, _, rfl, HS11.sel [0, 1] rfl⟩

/-! function 57: (*valise/bits.Reader).ahead -/
theorem bits_Reader_ahead.calls {S0 : Nat → Prop} {w0 : World} {g_r_0 : Nat} {A_r_0_data : Option Addr} {c_r_0_data : Nat} {r_0_data : List Int} {r_0_at : Int} {n_1 : Int} {r : Int} (HS0 : Hp S0 w0 w0 [.rd (some ⟨g_r_0, 0, none⟩) [.slice A_r_0_data r_0_data.length c_r_0_data, .int .i64 r_0_at], .rd A_r_0_data (rowC (Eint .u8) r_0_data)]) (h : bits_Reader_ahead.f r_0_data r_0_at n_1 = some r) :
    Calls Try.prog 57 ([.pointer (some ⟨g_r_0, 0, none⟩), .int .i64 n_1] : List Value).toArray w0 (fun e w => e = .returned (.int .u32 r) ∧ Hp S0 w0 w []) := by
  have H : (((bits_Reader_ahead.l1 FU 0 0 r_0_at r_0_data n_1).bind fun v_72 => some (IntKind.u32.wrap v_72)) : Option (Int)) = some r := h
  refine calls_start Try.func57 rfl rfl ?_
  refine L_seq ?_
  refine L_region ?_
  refine F_val rfl rfl rfl (O_assign rfl rfl) ?_
  refine F_nil ?_
  refine L_seq ?_
  refine L_region ?_
  refine F_val rfl rfl rfl (O_assign rfl rfl) ?_
  refine F_nil ?_
  refine L_seq ?_
  refine L_region ?_
  refine F_val rfl rfl rfl (O_assign rfl rfl) ?_
  refine F_nil ?_
  refine L_seq ?_
  refine L_seq ?_
  refine L_region ?_
  refine F_val rfl rfl rfl (O_move rfl rfl) ?_
  refine F_val rfl rfl rfl (O_nilCheck rfl rfl) ?_
  refine F_val rfl rfl rfl (O_fieldB rfl rfl field102_1) ?_
  refine F_val rfl rfl rfl (O_loadB rfl rfl flat3 (HS0.cells_rd (i := 0) rfl) rfl) ?_
  refine F_val rfl rfl rfl (O_assign rfl rfl) ?_
  refine F_nil ?_
  obtain ⟨yj1, Hyj1, H⟩ := of_bind H
  refine L_join (fun a w => ∃ (v_72 : Int), yj1 = v_72 ∧ Is Try.f57.ntmps a [(5, .int .u64 v_72)] ∧ Hp S0 w0 w [.rd (some ⟨g_r_0, 0, none⟩) [.slice A_r_0_data r_0_data.length c_r_0_data, .int .i64 r_0_at], .rd A_r_0_data (rowC (Eint .u8) r_0_data)]) (fun Qj1 hNj1 hOj1 => ?_) (fun a w hR => ?_)
  · skip
    have H := Hyj1
    refine L_blk (fun Qb73 hNb73 hXb73 hOb73 => ?_)
    refine L_lp (fun k a w => ∃ (v_118 : Int), ∃ (got_119 : Int), ∃ (at_120 : Int), Is Try.f57.ntmps a [(0, .pointer (some ⟨g_r_0, 0, none⟩)), (1, .int .i64 n_1), (5, .int .u64 v_118), (6, .int .i64 got_119), (7, .int .i64 at_120)] ∧ Hp S0 w0 w [.rd (some ⟨g_r_0, 0, none⟩) [.slice A_r_0_data r_0_data.length c_r_0_data, .int .i64 r_0_at], .rd A_r_0_data (rowC (Eint .u8) r_0_data)] ∧ bits_Reader_ahead.l1 k v_118 got_119 at_120 r_0_data n_1 = some yj1) FU (fun a ha => ⟨_, _, _, Is.cons ha (Is.cons ha (Is.cons ha (Is.cons ha (Is.cons ha (Is.nil ha) rfl) rfl) rfl) rfl) rfl, HS0.sel [0, 1] rfl, H⟩) (fun kp117 a w121 hI Qp117 hNp117 hOp117 => ?_)
    obtain ⟨v_118, got_119, at_120, ha, HS122, HAp117⟩ := hI
    cases kp117 with
    | zero => cases (show (none : Option _) = some _ from HAp117)
    | succ kp117 =>
      have H := (bits_Reader_ahead.l1.eq_2 ..).symm.trans HAp117
      refine wpLF_app ?_ ha
      refine L_seq ?_
      refine L_seq ?_
      refine L_region ?_
      refine F_val rfl rfl rfl (O_move rfl rfl) ?_
      refine F_val rfl rfl rfl (O_move rfl rfl) ?_
      refine F_val rfl rfl rfl (O_lt rfl rfl rfl) ?_
      refine F_val rfl rfl rfl (O_move rfl rfl) ?_
      refine F_grp 9 [(27, .bool (decide ((got_119 < n_1) ∧ (at_120 < IntKind.i64.wrap (8 * (r_0_data.length : Int)))))), (0, .pointer (some ⟨g_r_0, 0, none⟩)), (1, .int .i64 n_1), (5, .int .u64 v_118), (6, .int .i64 got_119), (7, .int .i64 at_120)] ?_ ?_
      · rcases Decidable.em (got_119 < n_1) with c123 | c123
        · refine F_know (i := 18) rfl (dec_t c123) ?_
          refine F_gval rfl rfl rfl rfl rfl rfl (O_move rfl rfl) ?_
          refine F_gval rfl rfl rfl rfl rfl rfl (O_move rfl rfl) ?_
          refine F_gval rfl rfl rfl rfl rfl rfl (O_nilCheck rfl rfl) ?_
          refine F_gval rfl rfl rfl rfl rfl rfl (O_fieldB rfl rfl field102_0) ?_
          refine F_gval rfl rfl rfl rfl rfl rfl (O_loadB rfl rfl flat35 (HS122.cells_rd (i := 0) rfl) rfl) ?_
          refine F_gval rfl rfl rfl rfl rfl rfl (O_len rfl rfl Try.underlying35) ?_
          refine F_gval rfl rfl rfl rfl rfl rfl (O_mul rfl rfl rfl) ?_
          refine F_gval rfl rfl rfl rfl rfl rfl (O_lt rfl rfl rfl) ?_
          refine F_val rfl rfl rfl (O_pickT rfl rfl rfl) ?_
          refine F_know (i := 27) rfl (dec_and_t (q := at_120 < IntKind.i64.wrap (8 * (r_0_data.length : Int))) c123) ?_
          exact F_grpE (fun a ha => Is.cons ha (Is.cons ha (Is.cons ha (Is.cons ha (Is.cons ha (Is.cons ha (Is.nil ha) rfl) rfl) rfl) rfl) rfl) rfl)
        · refine F_know (i := 18) rfl (dec_f c123) ?_
          refine F_gskip rfl rfl rfl rfl rfl rfl rfl ?_
          refine F_gskip rfl rfl rfl rfl rfl rfl rfl ?_
          refine F_gskip rfl rfl rfl rfl rfl rfl rfl ?_
          refine F_gskip rfl rfl rfl rfl rfl rfl rfl ?_
          refine F_gskip rfl rfl rfl rfl rfl rfl rfl ?_
          refine F_gskip rfl rfl rfl rfl rfl rfl rfl ?_
          refine F_gskip rfl rfl rfl rfl rfl rfl rfl ?_
          refine F_gskip rfl rfl rfl rfl rfl rfl rfl ?_
          refine F_val rfl rfl rfl (O_pickF rfl rfl rfl) ?_
          refine F_know (i := 27) rfl (dec_and_f (q := at_120 < IntKind.i64.wrap (8 * (r_0_data.length : Int))) c123) ?_
          exact F_grpE (fun a ha => Is.cons ha (Is.cons ha (Is.cons ha (Is.cons ha (Is.cons ha (Is.cons ha (Is.nil ha) rfl) rfl) rfl) rfl) rfl) rfl)
      · skip
        refine F_nil ?_
        refine L_condP rfl (fun c124 => ?_) (fun c124 => ?_)
        · have H := of_pos H c124
          refine L_skip ?_
          refine L_blk (fun Q125 hN125 hX125 hO125 => ?_)
          refine L_seq ?_
          refine L_region ?_
          refine F_val rfl rfl rfl (O_move rfl rfl) ?_
          refine F_val rfl rfl rfl (O_rem rfl rfl rfl (by decide)) ?_
          obtain ⟨x126, h127, H⟩ := of_bnd H
          refine F_val rfl rfl rfl (O_assign' rfl rfl (congrArg (Value.int .i64) h127)) ?_
          refine F_nil ?_
          refine L_seq ?_
          refine L_region ?_
          refine F_val rfl rfl rfl (O_move rfl rfl) ?_
          refine F_val rfl rfl rfl (O_sub rfl rfl rfl) ?_
          refine F_val rfl rfl rfl (O_move rfl rfl) ?_
          refine F_val rfl rfl rfl (O_move rfl rfl) ?_
          refine F_val rfl rfl rfl (O_sub rfl rfl rfl) ?_
          refine F_val rfl rfl rfl (O_min rfl rfl rfl) ?_
          obtain ⟨x128, h129, H⟩ := of_bnd H
          refine F_val rfl rfl rfl (O_assign' rfl rfl (congrArg (Value.int .i64) h129)) ?_
          refine F_nil ?_
          refine L_seq ?_
          refine L_region ?_
          refine F_val rfl rfl rfl (O_move rfl rfl) ?_
          refine F_val rfl rfl rfl (O_nilCheck rfl rfl) ?_
          refine F_val rfl rfl rfl (O_fieldB rfl rfl field102_0) ?_
          refine F_val rfl rfl rfl (O_loadB rfl rfl flat35 (HS122.cells_rd (i := 0) rfl) rfl) ?_
          refine F_val rfl rfl rfl (O_move rfl rfl) ?_
          refine F_val rfl rfl rfl (O_quo rfl rfl rfl (by decide)) ?_
          obtain ⟨⟨g130, g131⟩, H⟩ := of_gd H
          refine F_val rfl rfl rfl (O_idx rfl rfl rfl Try.underlying35 size5 g130 g131 (Cells.isA (HS122.cells_rd (i := 1) rfl) (rowC_ne (E := (Eint .u8)) g130 g131 (by decide)))) ?_
          refine F_val rfl rfl rfl (O_loadC rfl rfl flat5 (HS122.cells_rd (i := 1) rfl) (int_cell g130 g131)) ?_
          refine F_val rfl rfl rfl (O_move rfl rfl) ?_
          refine F_val rfl rfl rfl (O_conv rfl rfl ⟨_, Try.underlying3⟩ Try.underlying75) ?_
          obtain ⟨g132, H⟩ := of_gd H
          refine F_val rfl rfl rfl (O_shr rfl rfl rfl g132) ?_
          refine F_val rfl rfl rfl (O_conv rfl rfl ⟨_, Try.underlying5⟩ Try.underlying87) ?_
          refine F_val rfl rfl rfl (O_move rfl rfl) ?_
          refine F_val rfl rfl rfl (O_conv rfl rfl ⟨_, Try.underlying3⟩ Try.underlying75) ?_
          obtain ⟨g133, H⟩ := of_gd H
          refine F_val rfl rfl rfl (O_shl rfl rfl rfl g133) ?_
          refine F_val rfl rfl rfl (O_sub rfl rfl rfl) ?_
          refine F_val rfl rfl rfl (O_and rfl rfl rfl) ?_
          obtain ⟨x134, h135, H⟩ := of_bnd H
          refine F_val rfl rfl rfl (O_assign' rfl rfl (congrArg (Value.int .u64) h135)) ?_
          refine F_nil ?_
          refine L_seq ?_
          refine L_region ?_
          refine F_val rfl rfl rfl (O_move rfl rfl) ?_
          refine F_val rfl rfl rfl (O_move rfl rfl) ?_
          refine F_val rfl rfl rfl (O_move rfl rfl) ?_
          refine F_val rfl rfl rfl (O_conv rfl rfl ⟨_, Try.underlying3⟩ Try.underlying75) ?_
          obtain ⟨g136, H⟩ := of_gd H
          refine F_val rfl rfl rfl (O_shl rfl rfl rfl g136) ?_
          refine F_val rfl rfl rfl (O_or rfl rfl rfl) ?_
          obtain ⟨x137, h138, H⟩ := of_bnd H
          refine F_val rfl rfl rfl (O_assign' rfl rfl (congrArg (Value.int .u64) h138)) ?_
          refine F_nil ?_
          refine L_seq ?_
          refine L_region ?_
          refine F_val rfl rfl rfl (O_move rfl rfl) ?_
          refine F_val rfl rfl rfl (O_move rfl rfl) ?_
          refine F_val rfl rfl rfl (O_add rfl rfl rfl) ?_
          obtain ⟨x139, h140, H⟩ := of_bnd H
          refine F_val rfl rfl rfl (O_assign' rfl rfl (congrArg (Value.int .i64) h140)) ?_
          refine F_nil ?_
          refine L_region ?_
          refine F_val rfl rfl rfl (O_move rfl rfl) ?_
          refine F_val rfl rfl rfl (O_move rfl rfl) ?_
          refine F_val rfl rfl rfl (O_add rfl rfl rfl) ?_
          obtain ⟨x141, h142, H⟩ := of_bnd H
          refine F_val rfl rfl rfl (O_assign' rfl rfl (congrArg (Value.int .i64) h142)) ?_
          refine F_nil ?_
          refine L_endB hN125 ?_
          refine L_nil (fun a ha => hNp117 _ a _ (Nat.lt_succ_self _) ⟨_, _, _, Is.cons ha (Is.cons ha (Is.cons ha (Is.cons ha (Is.cons ha (Is.nil ha) rfl) rfl) rfl) rfl) rfl, HS122.sel [0, 1] rfl, H⟩)
        · have H := of_neg H c124
          refine L_exitB (fun a w h => hOp117 (.exit 0) a w rfl (hXb73 a w h)) ?_
          refine L_nil (fun a ha => hNj1 a _ ⟨_, (Option.some.inj H).symm, Is.cons ha (Is.nil ha) rfl, HS122.sel [0, 1] rfl⟩)
  · obtain ⟨v_72, ej, ha, HS144⟩ := hR
    obtain rfl := ej.symm
    refine wpLF_app ?_ ha
    refine L_seq ?_
    refine L_region ?_
    refine F_val rfl rfl rfl (O_move rfl rfl) ?_
    refine F_val rfl rfl rfl (O_conv rfl rfl ⟨_, Try.underlying87⟩ Try.underlying22) ?_
    refine F_val rfl rfl rfl (O_assign rfl rfl) ?_
    refine F_nil ?_
    refine L_ret (fun a ha => (post_ret1 ha rfl rfl ?_))
    obtain rfl := Option.some.inj H
    exact ⟨rfl, HS144.sel [] rfl⟩

/-! function 31: (*valise/bits.Reader).Take -/
theorem bits_Reader_Take.calls {S0 : Nat → Prop} {w0 : World} {g_r_0 : Nat} {A_r_0_data : Option Addr} {c_r_0_data : Nat} {r_0_data : List Int} {r_0_at : Int} {n_1 : Int} {r : Int × Int × List Int × Int} (HS0 : Hp S0 w0 w0 [.box g_r_0 [.slice A_r_0_data r_0_data.length c_r_0_data, .int .i64 r_0_at] 102, .own A_r_0_data c_r_0_data (rowC (Eint .u8) r_0_data) 5 (Eint .u8).sz]) (h : bits_Reader_Take.f r_0_data r_0_at n_1 = some r) :
    Calls Try.prog 31 ([.pointer (some ⟨g_r_0, 0, none⟩), .int .i64 n_1] : List Value).toArray w0 (fun e w => ∃ (A_r_0_data' : Option Addr), ∃ (c_r_0_data' : Nat), e = .returned (.tuple #[.int .u32 r.1, .int .i64 r.2.1]) ∧ Hp S0 w0 w [.box g_r_0 [.slice A_r_0_data' r.2.2.1.length c_r_0_data', .int .i64 r.2.2.2] 102, .own A_r_0_data' c_r_0_data' (rowC (Eint .u8) r.2.2.1) 5 (Eint .u8).sz]) := by
  have H : ((if (n_1 < 0) ∨ (32 < n_1) then (some (0, 1, r_0_data, r_0_at)) else ((bits_Reader_Left.f r_0_data r_0_at).bind fun z7 => if z7 < n_1 then (some (0, 30, r_0_data, r_0_at)) else ((bits_Reader_ahead.f r_0_data r_0_at n_1).bind fun z15 => some (z15, 0, r_0_data, IntKind.i64.wrap (r_0_at + n_1))))) : Option (Int × Int × List Int × Int)) = some r := h
  refine calls_start Try.func31 rfl rfl ?_
  refine L_seq ?_
  refine L_region ?_
  refine F_val rfl rfl rfl (O_assign rfl rfl) ?_
  refine F_val rfl rfl rfl (O_assign rfl rfl) ?_
  refine F_nil ?_
  refine L_seq ?_
  refine L_seq ?_
  refine L_region ?_
  refine F_val rfl rfl rfl (O_move rfl rfl) ?_
  refine F_val rfl rfl rfl (O_peq rfl rfl rfl Try.underlying42) ?_
  refine F_val rfl rfl rfl (O_move rfl rfl) ?_
  refine F_gval rfl rfl rfl rfl rfl rfl (O_move rfl rfl) ?_
  refine F_gval rfl rfl rfl rfl rfl rfl (O_lt rfl rfl rfl) ?_
  refine F_val rfl rfl rfl (O_pickF rfl rfl rfl) ?_
  refine F_val rfl rfl rfl (O_move rfl rfl) ?_
  refine F_grp 3 [(16, .bool (decide ((n_1 < 0) ∨ (32 < n_1)))), (0, .pointer (some ⟨g_r_0, 0, none⟩)), (1, .int .i64 n_1)] ?_ ?_
  · rcases Decidable.em (n_1 < 0) with c1 | c1
    · refine F_know (i := 13) rfl (dec_t c1) ?_
      refine F_gskip rfl rfl rfl rfl rfl rfl rfl ?_
      refine F_gskip rfl rfl rfl rfl rfl rfl rfl ?_
      refine F_val rfl rfl rfl (O_pickT rfl rfl rfl) ?_
      refine F_know (i := 16) rfl (dec_or_t (q := 32 < n_1) c1) ?_
      exact F_grpE (fun a ha => Is.cons ha (Is.cons ha (Is.cons ha (Is.nil ha) rfl) rfl) rfl)
    · refine F_know (i := 13) rfl (dec_f c1) ?_
      refine F_gval rfl rfl rfl rfl rfl rfl (O_move rfl rfl) ?_
      refine F_gval rfl rfl rfl rfl rfl rfl (O_gt rfl rfl rfl) ?_
      refine F_val rfl rfl rfl (O_pickF rfl rfl rfl) ?_
      refine F_know (i := 16) rfl (dec_or_f (q := 32 < n_1) c1) ?_
      exact F_grpE (fun a ha => Is.cons ha (Is.cons ha (Is.cons ha (Is.nil ha) rfl) rfl) rfl)
  · skip
    refine F_nil ?_
    refine L_condP rfl (fun c2 => ?_) (fun c2 => ?_)
    · have H := of_pos H c2
      refine L_seq ?_
      refine L_region ?_
      refine F_val rfl rfl rfl (O_assign rfl rfl) ?_
      refine F_val rfl rfl rfl (O_assign rfl rfl) ?_
      refine F_nil ?_
      refine L_ret (fun a ha => (post_ret2 ha rfl rfl rfl ?_))
      obtain rfl := Option.some.inj H
      exact ⟨_, _, rfl, HS0.sel [0, 1] rfl⟩
    · have H := of_neg H c2
      refine L_skip ?_
      refine L_seq ?_
      refine L_seq ?_
      refine L_region ?_
      refine F_val rfl rfl rfl (O_move rfl rfl) ?_
      refine F_val rfl rfl rfl (O_move rfl rfl) ?_
      obtain ⟨z7, h6, H⟩ := of_bind H
      refine F_call (xs := [.tmp 18]) rfl rfl rfl rfl Try.func30 nm30 rfl rfl ((bits_Reader_Left.calls (HS0.give [] rfl (Lent.box HS0 (Lent.own HS0 (Lent.nil) (i := 1) rfl rfl ((HS0.cells_own (i := 1) rfl).self)) (i := 0) rfl rfl (HS0.cells_box (i := 0) rfl).self)) h6).mono (fun e w hc => ?_))
      obtain ⟨rfl, HSo⟩ := hc
      refine ⟨.int .i64 z7, rfl, ?_⟩
      have HS9 : Hp S0 w0 w [.box g_r_0 [.slice A_r_0_data r_0_data.length c_r_0_data, .int .i64 r_0_at] 102, .own A_r_0_data c_r_0_data (rowC (Eint .u8) r_0_data) 5 (Eint .u8).sz] := (HS0.back [] HSo rfl).sel [0, 1] rfl
      refine F_val rfl rfl rfl (O_gt rfl rfl rfl) ?_
      refine F_nil ?_
      refine L_condP rfl (fun c10 => ?_) (fun c10 => ?_)
      · have H := of_pos H c10
        refine L_seq ?_
        refine L_region ?_
        refine F_val rfl rfl rfl (O_assign rfl rfl) ?_
        refine F_val rfl rfl rfl (O_assign rfl rfl) ?_
        refine F_nil ?_
        refine L_ret (fun a ha => (post_ret2 ha rfl rfl rfl ?_))
        obtain rfl := Option.some.inj H
        exact ⟨_, _, rfl, HS9.sel [0, 1] rfl⟩
      · have H := of_neg H c10
        refine L_skip ?_
        refine L_seq ?_
        refine L_region ?_
        refine F_val rfl rfl rfl (O_move rfl rfl) ?_
        refine F_val rfl rfl rfl (O_move rfl rfl) ?_
        obtain ⟨z15, h14, H⟩ := of_bind H
        refine F_call (xs := [.tmp 21, .tmp 22]) rfl rfl rfl rfl Try.func57 nm57 rfl rfl ((bits_Reader_ahead.calls (HS9.give [] rfl (Lent.box HS9 (Lent.own HS9 (Lent.nil) (i := 1) rfl rfl ((HS9.cells_own (i := 1) rfl).self)) (i := 0) rfl rfl (HS9.cells_box (i := 0) rfl).self)) h14).mono (fun e w hc => ?_))
        obtain ⟨rfl, HSo⟩ := hc
        refine ⟨.int .u32 z15, rfl, ?_⟩
        have HS17 : Hp S0 w0 w [.box g_r_0 [.slice A_r_0_data r_0_data.length c_r_0_data, .int .i64 r_0_at] 102, .own A_r_0_data c_r_0_data (rowC (Eint .u8) r_0_data) 5 (Eint .u8).sz] := (HS9.back [] HSo rfl).sel [0, 1] rfl
        refine F_val rfl rfl rfl (O_assign rfl rfl) ?_
        refine F_nil ?_
        refine L_seq ?_
        refine L_region ?_
        refine F_val rfl rfl rfl (O_move rfl rfl) ?_
        refine F_val rfl rfl rfl (O_nilCheck rfl rfl) ?_
        refine F_val rfl rfl rfl (O_fieldB rfl rfl field102_1) ?_
        refine F_val rfl rfl rfl (O_loadB rfl rfl flat3 (HS17.cells_box (i := 0) rfl) rfl) ?_
        refine F_val rfl rfl rfl (O_move rfl rfl) ?_
        refine F_val rfl rfl rfl (O_add rfl rfl rfl) ?_
        refine F_val rfl rfl rfl (O_nilCheck rfl rfl) ?_
        refine F_val rfl rfl rfl (O_fieldB rfl rfl field102_1) ?_
        refine F_stB 0 ([.slice A_r_0_data r_0_data.length c_r_0_data, .int .i64 (IntKind.i64.wrap (r_0_at + n_1))]) rfl rfl rfl rfl rfl size3 HS17 rfl rfl rfl rfl rfl (fun w18 HS19 => ?_)
        have HS19 : Hp S0 w0 w18 [.box g_r_0 [.slice A_r_0_data r_0_data.length c_r_0_data, .int .i64 (IntKind.i64.wrap (r_0_at + n_1))] 102, .own A_r_0_data c_r_0_data (rowC (Eint .u8) r_0_data) 5 (Eint .u8).sz] := HS19
        refine F_nil ?_
        refine L_seq ?_
        refine L_region ?_
        refine F_val rfl rfl rfl (O_move rfl rfl) ?_
        refine F_val rfl rfl rfl (O_assign rfl rfl) ?_
        refine F_val rfl rfl rfl (O_assign rfl rfl) ?_
        refine F_nil ?_
        refine L_ret (fun a ha => (post_ret2 ha rfl rfl rfl ?_))
        obtain rfl := Option.some.inj H
        exact ⟨_, _, rfl, HS19.sel [0, 1] rfl⟩

/-! function 29: (*valise/bits.Reader).At -/
theorem bits_Reader_At.calls {S0 : Nat → Prop} {w0 : World} {g_r_0 : Nat} {A_r_0_data : Option Addr} {c_r_0_data : Nat} {r_0_data : List Int} {r_0_at : Int} {r : Int} (HS0 : Hp S0 w0 w0 [.rd (some ⟨g_r_0, 0, none⟩) [.slice A_r_0_data r_0_data.length c_r_0_data, .int .i64 r_0_at], .rd A_r_0_data (rowC (Eint .u8) r_0_data)]) (h : bits_Reader_At.f r_0_data r_0_at = some r) :
    Calls Try.prog 29 ([.pointer (some ⟨g_r_0, 0, none⟩)] : List Value).toArray w0 (fun e w => e = .returned (.int .i64 r) ∧ Hp S0 w0 w []) := by
  have H : ((some r_0_at) : Option (Int)) = some r := h
  refine calls_start Try.func29 rfl rfl ?_
  refine L_seq ?_
  refine L_region ?_
  refine F_val rfl rfl rfl (O_assign rfl rfl) ?_
  refine F_nil ?_
  refine L_seq ?_
  refine L_seq ?_
  refine L_region ?_
  refine F_val rfl rfl rfl (O_move rfl rfl) ?_
  refine F_val rfl rfl rfl (O_peq rfl rfl rfl Try.underlying42) ?_
  refine F_nil ?_
  refine L_cond rfl (fun hx => by cases hx) (fun _ => ?_)
  refine L_skip ?_
  refine L_seq ?_
  refine L_region ?_
  refine F_val rfl rfl rfl (O_move rfl rfl) ?_
  refine F_val rfl rfl rfl (O_nilCheck rfl rfl) ?_
  refine F_val rfl rfl rfl (O_fieldB rfl rfl field102_1) ?_
  refine F_val rfl rfl rfl (O_loadB rfl rfl flat3 (HS0.cells_rd (i := 0) rfl) rfl) ?_
  refine F_val rfl rfl rfl (O_assign rfl rfl) ?_
  refine F_nil ?_
  refine L_ret (fun a ha => (post_ret1 ha rfl rfl ?_))
  obtain rfl := Option.some.inj H
  exact ⟨rfl, HS0.sel [] rfl⟩

/-! function 11: valise/valiselaw3.BitsCuts -/
theorem valiselaw3_BitsCuts.calls {S0 : Nat → Prop} {w0 : World} {ahead_0 : Int} {shift_1 : Int} {v_2 : Int} {n_3 : Int} {cut_4 : Int} {r : Bool} (HS0 : Hp S0 w0 w0 []) (h : valiselaw3_BitsCuts.f ahead_0 shift_1 v_2 n_3 cut_4 = some r) :
    Calls Try.prog 11 ([.int .u32 ahead_0, .int .i64 shift_1, .int .u32 v_2, .int .i64 n_3, .int .i64 cut_4] : List Value).toArray w0 (fun e w => e = .returned (.bool r) ∧ Hp S0 w0 w []) := by
  have H : (((valiselaw3_which.f shift_1 8).bind fun z5 => (valiselaw3_width.f n_3).bind fun z12 => (valiselaw3_which.f cut_4 (IntKind.i64.wrap (z12 + 1))).bind fun z19 => (valiselaw3_low.f v_2 z12).bind fun z26 => (bits_NewWriter.f).bind fun (z33, z34) => (bits_NewWriter.f).bind fun (z46, z47) => (valiselaw3_low.f ahead_0 z5).bind fun z59 => (bits_Writer_Put.f z33 z34 z59 z5).bind fun (z66, z67, z68) => if z66 ≠ 0 then (some false) else ((valiselaw3_low.f ahead_0 z5).bind fun z78 => (bits_Writer_Put.f z46 z47 z78 z5).bind fun (z85, z86, z87) => if z85 ≠ 0 then (some false) else ((bits_Writer_Put.f z67 z68 z26 z12).bind fun (z97, z98, z99) => if z97 ≠ 0 then (some false) else ((valiselaw3_low.f z26 z19).bind fun z109 => (bits_Writer_Put.f z86 z87 z109 z19).bind fun (z116, z117, z118) => if z116 ≠ 0 then (some false) else (gd (¬ (IntKind.u64.wrap z19) < 0) ((bits_Writer_Put.f z117 z118 (IntKind.u32.wrap (shr .u64 (IntKind.u64.wrap z26) (IntKind.u64.wrap z19))) (IntKind.i64.wrap (z12 - z19))).bind fun (z129, z130, z131) => if z129 ≠ 0 then (some false) else ((bits_Writer_Len.f z98 z99).bind fun z141 => if z141 ≠ IntKind.i64.wrap (z5 + z12) then (some false) else ((bits_Writer_Len.f z130 z131).bind fun z149 => if z149 ≠ IntKind.i64.wrap (z5 + z12) then (some false) else ((bits_Writer_Bytes.f z98 z99).bind fun z157 => (bits_Writer_Bytes.f z130 z131).bind fun z167 => (valiselaw3_same.f z157 z167).bind fun z177 => if (!z177) = true then (some false) else ((bits_Writer_Bytes.f z98 z99).bind fun z185 => if (z185.length : Int) ≠ IntKind.i64.wrap (Int.tdiv (IntKind.i64.wrap ((IntKind.i64.wrap (z5 + z12)) + 7)) 8) then (some false) else ((bits_Writer_Bytes.f z98 z99).bind fun z196 => (bits_NewReader.f z196).bind fun z206 => onO z206 (some false) fun (z209, z210) => (bits_Reader_Skip.f z209 z210 z5).bind fun (z222, z223, z224) => if z222 ≠ 0 then (some false) else ((bits_Reader_Take.f z223 z224 z19).bind fun (z234, z235, z236, z237) => (bits_Reader_Take.f z236 z237 (IntKind.i64.wrap (z12 - z19))).bind fun (z246, z247, z248, z249) => if (z235 ≠ 0) ∨ (z247 ≠ 0) then (some false) else (if bor .u64 (IntKind.u64.wrap z234) (shl .u64 (IntKind.u64.wrap z246) (IntKind.u64.wrap z19)) = IntKind.u64.wrap z26 then ((bits_Reader_At.f z248 z249).bind fun z261 => some (decide (z261 = IntKind.i64.wrap (z5 + z12)))) else (some false)))))))))))))) : Option (Bool)) = some r := h
  refine calls_start Try.func11 rfl rfl ?_
  refine L_seq ?_
  refine L_region ?_
  refine F_val rfl rfl rfl (O_assign rfl rfl) ?_
  refine F_nil ?_
  refine L_seq ?_
  refine L_region ?_
  refine F_val rfl rfl rfl (O_move rfl rfl) ?_
  obtain ⟨z5, h4, H⟩ := of_bind H
  refine F_call (xs := [.tmp 20, .const (.int .i64 8)]) rfl rfl rfl rfl Try.func44 nm44 rfl rfl ((valiselaw3_which.calls (HS0.give [] rfl (Lent.nil)) h4).mono (fun e w hc => ?_))
  obtain ⟨rfl, HSo⟩ := hc
  refine ⟨.int .i64 z5, rfl, ?_⟩
  have HS7 : Hp S0 w0 w [] := (HS0.back [] HSo rfl).sel [] rfl
  refine F_val rfl rfl rfl (O_assign rfl rfl) ?_
  refine F_nil ?_
  refine L_seq ?_
  refine L_region ?_
  refine F_val rfl rfl rfl (O_move rfl rfl) ?_
  obtain ⟨z12, h11, H⟩ := of_bind H
  refine F_call (xs := [.tmp 22]) rfl rfl rfl rfl Try.func27 nm27 rfl rfl ((valiselaw3_width.calls (HS7.give [] rfl (Lent.nil)) h11).mono (fun e w hc => ?_))
  obtain ⟨rfl, HSo⟩ := hc
  refine ⟨.int .i64 z12, rfl, ?_⟩
  have HS14 : Hp S0 w0 w [] := (HS7.back [] HSo rfl).sel [] rfl
  refine F_val rfl rfl rfl (O_assign rfl rfl) ?_
  refine F_nil ?_
  refine L_seq ?_
  refine L_region ?_
  refine F_val rfl rfl rfl (O_move rfl rfl) ?_
  refine F_val rfl rfl rfl (O_move rfl rfl) ?_
  refine F_val rfl rfl rfl (O_add rfl rfl rfl) ?_
  obtain ⟨z19, h18, H⟩ := of_bind H
  refine F_call (xs := [.tmp 24, .tmp 26]) rfl rfl rfl rfl Try.func44 nm44 rfl rfl ((valiselaw3_which.calls (HS14.give [] rfl (Lent.nil)) h18).mono (fun e w hc => ?_))
  obtain ⟨rfl, HSo⟩ := hc
  refine ⟨.int .i64 z19, rfl, ?_⟩
  have HS21 : Hp S0 w0 w [] := (HS14.back [] HSo rfl).sel [] rfl
  refine F_val rfl rfl rfl (O_assign rfl rfl) ?_
  refine F_nil ?_
  refine L_seq ?_
  refine L_region ?_
  refine F_val rfl rfl rfl (O_move rfl rfl) ?_
  refine F_val rfl rfl rfl (O_move rfl rfl) ?_
  obtain ⟨z26, h25, H⟩ := of_bind H
  refine F_call (xs := [.tmp 28, .tmp 29]) rfl rfl rfl rfl Try.func20 nm20 rfl rfl ((valiselaw3_low.calls (HS21.give [] rfl (Lent.nil)) h25).mono (fun e w hc => ?_))
  obtain ⟨rfl, HSo⟩ := hc
  refine ⟨.int .u32 z26, rfl, ?_⟩
  have HS28 : Hp S0 w0 w [] := (HS21.back [] HSo rfl).sel [] rfl
  refine F_val rfl rfl rfl (O_assign rfl rfl) ?_
  refine F_nil ?_
  refine L_seq ?_
  refine L_region ?_
  obtain ⟨⟨z33, z34⟩, h32, H⟩ := of_bind H
  refine F_call (xs := []) rfl rfl rfl rfl Try.func18 nm18 rfl rfl ((bits_NewWriter.calls (HS28.give [] rfl (Lent.nil)) h32).mono (fun e w hc => ?_))
  obtain ⟨g37, A39, c40, rfl, HSo⟩ := hc
  refine ⟨.pointer (some ⟨g37, 0, none⟩), rfl, ?_⟩
  have HS36 : Hp S0 w0 w [.box g37 [.slice A39 z33.length c40, .int .i64 z34] 99, .own A39 c40 (rowC (Eint .u8) z33) 5 (Eint .u8).sz] := (HS28.back [] HSo rfl).sel [0, 1] rfl
  refine F_val rfl rfl rfl (O_assign rfl rfl) ?_
  refine F_nil ?_
  refine L_seq ?_
  refine L_region ?_
  obtain ⟨⟨z46, z47⟩, h45, H⟩ := of_bind H
  refine F_call (xs := []) rfl rfl rfl rfl Try.func18 nm18 rfl rfl ((bits_NewWriter.calls (HS36.give [] rfl (Lent.nil)) h45).mono (fun e w hc => ?_))
  obtain ⟨g50, A52, c53, rfl, HSo⟩ := hc
  refine ⟨.pointer (some ⟨g50, 0, none⟩), rfl, ?_⟩
  have HS49 : Hp S0 w0 w [.box g37 [.slice A39 z33.length c40, .int .i64 z34] 99, .own A39 c40 (rowC (Eint .u8) z33) 5 (Eint .u8).sz, .box g50 [.slice A52 z46.length c53, .int .i64 z47] 99, .own A52 c53 (rowC (Eint .u8) z46) 5 (Eint .u8).sz] := (HS36.back [] HSo rfl).sel [0, 1, 2, 3] rfl
  refine F_val rfl rfl rfl (O_assign rfl rfl) ?_
  refine F_nil ?_
  refine L_seq ?_
  refine L_seq ?_
  refine L_region ?_
  refine F_val rfl rfl rfl (O_move rfl rfl) ?_
  refine F_val rfl rfl rfl (O_peq rfl rfl rfl Try.underlying31) ?_
  refine F_val rfl rfl rfl (O_move rfl rfl) ?_
  refine F_gval rfl rfl rfl rfl rfl rfl (O_move rfl rfl) ?_
  refine F_gval rfl rfl rfl rfl rfl rfl (O_peq rfl rfl rfl Try.underlying31) ?_
  refine F_val rfl rfl rfl (O_pickF rfl rfl rfl) ?_
  refine F_nil ?_
  refine L_cond rfl (fun hx => by cases hx) (fun _ => ?_)
  refine L_skip ?_
  refine L_seq ?_
  refine L_seq ?_
  refine L_region ?_
  refine F_val rfl rfl rfl (O_move rfl rfl) ?_
  refine F_val rfl rfl rfl (O_move rfl rfl) ?_
  refine F_val rfl rfl rfl (O_move rfl rfl) ?_
  obtain ⟨z59, h58, H⟩ := of_bind H
  refine F_call (xs := [.tmp 40, .tmp 41]) rfl rfl rfl rfl Try.func20 nm20 rfl rfl ((valiselaw3_low.calls (HS49.give [] rfl (Lent.nil)) h58).mono (fun e w hc => ?_))
  obtain ⟨rfl, HSo⟩ := hc
  refine ⟨.int .u32 z59, rfl, ?_⟩
  have HS61 : Hp S0 w0 w [.box g37 [.slice A39 z33.length c40, .int .i64 z34] 99, .own A39 c40 (rowC (Eint .u8) z33) 5 (Eint .u8).sz, .box g50 [.slice A52 z46.length c53, .int .i64 z47] 99, .own A52 c53 (rowC (Eint .u8) z46) 5 (Eint .u8).sz] := (HS49.back [] HSo rfl).sel [0, 1, 2, 3] rfl
  refine F_val rfl rfl rfl (O_move rfl rfl) ?_
  obtain ⟨⟨z66, z67, z68⟩, h65, H⟩ := of_bind H
  refine F_call (xs := [.tmp 39, .tmp 42, .tmp 43]) rfl rfl rfl rfl Try.func19 nm19 rfl rfl ((bits_Writer_Put.calls (HS61.give [0, 1] rfl (Lent.nil)) h65).mono (fun e w hc => ?_))
  obtain ⟨A71, c72, rfl, HSo⟩ := hc
  refine ⟨.int .i64 z66, rfl, ?_⟩
  have HS70 : Hp S0 w0 w [.box g37 [.slice A71 z67.length c72, .int .i64 z68] 99, .own A71 c72 (rowC (Eint .u8) z67) 5 (Eint .u8).sz, .box g50 [.slice A52 z46.length c53, .int .i64 z47] 99, .own A52 c53 (rowC (Eint .u8) z46) 5 (Eint .u8).sz] := (HS61.back [0, 1] HSo rfl).sel [4, 5, 2, 3] rfl
  refine F_val rfl rfl rfl (O_ne rfl rfl rfl) ?_
  refine F_val rfl rfl rfl (O_move rfl rfl) ?_
  rcases Decidable.em (z66 ≠ 0) with c73 | c73
  · have H := of_pos H c73
    refine F_know (i := 46) rfl (dec_t c73) ?_
    refine F_gskip rfl rfl rfl rfl rfl rfl rfl ?_
    refine F_gskip rfl rfl rfl rfl rfl rfl rfl ?_
    refine F_gskip rfl rfl rfl rfl rfl rfl rfl ?_
    refine F_gskip rfl rfl rfl rfl rfl rfl rfl ?_
    refine F_gskip rfl rfl rfl rfl rfl rfl rfl ?_
    refine F_gskip rfl rfl rfl rfl rfl rfl rfl ?_
    refine F_gskip rfl rfl rfl rfl rfl rfl rfl ?_
    refine F_val rfl rfl rfl (O_pickT rfl rfl rfl) ?_
    refine F_nil ?_
    refine L_cond rfl (fun _ => ?_) (fun hx => by cases hx)
    refine L_seq ?_
    refine L_region ?_
    refine F_val rfl rfl rfl (O_assign rfl rfl) ?_
    refine F_nil ?_
    refine L_ret (fun a ha => (post_ret1 ha rfl rfl ?_))
    obtain rfl := Option.some.inj H
    exact ⟨rfl, HS70.sel [] rfl⟩
  · have H := of_neg H c73
    refine F_know (i := 46) rfl (dec_f c73) ?_
    refine F_gval rfl rfl rfl rfl rfl rfl (O_move rfl rfl) ?_
    refine F_gval rfl rfl rfl rfl rfl rfl (O_move rfl rfl) ?_
    refine F_gval rfl rfl rfl rfl rfl rfl (O_move rfl rfl) ?_
    obtain ⟨z78, h77, H⟩ := of_bind H
    refine F_gcall (xs := [.tmp 48, .tmp 49]) rfl rfl rfl rfl rfl rfl rfl Try.func20 nm20 rfl rfl ((valiselaw3_low.calls (HS70.give [] rfl (Lent.nil)) h77).mono (fun e w hc => ?_))
    obtain ⟨rfl, HSo⟩ := hc
    refine ⟨.int .u32 z78, rfl, ?_⟩
    have HS80 : Hp S0 w0 w [.box g37 [.slice A71 z67.length c72, .int .i64 z68] 99, .own A71 c72 (rowC (Eint .u8) z67) 5 (Eint .u8).sz, .box g50 [.slice A52 z46.length c53, .int .i64 z47] 99, .own A52 c53 (rowC (Eint .u8) z46) 5 (Eint .u8).sz] := (HS70.back [] HSo rfl).sel [0, 1, 2, 3] rfl
    refine F_gval rfl rfl rfl rfl rfl rfl (O_move rfl rfl) ?_
    obtain ⟨⟨z85, z86, z87⟩, h84, H⟩ := of_bind H
    refine F_gcall (xs := [.tmp 47, .tmp 50, .tmp 51]) rfl rfl rfl rfl rfl rfl rfl Try.func19 nm19 rfl rfl ((bits_Writer_Put.calls (HS80.give [2, 3] rfl (Lent.nil)) h84).mono (fun e w hc => ?_))
    obtain ⟨A90, c91, rfl, HSo⟩ := hc
    refine ⟨.int .i64 z85, rfl, ?_⟩
    have HS89 : Hp S0 w0 w [.box g37 [.slice A71 z67.length c72, .int .i64 z68] 99, .own A71 c72 (rowC (Eint .u8) z67) 5 (Eint .u8).sz, .box g50 [.slice A90 z86.length c91, .int .i64 z87] 99, .own A90 c91 (rowC (Eint .u8) z86) 5 (Eint .u8).sz] := (HS80.back [2, 3] HSo rfl).sel [0, 1, 4, 5] rfl
    refine F_gval rfl rfl rfl rfl rfl rfl (O_ne rfl rfl rfl) ?_
    refine F_val rfl rfl rfl (O_pickF rfl rfl rfl) ?_
    refine F_nil ?_
    refine L_condP rfl (fun c92 => ?_) (fun c92 => ?_)
    · have H := of_pos H c92
      refine L_seq ?_
      refine L_region ?_
      refine F_val rfl rfl rfl (O_assign rfl rfl) ?_
      refine F_nil ?_
      refine L_ret (fun a ha => (post_ret1 ha rfl rfl ?_))
      obtain rfl := Option.some.inj H
      exact ⟨rfl, HS89.sel [] rfl⟩
    · have H := of_neg H c92
      refine L_skip ?_
      refine L_seq ?_
      refine L_seq ?_
      refine L_region ?_
      refine F_val rfl rfl rfl (O_move rfl rfl) ?_
      refine F_val rfl rfl rfl (O_move rfl rfl) ?_
      refine F_val rfl rfl rfl (O_move rfl rfl) ?_
      obtain ⟨⟨z97, z98, z99⟩, h96, H⟩ := of_bind H
      refine F_call (xs := [.tmp 55, .tmp 56, .tmp 57]) rfl rfl rfl rfl Try.func19 nm19 rfl rfl ((bits_Writer_Put.calls (HS89.give [0, 1] rfl (Lent.nil)) h96).mono (fun e w hc => ?_))
      obtain ⟨A102, c103, rfl, HSo⟩ := hc
      refine ⟨.int .i64 z97, rfl, ?_⟩
      have HS101 : Hp S0 w0 w [.box g37 [.slice A102 z98.length c103, .int .i64 z99] 99, .own A102 c103 (rowC (Eint .u8) z98) 5 (Eint .u8).sz, .box g50 [.slice A90 z86.length c91, .int .i64 z87] 99, .own A90 c91 (rowC (Eint .u8) z86) 5 (Eint .u8).sz] := (HS89.back [0, 1] HSo rfl).sel [4, 5, 2, 3] rfl
      refine F_val rfl rfl rfl (O_ne rfl rfl rfl) ?_
      refine F_val rfl rfl rfl (O_move rfl rfl) ?_
      rcases Decidable.em (z97 ≠ 0) with c104 | c104
      · have H := of_pos H c104
        refine F_know (i := 60) rfl (dec_t c104) ?_
        refine F_gskip rfl rfl rfl rfl rfl rfl rfl ?_
        refine F_gskip rfl rfl rfl rfl rfl rfl rfl ?_
        refine F_gskip rfl rfl rfl rfl rfl rfl rfl ?_
        refine F_gskip rfl rfl rfl rfl rfl rfl rfl ?_
        refine F_gskip rfl rfl rfl rfl rfl rfl rfl ?_
        refine F_gskip rfl rfl rfl rfl rfl rfl rfl ?_
        refine F_gskip rfl rfl rfl rfl rfl rfl rfl ?_
        refine F_val rfl rfl rfl (O_pickT rfl rfl rfl) ?_
        refine F_val rfl rfl rfl (O_move rfl rfl) ?_
        refine F_gskip rfl rfl rfl rfl rfl rfl rfl ?_
        refine F_gskip rfl rfl rfl rfl rfl rfl rfl ?_
        refine F_gskip rfl rfl rfl rfl rfl rfl rfl ?_
        refine F_gskip rfl rfl rfl rfl rfl rfl rfl ?_
        refine F_gskip rfl rfl rfl rfl rfl rfl rfl ?_
        refine F_gskip rfl rfl rfl rfl rfl rfl rfl ?_
        refine F_gskip rfl rfl rfl rfl rfl rfl rfl ?_
        refine F_gskip rfl rfl rfl rfl rfl rfl rfl ?_
        refine F_gskip rfl rfl rfl rfl rfl rfl rfl ?_
        refine F_gskip rfl rfl rfl rfl rfl rfl rfl ?_
        refine F_gskip rfl rfl rfl rfl rfl rfl rfl ?_
        refine F_gskip rfl rfl rfl rfl rfl rfl rfl ?_
        refine F_val rfl rfl rfl (O_pickT rfl rfl rfl) ?_
        refine F_nil ?_
        refine L_cond rfl (fun _ => ?_) (fun hx => by cases hx)
        refine L_seq ?_
        refine L_region ?_
        refine F_val rfl rfl rfl (O_assign rfl rfl) ?_
        refine F_nil ?_
        refine L_ret (fun a ha => (post_ret1 ha rfl rfl ?_))
        obtain rfl := Option.some.inj H
        exact ⟨rfl, HS101.sel [] rfl⟩
      · have H := of_neg H c104
        refine F_know (i := 60) rfl (dec_f c104) ?_
        refine F_gval rfl rfl rfl rfl rfl rfl (O_move rfl rfl) ?_
        refine F_gval rfl rfl rfl rfl rfl rfl (O_move rfl rfl) ?_
        refine F_gval rfl rfl rfl rfl rfl rfl (O_move rfl rfl) ?_
        obtain ⟨z109, h108, H⟩ := of_bind H
        refine F_gcall (xs := [.tmp 62, .tmp 63]) rfl rfl rfl rfl rfl rfl rfl Try.func20 nm20 rfl rfl ((valiselaw3_low.calls (HS101.give [] rfl (Lent.nil)) h108).mono (fun e w hc => ?_))
        obtain ⟨rfl, HSo⟩ := hc
        refine ⟨.int .u32 z109, rfl, ?_⟩
        have HS111 : Hp S0 w0 w [.box g37 [.slice A102 z98.length c103, .int .i64 z99] 99, .own A102 c103 (rowC (Eint .u8) z98) 5 (Eint .u8).sz, .box g50 [.slice A90 z86.length c91, .int .i64 z87] 99, .own A90 c91 (rowC (Eint .u8) z86) 5 (Eint .u8).sz] := (HS101.back [] HSo rfl).sel [0, 1, 2, 3] rfl
        refine F_gval rfl rfl rfl rfl rfl rfl (O_move rfl rfl) ?_
        obtain ⟨⟨z116, z117, z118⟩, h115, H⟩ := of_bind H
        refine F_gcall (xs := [.tmp 61, .tmp 64, .tmp 65]) rfl rfl rfl rfl rfl rfl rfl Try.func19 nm19 rfl rfl ((bits_Writer_Put.calls (HS111.give [2, 3] rfl (Lent.nil)) h115).mono (fun e w hc => ?_))
        obtain ⟨A121, c122, rfl, HSo⟩ := hc
        refine ⟨.int .i64 z116, rfl, ?_⟩
        have HS120 : Hp S0 w0 w [.box g37 [.slice A102 z98.length c103, .int .i64 z99] 99, .own A102 c103 (rowC (Eint .u8) z98) 5 (Eint .u8).sz, .box g50 [.slice A121 z117.length c122, .int .i64 z118] 99, .own A121 c122 (rowC (Eint .u8) z117) 5 (Eint .u8).sz] := (HS111.back [2, 3] HSo rfl).sel [0, 1, 4, 5] rfl
        refine F_gval rfl rfl rfl rfl rfl rfl (O_ne rfl rfl rfl) ?_
        refine F_val rfl rfl rfl (O_pickF rfl rfl rfl) ?_
        refine F_val rfl rfl rfl (O_move rfl rfl) ?_
        rcases Decidable.em (z116 ≠ 0) with c123 | c123
        · have H := of_pos H c123
          refine F_know (i := 69) rfl (dec_t c123) ?_
          refine F_gskip rfl rfl rfl rfl rfl rfl rfl ?_
          refine F_gskip rfl rfl rfl rfl rfl rfl rfl ?_
          refine F_gskip rfl rfl rfl rfl rfl rfl rfl ?_
          refine F_gskip rfl rfl rfl rfl rfl rfl rfl ?_
          refine F_gskip rfl rfl rfl rfl rfl rfl rfl ?_
          refine F_gskip rfl rfl rfl rfl rfl rfl rfl ?_
          refine F_gskip rfl rfl rfl rfl rfl rfl rfl ?_
          refine F_gskip rfl rfl rfl rfl rfl rfl rfl ?_
          refine F_gskip rfl rfl rfl rfl rfl rfl rfl ?_
          refine F_gskip rfl rfl rfl rfl rfl rfl rfl ?_
          refine F_gskip rfl rfl rfl rfl rfl rfl rfl ?_
          refine F_gskip rfl rfl rfl rfl rfl rfl rfl ?_
          refine F_val rfl rfl rfl (O_pickT rfl rfl rfl) ?_
          refine F_nil ?_
          refine L_cond rfl (fun _ => ?_) (fun hx => by cases hx)
          refine L_seq ?_
          refine L_region ?_
          refine F_val rfl rfl rfl (O_assign rfl rfl) ?_
          refine F_nil ?_
          refine L_ret (fun a ha => (post_ret1 ha rfl rfl ?_))
          obtain rfl := Option.some.inj H
          exact ⟨rfl, HS120.sel [] rfl⟩
        · have H := of_neg H c123
          refine F_know (i := 69) rfl (dec_f c123) ?_
          refine F_gval rfl rfl rfl rfl rfl rfl (O_move rfl rfl) ?_
          refine F_gval rfl rfl rfl rfl rfl rfl (O_move rfl rfl) ?_
          refine F_gval rfl rfl rfl rfl rfl rfl (O_conv rfl rfl ⟨_, Try.underlying22⟩ Try.underlying87) ?_
          refine F_gval rfl rfl rfl rfl rfl rfl (O_move rfl rfl) ?_
          refine F_gval rfl rfl rfl rfl rfl rfl (O_conv rfl rfl ⟨_, Try.underlying3⟩ Try.underlying75) ?_
          obtain ⟨g124, H⟩ := of_gd H
          refine F_gval rfl rfl rfl rfl rfl rfl (O_shr rfl rfl rfl g124) ?_
          refine F_gval rfl rfl rfl rfl rfl rfl (O_conv rfl rfl ⟨_, Try.underlying87⟩ Try.underlying22) ?_
          refine F_gval rfl rfl rfl rfl rfl rfl (O_move rfl rfl) ?_
          refine F_gval rfl rfl rfl rfl rfl rfl (O_move rfl rfl) ?_
          refine F_gval rfl rfl rfl rfl rfl rfl (O_sub rfl rfl rfl) ?_
          obtain ⟨⟨z129, z130, z131⟩, h128, H⟩ := of_bind H
          refine F_gcall (xs := [.tmp 70, .tmp 76, .tmp 79]) rfl rfl rfl rfl rfl rfl rfl Try.func19 nm19 rfl rfl ((bits_Writer_Put.calls (HS120.give [2, 3] rfl (Lent.nil)) h128).mono (fun e w hc => ?_))
          obtain ⟨A134, c135, rfl, HSo⟩ := hc
          refine ⟨.int .i64 z129, rfl, ?_⟩
          have HS133 : Hp S0 w0 w [.box g37 [.slice A102 z98.length c103, .int .i64 z99] 99, .own A102 c103 (rowC (Eint .u8) z98) 5 (Eint .u8).sz, .box g50 [.slice A134 z130.length c135, .int .i64 z131] 99, .own A134 c135 (rowC (Eint .u8) z130) 5 (Eint .u8).sz] := (HS120.back [2, 3] HSo rfl).sel [0, 1, 4, 5] rfl
          refine F_gval rfl rfl rfl rfl rfl rfl (O_ne rfl rfl rfl) ?_
          refine F_val rfl rfl rfl (O_pickF rfl rfl rfl) ?_
          refine F_nil ?_
          refine L_condP rfl (fun c136 => ?_) (fun c136 => ?_)
          · have H := of_pos H c136
            refine L_seq ?_
            refine L_region ?_
            refine F_val rfl rfl rfl (O_assign rfl rfl) ?_
            refine F_nil ?_
            refine L_ret (fun a ha => (post_ret1 ha rfl rfl ?_))
            obtain rfl := Option.some.inj H
            exact ⟨rfl, HS133.sel [] rfl⟩
          · have H := of_neg H c136
            refine L_skip ?_
            refine L_seq ?_
            refine L_seq ?_
            refine L_region ?_
            refine F_val rfl rfl rfl (O_move rfl rfl) ?_
            obtain ⟨z141, h140, H⟩ := of_bind H
            refine F_call (xs := [.tmp 83]) rfl rfl rfl rfl Try.func23 nm23 rfl rfl ((bits_Writer_Len.calls (HS133.give [] rfl (Lent.box HS133 (Lent.own HS133 (Lent.nil) (i := 1) rfl rfl ((HS133.cells_own (i := 1) rfl).self)) (i := 0) rfl rfl (HS133.cells_box (i := 0) rfl).self)) h140).mono (fun e w hc => ?_))
            obtain ⟨rfl, HSo⟩ := hc
            refine ⟨.int .i64 z141, rfl, ?_⟩
            have HS143 : Hp S0 w0 w [.box g37 [.slice A102 z98.length c103, .int .i64 z99] 99, .own A102 c103 (rowC (Eint .u8) z98) 5 (Eint .u8).sz, .box g50 [.slice A134 z130.length c135, .int .i64 z131] 99, .own A134 c135 (rowC (Eint .u8) z130) 5 (Eint .u8).sz] := (HS133.back [] HSo rfl).sel [0, 1, 2, 3] rfl
            refine F_val rfl rfl rfl (O_move rfl rfl) ?_
            refine F_val rfl rfl rfl (O_move rfl rfl) ?_
            refine F_val rfl rfl rfl (O_add rfl rfl rfl) ?_
            refine F_val rfl rfl rfl (O_ne rfl rfl rfl) ?_
            refine F_val rfl rfl rfl (O_move rfl rfl) ?_
            rcases Decidable.em (z141 ≠ IntKind.i64.wrap (z5 + z12)) with c144 | c144
            · have H := of_pos H c144
              refine F_know (i := 89) rfl (dec_t c144) ?_
              refine F_gskip rfl rfl rfl rfl rfl rfl rfl ?_
              refine F_gskip rfl rfl rfl rfl rfl rfl rfl ?_
              refine F_gskip rfl rfl rfl rfl rfl rfl rfl ?_
              refine F_gskip rfl rfl rfl rfl rfl rfl rfl ?_
              refine F_gskip rfl rfl rfl rfl rfl rfl rfl ?_
              refine F_gskip rfl rfl rfl rfl rfl rfl rfl ?_
              refine F_val rfl rfl rfl (O_pickT rfl rfl rfl) ?_
              refine F_val rfl rfl rfl (O_move rfl rfl) ?_
              refine F_gskip rfl rfl rfl rfl rfl rfl rfl ?_
              refine F_gskip rfl rfl rfl rfl rfl rfl rfl ?_
              refine F_gskip rfl rfl rfl rfl rfl rfl rfl ?_
              refine F_gskip rfl rfl rfl rfl rfl rfl rfl ?_
              refine F_gskip rfl rfl rfl rfl rfl rfl rfl ?_
              refine F_gskip rfl rfl rfl rfl rfl rfl rfl ?_
              refine F_val rfl rfl rfl (O_pickT rfl rfl rfl) ?_
              refine F_val rfl rfl rfl (O_move rfl rfl) ?_
              refine F_gskip rfl rfl rfl rfl rfl rfl rfl ?_
              refine F_gskip rfl rfl rfl rfl rfl rfl rfl ?_
              refine F_gskip rfl rfl rfl rfl rfl rfl rfl ?_
              refine F_gskip rfl rfl rfl rfl rfl rfl rfl ?_
              refine F_gskip rfl rfl rfl rfl rfl rfl rfl ?_
              refine F_gskip rfl rfl rfl rfl rfl rfl rfl ?_
              refine F_gskip rfl rfl rfl rfl rfl rfl rfl ?_
              refine F_gskip rfl rfl rfl rfl rfl rfl rfl ?_
              refine F_gskip rfl rfl rfl rfl rfl rfl rfl ?_
              refine F_val rfl rfl rfl (O_pickT rfl rfl rfl) ?_
              refine F_nil ?_
              refine L_cond rfl (fun _ => ?_) (fun hx => by cases hx)
              refine L_seq ?_
              refine L_region ?_
              refine F_val rfl rfl rfl (O_assign rfl rfl) ?_
              refine F_nil ?_
              refine L_ret (fun a ha => (post_ret1 ha rfl rfl ?_))
              obtain rfl := Option.some.inj H
              exact ⟨rfl, HS143.sel [] rfl⟩
            · have H := of_neg H c144
              refine F_know (i := 89) rfl (dec_f c144) ?_
              refine F_gval rfl rfl rfl rfl rfl rfl (O_move rfl rfl) ?_
              obtain ⟨z149, h148, H⟩ := of_bind H
              refine F_gcall (xs := [.tmp 90]) rfl rfl rfl rfl rfl rfl rfl Try.func23 nm23 rfl rfl ((bits_Writer_Len.calls (HS143.give [] rfl (Lent.box HS143 (Lent.own HS143 (Lent.nil) (i := 3) rfl rfl ((HS143.cells_own (i := 3) rfl).self)) (i := 2) rfl rfl (HS143.cells_box (i := 2) rfl).self)) h148).mono (fun e w hc => ?_))
              obtain ⟨rfl, HSo⟩ := hc
              refine ⟨.int .i64 z149, rfl, ?_⟩
              have HS151 : Hp S0 w0 w [.box g37 [.slice A102 z98.length c103, .int .i64 z99] 99, .own A102 c103 (rowC (Eint .u8) z98) 5 (Eint .u8).sz, .box g50 [.slice A134 z130.length c135, .int .i64 z131] 99, .own A134 c135 (rowC (Eint .u8) z130) 5 (Eint .u8).sz] := (HS143.back [] HSo rfl).sel [0, 1, 2, 3] rfl
              refine F_gval rfl rfl rfl rfl rfl rfl (O_move rfl rfl) ?_
              refine F_gval rfl rfl rfl rfl rfl rfl (O_move rfl rfl) ?_
              refine F_gval rfl rfl rfl rfl rfl rfl (O_add rfl rfl rfl) ?_
              refine F_gval rfl rfl rfl rfl rfl rfl (O_ne rfl rfl rfl) ?_
              refine F_val rfl rfl rfl (O_pickF rfl rfl rfl) ?_
              refine F_val rfl rfl rfl (O_move rfl rfl) ?_
              rcases Decidable.em (z149 ≠ IntKind.i64.wrap (z5 + z12)) with c152 | c152
              · have H := of_pos H c152
                refine F_know (i := 97) rfl (dec_t c152) ?_
                refine F_gskip rfl rfl rfl rfl rfl rfl rfl ?_
                refine F_gskip rfl rfl rfl rfl rfl rfl rfl ?_
                refine F_gskip rfl rfl rfl rfl rfl rfl rfl ?_
                refine F_gskip rfl rfl rfl rfl rfl rfl rfl ?_
                refine F_gskip rfl rfl rfl rfl rfl rfl rfl ?_
                refine F_gskip rfl rfl rfl rfl rfl rfl rfl ?_
                refine F_val rfl rfl rfl (O_pickT rfl rfl rfl) ?_
                refine F_val rfl rfl rfl (O_move rfl rfl) ?_
                refine F_gskip rfl rfl rfl rfl rfl rfl rfl ?_
                refine F_gskip rfl rfl rfl rfl rfl rfl rfl ?_
                refine F_gskip rfl rfl rfl rfl rfl rfl rfl ?_
                refine F_gskip rfl rfl rfl rfl rfl rfl rfl ?_
                refine F_gskip rfl rfl rfl rfl rfl rfl rfl ?_
                refine F_gskip rfl rfl rfl rfl rfl rfl rfl ?_
                refine F_gskip rfl rfl rfl rfl rfl rfl rfl ?_
                refine F_gskip rfl rfl rfl rfl rfl rfl rfl ?_
                refine F_gskip rfl rfl rfl rfl rfl rfl rfl ?_
                refine F_val rfl rfl rfl (O_pickT rfl rfl rfl) ?_
                refine F_nil ?_
                refine L_cond rfl (fun _ => ?_) (fun hx => by cases hx)
                refine L_seq ?_
                refine L_region ?_
                refine F_val rfl rfl rfl (O_assign rfl rfl) ?_
                refine F_nil ?_
                refine L_ret (fun a ha => (post_ret1 ha rfl rfl ?_))
                obtain rfl := Option.some.inj H
                exact ⟨rfl, HS151.sel [] rfl⟩
              · have H := of_neg H c152
                refine F_know (i := 97) rfl (dec_f c152) ?_
                refine F_gval rfl rfl rfl rfl rfl rfl (O_move rfl rfl) ?_
                obtain ⟨z157, h156, H⟩ := of_bind H
                refine F_gcall (xs := [.tmp 98]) rfl rfl rfl rfl rfl rfl rfl Try.func21 nm21 rfl rfl ((bits_Writer_Bytes.calls (HS151.give [] rfl (Lent.box HS151 (Lent.own HS151 (Lent.nil) (i := 1) rfl rfl ((HS151.cells_own (i := 1) rfl).self)) (i := 0) rfl rfl (HS151.cells_box (i := 0) rfl).self)) h156).mono (fun e w hc => ?_))
                obtain ⟨A160, c161, rfl, HSo⟩ := hc
                refine ⟨.slice A160 z157.length c161, rfl, ?_⟩
                have HS159 : Hp S0 w0 w [.box g37 [.slice A102 z98.length c103, .int .i64 z99] 99, .own A102 c103 (rowC (Eint .u8) z98) 5 (Eint .u8).sz, .box g50 [.slice A134 z130.length c135, .int .i64 z131] 99, .own A134 c135 (rowC (Eint .u8) z130) 5 (Eint .u8).sz, .own A160 c161 (rowC (Eint .u8) z157) 5 (Eint .u8).sz] := (HS151.back [] HSo rfl).sel [0, 1, 2, 3, 4] rfl
                refine F_gval rfl rfl rfl rfl rfl rfl (O_move rfl rfl) ?_
                obtain ⟨z167, h166, H⟩ := of_bind H
                refine F_gcall (xs := [.tmp 100]) rfl rfl rfl rfl rfl rfl rfl Try.func21 nm21 rfl rfl ((bits_Writer_Bytes.calls (HS159.give [] rfl (Lent.box HS159 (Lent.own HS159 (Lent.nil) (i := 3) rfl rfl ((HS159.cells_own (i := 3) rfl).self)) (i := 2) rfl rfl (HS159.cells_box (i := 2) rfl).self)) h166).mono (fun e w hc => ?_))
                obtain ⟨A170, c171, rfl, HSo⟩ := hc
                refine ⟨.slice A170 z167.length c171, rfl, ?_⟩
                have HS169 : Hp S0 w0 w [.box g37 [.slice A102 z98.length c103, .int .i64 z99] 99, .own A102 c103 (rowC (Eint .u8) z98) 5 (Eint .u8).sz, .box g50 [.slice A134 z130.length c135, .int .i64 z131] 99, .own A134 c135 (rowC (Eint .u8) z130) 5 (Eint .u8).sz, .own A160 c161 (rowC (Eint .u8) z157) 5 (Eint .u8).sz, .own A170 c171 (rowC (Eint .u8) z167) 5 (Eint .u8).sz] := (HS159.back [] HSo rfl).sel [0, 1, 2, 3, 4, 5] rfl
                obtain ⟨z177, h176, H⟩ := of_bind H
                refine F_gcall (xs := [.tmp 99, .tmp 101]) rfl rfl rfl rfl rfl rfl rfl Try.func24 nm24 rfl rfl ((valiselaw3_same.calls (HS169.give [] rfl (Lent.own HS169 (Lent.own HS169 (Lent.nil) (i := 5) rfl rfl ((HS169.cells_own (i := 5) rfl).self)) (i := 4) rfl rfl ((HS169.cells_own (i := 4) rfl).self))) (HS169.own_capE (i := 4) rfl (by decide)) (HS169.own_capE (i := 5) rfl (by decide)) h176).mono (fun e w hc => ?_))
                obtain ⟨rfl, HSo⟩ := hc
                refine ⟨.bool z177, rfl, ?_⟩
                have HS179 : Hp S0 w0 w [.box g37 [.slice A102 z98.length c103, .int .i64 z99] 99, .own A102 c103 (rowC (Eint .u8) z98) 5 (Eint .u8).sz, .box g50 [.slice A134 z130.length c135, .int .i64 z131] 99, .own A134 c135 (rowC (Eint .u8) z130) 5 (Eint .u8).sz, .own A160 c161 (rowC (Eint .u8) z157) 5 (Eint .u8).sz, .own A170 c171 (rowC (Eint .u8) z167) 5 (Eint .u8).sz] := (HS169.back [] HSo rfl).sel [0, 1, 2, 3, 4, 5] rfl
                refine F_gval rfl rfl rfl rfl rfl rfl (O_notb rfl rfl) ?_
                refine F_val rfl rfl rfl (O_pickF rfl rfl rfl) ?_
                refine F_val rfl rfl rfl (O_move rfl rfl) ?_
                rcases Decidable.em ((!z177) = true) with c180 | c180
                · have H := of_pos H c180
                  refine F_know (i := 105) rfl (congrArg Value.bool c180) ?_
                  refine F_gskip rfl rfl rfl rfl rfl rfl rfl ?_
                  refine F_gskip rfl rfl rfl rfl rfl rfl rfl ?_
                  refine F_gskip rfl rfl rfl rfl rfl rfl rfl ?_
                  refine F_gskip rfl rfl rfl rfl rfl rfl rfl ?_
                  refine F_gskip rfl rfl rfl rfl rfl rfl rfl ?_
                  refine F_gskip rfl rfl rfl rfl rfl rfl rfl ?_
                  refine F_gskip rfl rfl rfl rfl rfl rfl rfl ?_
                  refine F_gskip rfl rfl rfl rfl rfl rfl rfl ?_
                  refine F_gskip rfl rfl rfl rfl rfl rfl rfl ?_
                  refine F_val rfl rfl rfl (O_pickT rfl rfl rfl) ?_
                  refine F_nil ?_
                  refine L_cond rfl (fun _ => ?_) (fun hx => by cases hx)
                  refine L_seq ?_
                  refine L_region ?_
                  refine F_val rfl rfl rfl (O_assign rfl rfl) ?_
                  refine F_nil ?_
                  refine L_ret (fun a ha => (post_ret1 ha rfl rfl ?_))
                  obtain rfl := Option.some.inj H
                  exact ⟨rfl, HS179.sel [] rfl⟩
                · have H := of_neg H c180
                  refine F_know (i := 105) rfl (congrArg Value.bool (Bool.eq_false_iff.mpr c180)) ?_
                  refine F_gval rfl rfl rfl rfl rfl rfl (O_move rfl rfl) ?_
                  obtain ⟨z185, h184, H⟩ := of_bind H
                  refine F_gcall (xs := [.tmp 106]) rfl rfl rfl rfl rfl rfl rfl Try.func21 nm21 rfl rfl ((bits_Writer_Bytes.calls (HS179.give [] rfl (Lent.box HS179 (Lent.own HS179 (Lent.nil) (i := 1) rfl rfl ((HS179.cells_own (i := 1) rfl).self)) (i := 0) rfl rfl (HS179.cells_box (i := 0) rfl).self)) h184).mono (fun e w hc => ?_))
                  obtain ⟨A188, c189, rfl, HSo⟩ := hc
                  refine ⟨.slice A188 z185.length c189, rfl, ?_⟩
                  have HS187 : Hp S0 w0 w [.box g37 [.slice A102 z98.length c103, .int .i64 z99] 99, .own A102 c103 (rowC (Eint .u8) z98) 5 (Eint .u8).sz, .box g50 [.slice A134 z130.length c135, .int .i64 z131] 99, .own A134 c135 (rowC (Eint .u8) z130) 5 (Eint .u8).sz, .own A160 c161 (rowC (Eint .u8) z157) 5 (Eint .u8).sz, .own A170 c171 (rowC (Eint .u8) z167) 5 (Eint .u8).sz, .own A188 c189 (rowC (Eint .u8) z185) 5 (Eint .u8).sz] := (HS179.back [] HSo rfl).sel [0, 1, 2, 3, 4, 5, 6] rfl
                  refine F_gval rfl rfl rfl rfl rfl rfl (O_len rfl rfl Try.underlying35) ?_
                  refine F_gval rfl rfl rfl rfl rfl rfl (O_move rfl rfl) ?_
                  refine F_gval rfl rfl rfl rfl rfl rfl (O_move rfl rfl) ?_
                  refine F_gval rfl rfl rfl rfl rfl rfl (O_add rfl rfl rfl) ?_
                  refine F_gval rfl rfl rfl rfl rfl rfl (O_add rfl rfl rfl) ?_
                  refine F_gval rfl rfl rfl rfl rfl rfl (O_quo rfl rfl rfl (by decide)) ?_
                  refine F_gval rfl rfl rfl rfl rfl rfl (O_ne rfl rfl rfl) ?_
                  refine F_val rfl rfl rfl (O_pickF rfl rfl rfl) ?_
                  refine F_nil ?_
                  refine L_condP rfl (fun c191 => ?_) (fun c191 => ?_)
                  · have H := of_pos H c191
                    refine L_seq ?_
                    refine L_region ?_
                    refine F_val rfl rfl rfl (O_assign rfl rfl) ?_
                    refine F_nil ?_
                    refine L_ret (fun a ha => (post_ret1 ha rfl rfl ?_))
                    obtain rfl := Option.some.inj H
                    exact ⟨rfl, HS187.sel [] rfl⟩
                  · have H := of_neg H c191
                    refine L_skip ?_
                    refine L_seq ?_
                    refine L_region ?_
                    refine F_val rfl rfl rfl (O_move rfl rfl) ?_
                    obtain ⟨z196, h195, H⟩ := of_bind H
                    refine F_call (xs := [.tmp 116]) rfl rfl rfl rfl Try.func21 nm21 rfl rfl ((bits_Writer_Bytes.calls (HS187.give [] rfl (Lent.box HS187 (Lent.own HS187 (Lent.nil) (i := 1) rfl rfl ((HS187.cells_own (i := 1) rfl).self)) (i := 0) rfl rfl (HS187.cells_box (i := 0) rfl).self)) h195).mono (fun e w hc => ?_))
                    obtain ⟨A199, c200, rfl, HSo⟩ := hc
                    refine ⟨.slice A199 z196.length c200, rfl, ?_⟩
                    have HS198 : Hp S0 w0 w [.box g37 [.slice A102 z98.length c103, .int .i64 z99] 99, .own A102 c103 (rowC (Eint .u8) z98) 5 (Eint .u8).sz, .box g50 [.slice A134 z130.length c135, .int .i64 z131] 99, .own A134 c135 (rowC (Eint .u8) z130) 5 (Eint .u8).sz, .own A160 c161 (rowC (Eint .u8) z157) 5 (Eint .u8).sz, .own A170 c171 (rowC (Eint .u8) z167) 5 (Eint .u8).sz, .own A188 c189 (rowC (Eint .u8) z185) 5 (Eint .u8).sz, .own A199 c200 (rowC (Eint .u8) z196) 5 (Eint .u8).sz] := (HS187.back [] HSo rfl).sel [0, 1, 2, 3, 4, 5, 6, 7] rfl
                    obtain ⟨z206, h205, H⟩ := of_bind H
                    rcases z206 with _ | z206
                    · refine F_call (xs := [.tmp 117]) rfl rfl rfl rfl Try.func25 nm25 rfl rfl ((bits_NewReader.calls (HS198.give [] rfl (Lent.own HS198 (Lent.nil) (i := 7) rfl rfl ((HS198.cells_own (i := 7) rfl).self))) (HS198.own_capE (i := 7) rfl (by decide)) h205).mono (fun e w hc => ?_))
                      have H := (onO_none _ _).symm.trans H
                      obtain ⟨rfl, HSo⟩ := hc
                      refine ⟨.pointer none, rfl, ?_⟩
                      have HS208 : Hp S0 w0 w [.box g37 [.slice A102 z98.length c103, .int .i64 z99] 99, .own A102 c103 (rowC (Eint .u8) z98) 5 (Eint .u8).sz, .box g50 [.slice A134 z130.length c135, .int .i64 z131] 99, .own A134 c135 (rowC (Eint .u8) z130) 5 (Eint .u8).sz, .own A160 c161 (rowC (Eint .u8) z157) 5 (Eint .u8).sz, .own A170 c171 (rowC (Eint .u8) z167) 5 (Eint .u8).sz, .own A188 c189 (rowC (Eint .u8) z185) 5 (Eint .u8).sz, .own A199 c200 (rowC (Eint .u8) z196) 5 (Eint .u8).sz] := (HS198.back [] HSo rfl).sel [0, 1, 2, 3, 4, 5, 6, 7] rfl
                      refine F_val rfl rfl rfl (O_assign rfl rfl) ?_
                      refine F_nil ?_
                      refine L_seq ?_
                      refine L_seq ?_
                      refine L_region ?_
                      refine F_val rfl rfl rfl (O_move rfl rfl) ?_
                      refine F_val rfl rfl rfl (O_peq rfl rfl rfl Try.underlying42) ?_
                      refine F_val rfl rfl rfl (O_move rfl rfl) ?_
                      refine F_gskip rfl rfl rfl rfl rfl rfl rfl ?_
                      refine F_gskip rfl rfl rfl rfl rfl rfl rfl ?_
                      refine F_gskip rfl rfl rfl rfl rfl rfl rfl ?_
                      refine F_gskip rfl rfl rfl rfl rfl rfl rfl ?_
                      refine F_val rfl rfl rfl (O_pickT rfl rfl rfl) ?_
                      refine F_nil ?_
                      refine L_cond rfl (fun _ => ?_) (fun hx => by cases hx)
                      refine L_seq ?_
                      refine L_region ?_
                      refine F_val rfl rfl rfl (O_assign rfl rfl) ?_
                      refine F_nil ?_
                      refine L_ret (fun a ha => (post_ret1 ha rfl rfl ?_))
                      obtain rfl := Option.some.inj H
                      exact ⟨rfl, HS208.sel [] rfl⟩
                    · refine F_call (xs := [.tmp 117]) rfl rfl rfl rfl Try.func25 nm25 rfl rfl ((bits_NewReader.calls (HS198.give [] rfl (Lent.own HS198 (Lent.nil) (i := 7) rfl rfl ((HS198.cells_own (i := 7) rfl).self))) (HS198.own_capE (i := 7) rfl (by decide)) h205).mono (fun e w hc => ?_))
                      obtain ⟨z209, z210⟩ := z206
                      have H := (onO_some _ _ _).symm.trans H
                      obtain ⟨g213, A215, c216, rfl, HSo⟩ := hc
                      refine ⟨.pointer (some ⟨g213, 0, none⟩), rfl, ?_⟩
                      have HS212 : Hp S0 w0 w [.box g37 [.slice A102 z98.length c103, .int .i64 z99] 99, .own A102 c103 (rowC (Eint .u8) z98) 5 (Eint .u8).sz, .box g50 [.slice A134 z130.length c135, .int .i64 z131] 99, .own A134 c135 (rowC (Eint .u8) z130) 5 (Eint .u8).sz, .own A160 c161 (rowC (Eint .u8) z157) 5 (Eint .u8).sz, .own A170 c171 (rowC (Eint .u8) z167) 5 (Eint .u8).sz, .own A188 c189 (rowC (Eint .u8) z185) 5 (Eint .u8).sz, .own A199 c200 (rowC (Eint .u8) z196) 5 (Eint .u8).sz, .box g213 [.slice A215 z209.length c216, .int .i64 z210] 102, .own A215 c216 (rowC (Eint .u8) z209) 5 (Eint .u8).sz] := (HS198.back [] HSo rfl).sel [0, 1, 2, 3, 4, 5, 6, 7, 8, 9] rfl
                      refine F_val rfl rfl rfl (O_assign rfl rfl) ?_
                      refine F_nil ?_
                      refine L_seq ?_
                      refine L_seq ?_
                      refine L_region ?_
                      refine F_val rfl rfl rfl (O_move rfl rfl) ?_
                      refine F_val rfl rfl rfl (O_peq rfl rfl rfl Try.underlying42) ?_
                      refine F_val rfl rfl rfl (O_move rfl rfl) ?_
                      refine F_gval rfl rfl rfl rfl rfl rfl (O_move rfl rfl) ?_
                      refine F_gval rfl rfl rfl rfl rfl rfl (O_move rfl rfl) ?_
                      obtain ⟨⟨z222, z223, z224⟩, h221, H⟩ := of_bind H
                      refine F_gcall (xs := [.tmp 122, .tmp 123]) rfl rfl rfl rfl rfl rfl rfl Try.func32 nm32 rfl rfl ((bits_Reader_Skip.calls (HS212.give [8, 9] rfl (Lent.nil)) h221).mono (fun e w hc => ?_))
                      obtain ⟨A227, c228, rfl, HSo⟩ := hc
                      refine ⟨.int .i64 z222, rfl, ?_⟩
                      have HS226 : Hp S0 w0 w [.box g37 [.slice A102 z98.length c103, .int .i64 z99] 99, .own A102 c103 (rowC (Eint .u8) z98) 5 (Eint .u8).sz, .box g50 [.slice A134 z130.length c135, .int .i64 z131] 99, .own A134 c135 (rowC (Eint .u8) z130) 5 (Eint .u8).sz, .own A160 c161 (rowC (Eint .u8) z157) 5 (Eint .u8).sz, .own A170 c171 (rowC (Eint .u8) z167) 5 (Eint .u8).sz, .own A188 c189 (rowC (Eint .u8) z185) 5 (Eint .u8).sz, .own A199 c200 (rowC (Eint .u8) z196) 5 (Eint .u8).sz, .box g213 [.slice A227 z223.length c228, .int .i64 z224] 102, .own A227 c228 (rowC (Eint .u8) z223) 5 (Eint .u8).sz] := (HS212.back [8, 9] HSo rfl).sel [0, 1, 2, 3, 4, 5, 6, 7, 10, 11] rfl
                      refine F_gval rfl rfl rfl rfl rfl rfl (O_ne rfl rfl rfl) ?_
                      refine F_val rfl rfl rfl (O_pickF rfl rfl rfl) ?_
                      refine F_nil ?_
                      refine L_condP rfl (fun c229 => ?_) (fun c229 => ?_)
                      · have H := of_pos H c229
                        refine L_seq ?_
                        refine L_region ?_
                        refine F_val rfl rfl rfl (O_assign rfl rfl) ?_
                        refine F_nil ?_
                        refine L_ret (fun a ha => (post_ret1 ha rfl rfl ?_))
                        obtain rfl := Option.some.inj H
                        exact ⟨rfl, HS226.sel [] rfl⟩
                      · have H := of_neg H c229
                        refine L_skip ?_
                        refine L_seq ?_
                        refine L_region ?_
                        refine F_val rfl rfl rfl (O_move rfl rfl) ?_
                        refine F_val rfl rfl rfl (O_move rfl rfl) ?_
                        obtain ⟨⟨z234, z235, z236, z237⟩, h233, H⟩ := of_bind H
                        refine F_call (xs := [.tmp 128, .tmp 129]) rfl rfl rfl rfl Try.func31 nm31 rfl rfl ((bits_Reader_Take.calls (HS226.give [8, 9] rfl (Lent.nil)) h233).mono (fun e w hc => ?_))
                        obtain ⟨A240, c241, rfl, HSo⟩ := hc
                        refine ⟨.tuple #[.int .u32 z234, .int .i64 z235], rfl, ?_⟩
                        have HS239 : Hp S0 w0 w [.box g37 [.slice A102 z98.length c103, .int .i64 z99] 99, .own A102 c103 (rowC (Eint .u8) z98) 5 (Eint .u8).sz, .box g50 [.slice A134 z130.length c135, .int .i64 z131] 99, .own A134 c135 (rowC (Eint .u8) z130) 5 (Eint .u8).sz, .own A160 c161 (rowC (Eint .u8) z157) 5 (Eint .u8).sz, .own A170 c171 (rowC (Eint .u8) z167) 5 (Eint .u8).sz, .own A188 c189 (rowC (Eint .u8) z185) 5 (Eint .u8).sz, .own A199 c200 (rowC (Eint .u8) z196) 5 (Eint .u8).sz, .box g213 [.slice A240 z236.length c241, .int .i64 z237] 102, .own A240 c241 (rowC (Eint .u8) z236) 5 (Eint .u8).sz] := (HS226.back [8, 9] HSo rfl).sel [0, 1, 2, 3, 4, 5, 6, 7, 10, 11] rfl
                        refine F_val rfl rfl rfl (O_move rfl rfl) ?_
                        refine F_val rfl rfl rfl (O_extract (v := .int .u32 z234) rfl rfl rfl) ?_
                        refine F_val rfl rfl rfl (O_extract (v := .int .i64 z235) rfl rfl rfl) ?_
                        refine F_val rfl rfl rfl (O_assign rfl rfl) ?_
                        refine F_val rfl rfl rfl (O_assign rfl rfl) ?_
                        refine F_nil ?_
                        refine L_seq ?_
                        refine L_region ?_
                        refine F_val rfl rfl rfl (O_move rfl rfl) ?_
                        refine F_val rfl rfl rfl (O_move rfl rfl) ?_
                        refine F_val rfl rfl rfl (O_move rfl rfl) ?_
                        refine F_val rfl rfl rfl (O_sub rfl rfl rfl) ?_
                        obtain ⟨⟨z246, z247, z248, z249⟩, h245, H⟩ := of_bind H
                        refine F_call (xs := [.tmp 134, .tmp 137]) rfl rfl rfl rfl Try.func31 nm31 rfl rfl ((bits_Reader_Take.calls (HS239.give [8, 9] rfl (Lent.nil)) h245).mono (fun e w hc => ?_))
                        obtain ⟨A252, c253, rfl, HSo⟩ := hc
                        refine ⟨.tuple #[.int .u32 z246, .int .i64 z247], rfl, ?_⟩
                        have HS251 : Hp S0 w0 w [.box g37 [.slice A102 z98.length c103, .int .i64 z99] 99, .own A102 c103 (rowC (Eint .u8) z98) 5 (Eint .u8).sz, .box g50 [.slice A134 z130.length c135, .int .i64 z131] 99, .own A134 c135 (rowC (Eint .u8) z130) 5 (Eint .u8).sz, .own A160 c161 (rowC (Eint .u8) z157) 5 (Eint .u8).sz, .own A170 c171 (rowC (Eint .u8) z167) 5 (Eint .u8).sz, .own A188 c189 (rowC (Eint .u8) z185) 5 (Eint .u8).sz, .own A199 c200 (rowC (Eint .u8) z196) 5 (Eint .u8).sz, .box g213 [.slice A252 z248.length c253, .int .i64 z249] 102, .own A252 c253 (rowC (Eint .u8) z248) 5 (Eint .u8).sz] := (HS239.back [8, 9] HSo rfl).sel [0, 1, 2, 3, 4, 5, 6, 7, 10, 11] rfl
                        refine F_val rfl rfl rfl (O_move rfl rfl) ?_
                        refine F_val rfl rfl rfl (O_extract (v := .int .u32 z246) rfl rfl rfl) ?_
                        refine F_val rfl rfl rfl (O_extract (v := .int .i64 z247) rfl rfl rfl) ?_
                        refine F_val rfl rfl rfl (O_assign rfl rfl) ?_
                        refine F_val rfl rfl rfl (O_assign rfl rfl) ?_
                        refine F_nil ?_
                        refine L_seq ?_
                        refine L_seq ?_
                        refine L_region ?_
                        refine F_val rfl rfl rfl (O_move rfl rfl) ?_
                        refine F_val rfl rfl rfl (O_ne rfl rfl rfl) ?_
                        refine F_val rfl rfl rfl (O_move rfl rfl) ?_
                        refine F_grp 3 [(146, .bool (decide ((z235 ≠ 0) ∨ (z247 ≠ 0)))), (2, .int .u32 z26), (3, .int .i64 z12), (11, .int .i64 z5), (12, .int .i64 z19), (15, .pointer (some ⟨g213, 0, none⟩)), (16, .int .u32 z234), (18, .int .u32 z246)] ?_ ?_
                        · rcases Decidable.em (z235 ≠ 0) with c254 | c254
                          · refine F_know (i := 143) rfl (dec_t c254) ?_
                            refine F_gskip rfl rfl rfl rfl rfl rfl rfl ?_
                            refine F_gskip rfl rfl rfl rfl rfl rfl rfl ?_
                            refine F_val rfl rfl rfl (O_pickT rfl rfl rfl) ?_
                            refine F_know (i := 146) rfl (dec_or_t (q := z247 ≠ 0) c254) ?_
                            exact F_grpE (fun a ha => Is.cons ha (Is.cons ha (Is.cons ha (Is.cons ha (Is.cons ha (Is.cons ha (Is.cons ha (Is.cons ha (Is.nil ha) rfl) rfl) rfl) rfl) rfl) rfl) rfl) rfl)
                          · refine F_know (i := 143) rfl (dec_f c254) ?_
                            refine F_gval rfl rfl rfl rfl rfl rfl (O_move rfl rfl) ?_
                            refine F_gval rfl rfl rfl rfl rfl rfl (O_ne rfl rfl rfl) ?_
                            refine F_val rfl rfl rfl (O_pickF rfl rfl rfl) ?_
                            refine F_know (i := 146) rfl (dec_or_f (q := z247 ≠ 0) c254) ?_
                            exact F_grpE (fun a ha => Is.cons ha (Is.cons ha (Is.cons ha (Is.cons ha (Is.cons ha (Is.cons ha (Is.cons ha (Is.cons ha (Is.nil ha) rfl) rfl) rfl) rfl) rfl) rfl) rfl) rfl)
                        · skip
                          refine F_nil ?_
                          refine L_condP rfl (fun c255 => ?_) (fun c255 => ?_)
                          · have H := of_pos H c255
                            refine L_seq ?_
                            refine L_region ?_
                            refine F_val rfl rfl rfl (O_assign rfl rfl) ?_
                            refine F_nil ?_
                            refine L_ret (fun a ha => (post_ret1 ha rfl rfl ?_))
                            obtain rfl := Option.some.inj H
                            exact ⟨rfl, HS251.sel [] rfl⟩
                          · have H := of_neg H c255
                            refine L_skip ?_
                            refine L_seq ?_
                            refine L_region ?_
                            refine F_val rfl rfl rfl (O_move rfl rfl) ?_
                            refine F_val rfl rfl rfl (O_conv rfl rfl ⟨_, Try.underlying22⟩ Try.underlying87) ?_
                            refine F_val rfl rfl rfl (O_move rfl rfl) ?_
                            refine F_val rfl rfl rfl (O_conv rfl rfl ⟨_, Try.underlying22⟩ Try.underlying87) ?_
                            refine F_val rfl rfl rfl (O_move rfl rfl) ?_
                            refine F_val rfl rfl rfl (O_conv rfl rfl ⟨_, Try.underlying3⟩ Try.underlying75) ?_
                            refine F_val rfl rfl rfl (O_shl rfl rfl rfl g124) ?_
                            refine F_val rfl rfl rfl (O_or rfl rfl rfl) ?_
                            refine F_val rfl rfl rfl (O_move rfl rfl) ?_
                            refine F_val rfl rfl rfl (O_conv rfl rfl ⟨_, Try.underlying22⟩ Try.underlying87) ?_
                            refine F_val rfl rfl rfl (O_eq rfl rfl rfl) ?_
                            refine F_val rfl rfl rfl (O_move rfl rfl) ?_
                            rcases Decidable.em (bor .u64 (IntKind.u64.wrap z234) (shl .u64 (IntKind.u64.wrap z246) (IntKind.u64.wrap z19)) = IntKind.u64.wrap z26) with c256 | c256
                            · have H := of_pos H c256
                              refine F_know (i := 158) rfl (dec_t c256) ?_
                              refine F_gval rfl rfl rfl rfl rfl rfl (O_move rfl rfl) ?_
                              obtain ⟨z261, h260, H⟩ := of_bind H
                              refine F_gcall (xs := [.tmp 159]) rfl rfl rfl rfl rfl rfl rfl Try.func29 nm29 rfl rfl ((bits_Reader_At.calls (HS251.give [] rfl (Lent.box HS251 (Lent.own HS251 (Lent.nil) (i := 9) rfl rfl ((HS251.cells_own (i := 9) rfl).self)) (i := 8) rfl rfl (HS251.cells_box (i := 8) rfl).self)) h260).mono (fun e w hc => ?_))
                              obtain ⟨rfl, HSo⟩ := hc
                              refine ⟨.int .i64 z261, rfl, ?_⟩
                              have HS263 : Hp S0 w0 w [.box g37 [.slice A102 z98.length c103, .int .i64 z99] 99, .own A102 c103 (rowC (Eint .u8) z98) 5 (Eint .u8).sz, .box g50 [.slice A134 z130.length c135, .int .i64 z131] 99, .own A134 c135 (rowC (Eint .u8) z130) 5 (Eint .u8).sz, .own A160 c161 (rowC (Eint .u8) z157) 5 (Eint .u8).sz, .own A170 c171 (rowC (Eint .u8) z167) 5 (Eint .u8).sz, .own A188 c189 (rowC (Eint .u8) z185) 5 (Eint .u8).sz, .own A199 c200 (rowC (Eint .u8) z196) 5 (Eint .u8).sz, .box g213 [.slice A252 z248.length c253, .int .i64 z249] 102, .own A252 c253 (rowC (Eint .u8) z248) 5 (Eint .u8).sz] := (HS251.back [] HSo rfl).sel [0, 1, 2, 3, 4, 5, 6, 7, 8, 9] rfl
                              refine F_gval rfl rfl rfl rfl rfl rfl (O_move rfl rfl) ?_
                              refine F_gval rfl rfl rfl rfl rfl rfl (O_move rfl rfl) ?_
                              refine F_gval rfl rfl rfl rfl rfl rfl (O_add rfl rfl rfl) ?_
                              refine F_gval rfl rfl rfl rfl rfl rfl (O_eq rfl rfl rfl) ?_
                              refine F_val rfl rfl rfl (O_pickT rfl rfl rfl) ?_
                              refine F_val rfl rfl rfl (O_assign rfl rfl) ?_
                              refine F_nil ?_
                              refine L_ret (fun a ha => (post_ret1 ha rfl rfl ?_))
                              obtain rfl := Option.some.inj H
                              exact ⟨rfl, HS263.sel [] rfl⟩
                            · have H := of_neg H c256
                              refine F_know (i := 158) rfl (dec_f c256) ?_
                              refine F_gskip rfl rfl rfl rfl rfl rfl rfl ?_
                              refine F_gskip rfl rfl rfl rfl rfl rfl rfl ?_
                              refine F_gskip rfl rfl rfl rfl rfl rfl rfl ?_
                              refine F_gskip rfl rfl rfl rfl rfl rfl rfl ?_
                              refine F_gskip rfl rfl rfl rfl rfl rfl rfl ?_
                              refine F_gskip rfl rfl rfl rfl rfl rfl rfl ?_
                              refine F_val rfl rfl rfl (O_pickF rfl rfl rfl) ?_
                              refine F_val rfl rfl rfl (O_assign rfl rfl) ?_
                              refine F_nil ?_
                              refine L_ret (fun a ha => (post_ret1 ha rfl rfl ?_))
                              obtain rfl := Option.some.inj H
                              exact ⟨rfl, HS251.sel [] rfl⟩

end Go.Proofs.Ytmbcoaiaeeckiaa
