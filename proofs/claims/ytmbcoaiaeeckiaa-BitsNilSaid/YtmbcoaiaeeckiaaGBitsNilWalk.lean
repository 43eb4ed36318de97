import Derived.Test.YtmbcoaiaeeckiaaChecked
import Derived.Test.YtmbcoaiaeeckiaaGBitsNilPure
set_option linter.unusedVariables false
set_option linter.unusedSimpArgs false
set_option maxRecDepth 10000
namespace Go.Proofs.Ytmbcoaiaeeckiaa
open Go Go.V Go.V.Pu
theorem mix : Try.prog.follows .mixedOrders = true := by kernel_rfl
theorem nm18 : (Try.f18.name == "runtime.NumGoroutine") = false := by kernel_rfl
theorem info5 : (Try.prog.info? 5).map (fun i => (i.zero, i.size, i.bytes)) = some (some (.int .u8 0), 1, 1) := by kernel_rfl
theorem size5 : (Try.prog.info? 5).map (·.size) = some 1 := by kernel_rfl
theorem nm25 : (Try.f25.name == "runtime.NumGoroutine") = false := by kernel_rfl
theorem nm22 : (Try.f22.name == "runtime.NumGoroutine") = false := by kernel_rfl
theorem field99_1 : FieldAt Try.prog 99 1 1 := fun w a => by kernel_rfl
theorem flat3 : Flat Try.prog 3 := Flat.of Try.underlying3 rfl
theorem field99_0 : FieldAt Try.prog 99 0 0 := fun w a => by kernel_rfl
theorem flat35 : Flat Try.prog 35 := Flat.of Try.underlying35 rfl
theorem size35 : (Try.prog.info? 35).map (·.size) = some 1 := by kernel_rfl
theorem flat5 : Flat Try.prog 5 := Flat.of Try.underlying5 rfl
theorem size3 : (Try.prog.info? 3).map (·.size) = some 1 := by kernel_rfl
theorem nm56 : (Try.f56.name == "runtime.NumGoroutine") = false := by kernel_rfl
theorem nm19 : (Try.f19.name == "runtime.NumGoroutine") = false := by kernel_rfl
theorem nm23 : (Try.f23.name == "runtime.NumGoroutine") = false := by kernel_rfl
theorem nm52 : (Try.f52.name == "runtime.NumGoroutine") = false := by kernel_rfl
theorem nm53 : (Try.f53.name == "runtime.NumGoroutine") = false := by kernel_rfl
theorem nm26 : (Try.f26.name == "runtime.NumGoroutine") = false := by kernel_rfl
theorem nm37 : (Try.f37.name == "runtime.NumGoroutine") = false := by kernel_rfl
theorem nm21 : (Try.f21.name == "runtime.NumGoroutine") = false := by kernel_rfl
theorem nm31 : (Try.f31.name == "runtime.NumGoroutine") = false := by kernel_rfl
theorem nm28 : (Try.f28.name == "runtime.NumGoroutine") = false := by kernel_rfl
theorem nm40 : (Try.f40.name == "runtime.NumGoroutine") = false := by kernel_rfl
theorem nm32 : (Try.f32.name == "runtime.NumGoroutine") = false := by kernel_rfl
theorem nm29 : (Try.f29.name == "runtime.NumGoroutine") = false := by kernel_rfl
theorem nm30 : (Try.f30.name == "runtime.NumGoroutine") = false := by kernel_rfl
/-! function 18: valise/bits.NewWriter -/
theorem bits_NewWriter.calls {S0 : Nat → Prop} {w0 : World} {r : (List Int × Int)} (HS0 : Hp S0 w0 w0 []) (h : bits_NewWriter.f = some r) :
    Calls Try.prog 18 ([] : List Value).toArray w0 (fun e w => ∃ (g1 : Nat), ∃ (A1_0 : Option Addr), ∃ (c1_0 : Nat), e = .returned (.pointer (some ⟨g1, 0, none⟩)) ∧ Hp S0 w0 w [.box g1 [.slice A1_0 r.1.length c1_0, .int .i64 r.2] 99, .own A1_0 c1_0 (rowC (Eint .u8) r.1) 5 (Eint .u8).sz]) := by
  have H : ((some (([] : List Int), 0)) : Option ((List Int × Int))) = some r := h
  refine calls_start Try.func18 rfl rfl ?_
  refine L_seq ?_
  refine L_region ?_
  refine F_val rfl rfl rfl (O_assign rfl rfl) ?_
  refine F_nil ?_
  refine L_seq ?_
  refine L_region ?_
  refine F_val rfl rfl rfl (O_build (vs := []) (v := .agg #[.slice none 0 0, .int .i64 0]) rfl rfl rfl (fun w => by kernel_rfl)) ?_
  have HS5 := HS0.addNil 5 (Eint .u8).sz
  have HS5 : Hp S0 w0 w0 [.own none 0 (rowC (Eint .u8) ([] : List Int)) 5 (Eint .u8).sz] := HS5
  refine F_box (C := [.slice none ([] : List Int).length 0, .int .i64 0]) rfl rfl rfl rfl rfl rfl HS5 (fun w1 g3 HS2 => ?_)
  have HS2 : Hp S0 w0 w1 [.own none 0 (rowC (Eint .u8) ([] : List Int)) 5 (Eint .u8).sz, .box g3 ([.slice none ([] : List Int).length 0, .int .i64 0]) 99] := HS2
  refine F_val rfl rfl rfl (O_assign rfl rfl) ?_
  refine F_nil ?_
  refine L_ret (fun a ha => (post_ret1 ha rfl rfl ?_))
  obtain rfl := Option.some.inj H
  exact ⟨_, _, _, rfl, HS2.sel [1, 0] rfl⟩

/-! function 25: valise/bits.NewReader -/
theorem bits_NewReader.calls {S0 : Nat → Prop} {w0 : World} {A_data_0 : Option Addr} {c_data_0 : Nat} {l_data_0 : List Int} {r : Option (List Int × Int)} (HS0 : Hp S0 w0 w0 [.rd A_data_0 (rowC (Eint .u8) l_data_0)]) (hc_data_0 : l_data_0.length ≤ c_data_0) (h : bits_NewReader.f l_data_0 = some r) :
    Calls Try.prog 25 ([.slice A_data_0 l_data_0.length c_data_0] : List Value).toArray w0 (fun e w => match r with | none => e = .returned (.pointer none) ∧ Hp S0 w0 w [] | some x => ∃ (g0 : Nat), ∃ (A0_0 : Option Addr), ∃ (c0_0 : Nat), e = .returned (.pointer (some ⟨g0, 0, none⟩)) ∧ Hp S0 w0 w [.box g0 [.slice A0_0 x.1.length c0_0, .int .i64 x.2] 102, .own A0_0 c0_0 (rowC (Eint .u8) x.1) 5 (Eint .u8).sz]) := by
  have H : ((if 33554432 < (l_data_0.length : Int) then (some none) else (gd ((0 : Int) ≤ (l_data_0.length : Int) ∧ (l_data_0.length : Int) * 1 ≤ 281474976710656) (bnd (List.replicate ((l_data_0.length : Int) : Int).toNat (0 : Int)) fun l6 => bnd (cpy l6 l_data_0) fun l13 => some (some (l13, 0))))) : Option (Option (List Int × Int))) = some r := h
  refine calls_start Try.func25 rfl rfl ?_
  refine L_seq ?_
  refine L_region ?_
  refine F_val rfl rfl rfl (O_assign rfl rfl) ?_
  refine F_nil ?_
  refine L_seq ?_
  refine L_seq ?_
  refine L_region ?_
  refine F_val rfl rfl rfl (O_move rfl rfl) ?_
  refine F_val rfl rfl rfl (O_len rfl rfl Try.underlying35) ?_
  refine F_val rfl rfl rfl (O_gt rfl rfl rfl) ?_
  refine F_nil ?_
  refine L_condP rfl (fun c1 => ?_) (fun c1 => ?_)
  · have H := of_pos H c1
    refine L_seq ?_
    refine L_region ?_
    refine F_val rfl rfl rfl (O_assign rfl rfl) ?_
    refine F_nil ?_
    refine L_ret (fun a ha => (post_ret1 ha rfl rfl ?_))
    obtain rfl := Option.some.inj H
    exact ⟨rfl, HS0.sel [] rfl⟩
  · have H := of_neg H c1
    refine L_skip ?_
    refine L_seq ?_
    refine L_region ?_
    refine F_val rfl rfl rfl (O_move rfl rfl) ?_
    refine F_val rfl rfl rfl (O_len rfl rfl Try.underlying35) ?_
    obtain ⟨⟨g4, g5⟩, H⟩ := of_gd H
    obtain ⟨l6, h7, H⟩ := of_bnd H
    refine F_makeE (E := (Eint .u8)) rfl rfl rfl rfl rfl rfl Try.underlying35 info5 rfl (by decide) (by decide) g4 g5 HS0 h7 (fun w2 A8 c9 HS3 => ?_)
    have HS3 : Hp S0 w0 w2 [.rd A_data_0 (rowC (Eint .u8) l_data_0), .own A8 c9 (rowC (Eint .u8) l6) 5 (Eint .u8).sz] := HS3
    refine F_val rfl rfl rfl (O_assign rfl rfl) ?_
    refine F_nil ?_
    refine L_seq ?_
    refine L_region ?_
    refine F_val rfl rfl rfl (O_move rfl rfl) ?_
    refine F_val rfl rfl rfl (O_move rfl rfl) ?_
    obtain ⟨l13, h14, H⟩ := of_bnd H
    refine F_copyE (E := (Eint .u8)) (xs := l6) (ys := l_data_0) (i := 1) rfl rfl rfl rfl Try.underlying35 size5 rfl rfl HS3 rfl (HS3.cells_rd (i := 0) rfl) h14 (fun w11 HS12 => ?_)
    have e15 : l6.length = l13.length := by rw [← h14, cpy_length]
    refine F_know (i := 3) rfl (congrArg (fun n => Value.slice A8 n c9) e15) ?_
    have HS12 : Hp S0 w0 w11 [.rd A_data_0 (rowC (Eint .u8) l_data_0), .own A8 c9 (rowC (Eint .u8) l13) 5 (Eint .u8).sz] := HS12
    refine F_nil ?_
    refine L_seq ?_
    refine L_region ?_
    refine F_val rfl rfl rfl (O_move rfl rfl) ?_
    refine F_val rfl rfl rfl (O_build (vs := [(0, .slice A8 l13.length c9)]) (v := .agg #[.slice A8 l13.length c9, .int .i64 0]) rfl rfl rfl (fun w => by kernel_rfl)) ?_
    refine F_box (C := [.slice A8 l13.length c9, .int .i64 0]) rfl rfl rfl rfl rfl rfl HS12 (fun w16 g18 HS17 => ?_)
    have HS17 : Hp S0 w0 w16 [.rd A_data_0 (rowC (Eint .u8) l_data_0), .own A8 c9 (rowC (Eint .u8) l13) 5 (Eint .u8).sz, .box g18 [.slice A8 l13.length c9, .int .i64 0] 102] := HS17
    refine F_val rfl rfl rfl (O_assign rfl rfl) ?_
    refine F_nil ?_
    refine L_ret (fun a ha => (post_ret1 ha rfl rfl ?_))
    obtain rfl := Option.some.inj H
    exact ⟨_, _, _, rfl, HS17.sel [2, 1] rfl⟩

/-! function 22: (*valise/bits.Writer).Join -/
theorem bits_Writer_Join_n1.calls {S0 : Nat → Prop} {w0 : World} {g_w_0 : Nat} {A_w_0_bytes : Option Addr} {c_w_0_bytes : Nat} {w_0_bytes : List Int} {w_0_count : Int} {r : Int × List Int × Int} (HS0 : Hp S0 w0 w0 [.box g_w_0 [.slice A_w_0_bytes w_0_bytes.length c_w_0_bytes, .int .i64 w_0_count] 99, .own A_w_0_bytes c_w_0_bytes (rowC (Eint .u8) w_0_bytes) 5 (Eint .u8).sz]) (h : bits_Writer_Join_n1.f w_0_bytes w_0_count = some r) :
    Calls Try.prog 22 ([.pointer (some ⟨g_w_0, 0, none⟩), .pointer none] : List Value).toArray w0 (fun e w => ∃ (A_w_0_bytes' : Option Addr), ∃ (c_w_0_bytes' : Nat), e = .returned (.int .i64 r.1) ∧ Hp S0 w0 w [.box g_w_0 [.slice A_w_0_bytes' r.2.1.length c_w_0_bytes', .int .i64 r.2.2] 99, .own A_w_0_bytes' c_w_0_bytes' (rowC (Eint .u8) r.2.1) 5 (Eint .u8).sz]) := by
  have H : ((some (1, w_0_bytes, w_0_count)) : Option (Int × List Int × Int)) = some r := h
  refine calls_start Try.func22 rfl rfl ?_
  refine L_seq ?_
  refine L_region ?_
  refine F_val rfl rfl rfl (O_assign rfl rfl) ?_
  refine F_nil ?_
  refine L_seq ?_
  refine L_seq ?_
  refine L_quiet mix (by kernel_rfl) ?_
  refine Q_val rfl rfl rfl (fun wq hq => O_move rfl rfl) ?_
  refine Q_val rfl rfl rfl (fun wq hq => O_peq rfl rfl rfl Try.underlying31) ?_
  refine Q_val rfl rfl rfl (fun wq hq => O_move rfl rfl) ?_
  refine Q_gval rfl rfl rfl rfl rfl rfl (fun wq hq => O_move rfl rfl) ?_
  refine Q_gval rfl rfl rfl rfl rfl rfl (fun wq hq => O_peq rfl rfl rfl Try.underlying31) ?_
  refine Q_val rfl rfl rfl (fun wq hq => O_pickF rfl rfl rfl) ?_
  refine Q_val rfl rfl rfl (fun wq hq => O_move rfl rfl) ?_
  refine Q_gskip rfl rfl rfl rfl rfl rfl rfl ?_
  refine Q_gskip rfl rfl rfl rfl rfl rfl rfl ?_
  refine Q_gskip rfl rfl rfl rfl rfl rfl rfl ?_
  refine Q_gskip rfl rfl rfl rfl rfl rfl rfl ?_
  refine Q_gskip rfl rfl rfl rfl rfl rfl rfl ?_
  refine Q_gskip rfl rfl rfl rfl rfl rfl rfl ?_
  refine Q_gskip rfl rfl rfl rfl rfl rfl rfl ?_
  refine Q_gskip rfl rfl rfl rfl rfl rfl rfl ?_
  refine Q_gskip rfl rfl rfl rfl rfl rfl rfl ?_
  refine Q_gskip rfl rfl rfl rfl rfl rfl rfl ?_
  refine Q_val rfl rfl rfl (fun wq hq => O_pickT rfl rfl rfl) ?_
  refine Q_nil (fun w1 hw2 => ?_)
  have HS3 := HS0.keep hw2
  refine L_cond rfl (fun _ => ?_) (fun hx => by cases hx)
  refine L_seq ?_
  refine L_region ?_
  refine F_val rfl rfl rfl (O_assign rfl rfl) ?_
  refine F_nil ?_
  refine L_ret (fun a ha => (post_ret1 ha rfl rfl ?_))
  obtain rfl := Option.some.inj H
  exact ⟨_, _, rfl, HS3.sel [0, 1] rfl⟩

/-! function 56: (*valise/bits.Writer).lay -/
theorem bits_Writer_lay.calls {S0 : Nat → Prop} {w0 : World} {g_w_0 : Nat} {A_w_0_bytes : Option Addr} {c_w_0_bytes : Nat} {w_0_bytes : List Int} {w_0_count : Int} {v_1 : Int} {n_2 : Int} {r : List Int × Int} (HS0 : Hp S0 w0 w0 [.box g_w_0 [.slice A_w_0_bytes w_0_bytes.length c_w_0_bytes, .int .i64 w_0_count] 99, .own A_w_0_bytes c_w_0_bytes (rowC (Eint .u8) w_0_bytes) 5 (Eint .u8).sz]) (h : bits_Writer_lay.f w_0_bytes w_0_count v_1 n_2 = some r) :
    Calls Try.prog 56 ([.pointer (some ⟨g_w_0, 0, none⟩), .int .u64 v_1, .int .i64 n_2] : List Value).toArray w0 (fun e w => ∃ (A_w_0_bytes' : Option Addr), ∃ (c_w_0_bytes' : Nat), e = .returned (.tuple #[]) ∧ Hp S0 w0 w [.box g_w_0 [.slice A_w_0_bytes' r.1.length c_w_0_bytes', .int .i64 r.2] 99, .own A_w_0_bytes' c_w_0_bytes' (rowC (Eint .u8) r.1) 5 (Eint .u8).sz]) := by
  have H : (((bits_Writer_lay.l1 FU w_0_bytes w_0_count v_1 n_2 ).bind fun (l206, y207) => some (l206, y207)) : Option (List Int × Int)) = some r := h
  refine calls_start Try.func56 rfl rfl ?_
  obtain ⟨yj1, Hyj1, H⟩ := of_bind H
  refine L_join (fun a w => ∃ (l206 : List Int), ∃ (y207 : Int), ∃ (A204 : Option Addr), ∃ (c205 : Nat), yj1 = (l206, y207) ∧ Is Try.f56.ntmps a [] ∧ Hp S0 w0 w [.box g_w_0 [.slice A204 l206.length c205, .int .i64 y207] 99, .own A204 c205 (rowC (Eint .u8) l206) 5 (Eint .u8).sz]) (fun Qj1 hNj1 hOj1 => ?_) (fun a w hR => ?_)
  · skip
    have H := Hyj1
    refine L_blk (fun Qb208 hNb208 hXb208 hOb208 => ?_)
    refine L_lp (fun k a w => ∃ (l342 : List Int), ∃ (y343 : Int), ∃ (v_344 : Int), ∃ (n_345 : Int), ∃ (A340 : Option Addr), ∃ (c341 : Nat), Is Try.f56.ntmps a [(0, .pointer (some ⟨g_w_0, 0, none⟩)), (1, .int .u64 v_344), (2, .int .i64 n_345)] ∧ Hp S0 w0 w [.box g_w_0 [.slice A340 l342.length c341, .int .i64 y343] 99, .own A340 c341 (rowC (Eint .u8) l342) 5 (Eint .u8).sz] ∧ bits_Writer_lay.l1 k l342 y343 v_344 n_345  = some yj1) FU (fun a ha => ⟨_, _, _, _, _, _, Is.cons ha (Is.cons ha (Is.cons ha (Is.nil ha) rfl) rfl) rfl, HS0.sel [0, 1] rfl, H⟩) (fun kp339 a w346 hI Qp339 hNp339 hOp339 => ?_)
    obtain ⟨l342, y343, v_344, n_345, A340, c341, ha, HS347, HAp339⟩ := hI
    cases kp339 with
    | zero => cases (show (none : Option _) = some _ from HAp339)
    | succ kp339 =>
      have H := (bits_Writer_lay.l1.eq_2 ..).symm.trans HAp339
      refine wpLF_app ?_ ha
      refine L_seq ?_
      refine L_seq ?_
      refine L_region ?_
      refine F_val rfl rfl rfl (O_move rfl rfl) ?_
      refine F_val rfl rfl rfl (O_gt rfl rfl rfl) ?_
      refine F_nil ?_
      refine L_condP rfl (fun c348 => ?_) (fun c348 => ?_)
      · have H := of_pos H c348
        refine L_skip ?_
        refine L_blk (fun Q349 hN349 hX349 hO349 => ?_)
        refine L_seq ?_
        refine L_region ?_
        refine F_val rfl rfl rfl (O_move rfl rfl) ?_
        refine F_val rfl rfl rfl (O_nilCheck rfl rfl) ?_
        refine F_val rfl rfl rfl (O_fieldB rfl rfl field99_1) ?_
        refine F_val rfl rfl rfl (O_loadB rfl rfl flat3 (HS347.cells_box (i := 0) rfl) rfl) ?_
        refine F_val rfl rfl rfl (O_rem rfl rfl rfl (by decide)) ?_
        obtain ⟨x350, h351, H⟩ := of_bnd H
        refine F_val rfl rfl rfl (O_assign' rfl rfl (congrArg (Value.int .i64) h351)) ?_
        refine F_nil ?_
        refine L_seq ?_
        refine L_seq ?_
        refine L_region ?_
        refine F_val rfl rfl rfl (O_move rfl rfl) ?_
        refine F_val rfl rfl rfl (O_eq rfl rfl rfl) ?_
        refine F_nil ?_
        obtain ⟨yj352, Hyj352, H⟩ := of_bind H
        refine L_join (fun a w => ∃ (l370 : List Int), ∃ (A368 : Option Addr), ∃ (c369 : Nat), yj352 = l370 ∧ Is Try.f56.ntmps a [(0, .pointer (some ⟨g_w_0, 0, none⟩)), (1, .int .u64 v_344), (2, .int .i64 n_345), (6, .int .i64 x350)] ∧ Hp S0 w0 w [.box g_w_0 [.slice A368 l370.length c369, .int .i64 y343] 99, .own A368 c369 (rowC (Eint .u8) l370) 5 (Eint .u8).sz]) (fun Qj352 hNj352 hOj352 => ?_) (fun a w hR => ?_)
        · skip
          have H := Hyj352
          refine L_condP rfl (fun c371 => ?_) (fun c371 => ?_)
          · have H := of_pos H c371
            refine L_region ?_
            refine F_val rfl rfl rfl (O_move rfl rfl) ?_
            refine F_val rfl rfl rfl (O_move rfl rfl) ?_
            refine F_val rfl rfl rfl (O_nilCheck rfl rfl) ?_
            refine F_val rfl rfl rfl (O_fieldB rfl rfl field99_0) ?_
            refine F_val rfl rfl rfl (O_loadB rfl rfl flat35 (HS347.cells_box (i := 0) rfl) rfl) ?_
            refine F_litE (E := (Eint .u8)) (e := 5) [(0, .int .u8 0)] [0] rfl rfl rfl rfl rfl rfl rfl (by decide) (fun w => by kernel_rfl) HS347 (fun w372 A374 c375 HS373 => ?_)
            have HS373 : Hp S0 w0 w372 [.box g_w_0 [.slice A340 l342.length c341, .int .i64 y343] 99, .own A340 c341 (rowC (Eint .u8) l342) 5 (Eint .u8).sz, .own A374 c375 (rowC (Eint .u8) [0]) 5 (Eint .u8).sz] := HS373
            obtain ⟨l379, h380, H⟩ := of_bnd H
            obtain ⟨g381, H⟩ := of_gd H
            refine F_appE (E := (Eint .u8)) (xs := l342) (ys := [0]) (i := 1) rfl rfl rfl rfl Try.underlying35 info5 rfl (by decide) (by decide) rfl rfl HS373 rfl (HS373.cells_own (i := 2) rfl) h380 g381 (fun w377 A382 c383 HS378 => ?_)
            have HS378 : Hp S0 w0 w377 [.box g_w_0 [.slice A340 l342.length c341, .int .i64 y343] 99, .own A382 c383 (rowC (Eint .u8) l379) 5 (Eint .u8).sz, .own A374 c375 (rowC (Eint .u8) [0]) 5 (Eint .u8).sz] := HS378
            refine F_val rfl rfl rfl (O_nilCheck rfl rfl) ?_
            refine F_val rfl rfl rfl (O_fieldB rfl rfl field99_0) ?_
            refine F_stB 0 ([.slice A382 l379.length c383, .int .i64 y343]) rfl rfl rfl rfl rfl size35 HS378 rfl rfl rfl rfl rfl (fun w384 HS385 => ?_)
            have HS385 : Hp S0 w0 w384 [.box g_w_0 [.slice A382 l379.length c383, .int .i64 y343] 99, .own A382 c383 (rowC (Eint .u8) l379) 5 (Eint .u8).sz, .own A374 c375 (rowC (Eint .u8) [0]) 5 (Eint .u8).sz] := HS385
            refine F_nil ?_
            refine L_nil (fun a ha => hNj352 a _ ⟨_, _, _, (Option.some.inj H).symm, Is.cons ha (Is.cons ha (Is.cons ha (Is.cons ha (Is.nil ha) rfl) rfl) rfl) rfl, HS385.sel [0, 1] rfl⟩)
          · have H := of_neg H c371
            refine L_skip ?_
            refine L_nil (fun a ha => hNj352 a _ ⟨_, _, _, (Option.some.inj H).symm, Is.cons ha (Is.cons ha (Is.cons ha (Is.cons ha (Is.nil ha) rfl) rfl) rfl) rfl, HS347.sel [0, 1] rfl⟩)
        · obtain ⟨l370, A368, c369, ej, ha, HS387⟩ := hR
          obtain rfl := ej.symm
          refine wpLF_app ?_ ha
          refine L_seq ?_
          refine L_region ?_
          refine F_val rfl rfl rfl (O_move rfl rfl) ?_
          refine F_val rfl rfl rfl (O_sub rfl rfl rfl) ?_
          refine F_val rfl rfl rfl (O_move rfl rfl) ?_
          refine F_val rfl rfl rfl (O_min rfl rfl rfl) ?_
          obtain ⟨x388, h389, H⟩ := of_bnd H
          refine F_val rfl rfl rfl (O_assign' rfl rfl (congrArg (Value.int .i64) h389)) ?_
          refine F_nil ?_
          refine L_seq ?_
          refine L_region ?_
          refine F_val rfl rfl rfl (O_move rfl rfl) ?_
          refine F_val rfl rfl rfl (O_move rfl rfl) ?_
          refine F_val rfl rfl rfl (O_conv rfl rfl ⟨_, Try.underlying3⟩ Try.underlying75) ?_
          obtain ⟨g390, H⟩ := of_gd H
          refine F_val rfl rfl rfl (O_shl rfl rfl rfl g390) ?_
          refine F_val rfl rfl rfl (O_sub rfl rfl rfl) ?_
          refine F_val rfl rfl rfl (O_and rfl rfl rfl) ?_
          obtain ⟨x391, h392, H⟩ := of_bnd H
          refine F_val rfl rfl rfl (O_assign' rfl rfl (congrArg (Value.int .u64) h392)) ?_
          refine F_nil ?_
          refine L_seq ?_
          refine L_tail 19 mix (by kernel_rfl) (fun w393 hw394 => ?_)
          have HS395 := HS387.keep hw394
          refine S_val rfl rfl rfl (O_move rfl rfl) ?_
          refine S_val rfl rfl rfl (O_nilCheck rfl rfl) ?_
          refine S_val rfl rfl rfl (O_fieldB rfl rfl field99_0) ?_
          refine S_val rfl rfl rfl (O_loadB rfl rfl flat35 (HS395.cells_box (i := 0) rfl) rfl) ?_
          refine S_val rfl rfl rfl (O_move rfl rfl) ?_
          refine S_val rfl rfl rfl (O_nilCheck rfl rfl) ?_
          refine S_val rfl rfl rfl (O_fieldB rfl rfl field99_0) ?_
          refine S_val rfl rfl rfl (O_loadB rfl rfl flat35 (HS395.cells_box (i := 0) rfl) rfl) ?_
          refine S_val rfl rfl rfl (O_len rfl rfl Try.underlying35) ?_
          refine S_val rfl rfl rfl (O_sub rfl rfl rfl) ?_
          obtain ⟨⟨g396, g397⟩, H⟩ := of_gd H
          refine S_val rfl rfl rfl (O_idx rfl rfl rfl Try.underlying35 size5 g396 g397 (Cells.isA (HS395.cells_own (i := 1) rfl) (rowC_ne (E := (Eint .u8)) g396 g397 (by decide)))) ?_
          refine S_val rfl rfl rfl (O_loadC rfl rfl flat5 (HS395.cells_own (i := 1) rfl) (int_cell g396 g397)) ?_
          refine S_val rfl rfl rfl (O_move rfl rfl) ?_
          refine S_val rfl rfl rfl (O_move rfl rfl) ?_
          refine S_val rfl rfl rfl (O_conv rfl rfl ⟨_, Try.underlying3⟩ Try.underlying75) ?_
          obtain ⟨g398, H⟩ := of_gd H
          refine S_val rfl rfl rfl (O_shl rfl rfl rfl g398) ?_
          refine S_val rfl rfl rfl (O_conv rfl rfl ⟨_, Try.underlying87⟩ Try.underlying5) ?_
          refine S_val rfl rfl rfl (O_or rfl rfl rfl) ?_
          refine S_val rfl rfl rfl (O_idx rfl rfl rfl Try.underlying35 size5 g396 g397 (Cells.isA (HS395.cells_own (i := 1) rfl) (rowC_ne (E := (Eint .u8)) g396 g397 (by decide)))) ?_
          refine S_nil ?_
          obtain ⟨l401, h402, H⟩ := of_bnd H
          refine F_setE (E := (Eint .u8)) (i := 1) (a := bor .u8 (rd l370 (IntKind.i64.wrap ((l370.length : Int) - 1))) (IntKind.u8.wrap (shl .u64 x391 (IntKind.u64.wrap x350)))) (q := IntKind.i64.wrap ((l370.length : Int) - 1)) rfl rfl rfl rfl rfl rfl size5 HS395 rfl (by decide) g396 g397 h402 (fun w399 HS400 => ?_)
          have e403 : l370.length = l401.length := by rw [← h402, List.length_set]
          have HS400 : Hp S0 w0 w399 [.box g_w_0 [.slice A368 l401.length c369, .int .i64 y343] 99, .own A368 c369 (rowC (Eint .u8) l401) 5 (Eint .u8).sz] := (by rw [← e403]; exact HS400)
          refine F_nil ?_
          refine L_seq ?_
          refine L_region ?_
          refine F_val rfl rfl rfl (O_move rfl rfl) ?_
          refine F_val rfl rfl rfl (O_move rfl rfl) ?_
          refine F_val rfl rfl rfl (O_conv rfl rfl ⟨_, Try.underlying3⟩ Try.underlying75) ?_
          refine F_val rfl rfl rfl (O_shr rfl rfl rfl g390) ?_
          obtain ⟨x404, h405, H⟩ := of_bnd H
          refine F_val rfl rfl rfl (O_assign' rfl rfl (congrArg (Value.int .u64) h405)) ?_
          refine F_nil ?_
          refine L_seq ?_
          refine L_region ?_
          refine F_val rfl rfl rfl (O_move rfl rfl) ?_
          refine F_val rfl rfl rfl (O_move rfl rfl) ?_
          refine F_val rfl rfl rfl (O_sub rfl rfl rfl) ?_
          obtain ⟨x406, h407, H⟩ := of_bnd H
          refine F_val rfl rfl rfl (O_assign' rfl rfl (congrArg (Value.int .i64) h407)) ?_
          refine F_nil ?_
          refine L_region ?_
          refine F_val rfl rfl rfl (O_move rfl rfl) ?_
          refine F_val rfl rfl rfl (O_nilCheck rfl rfl) ?_
          refine F_val rfl rfl rfl (O_fieldB rfl rfl field99_1) ?_
          refine F_val rfl rfl rfl (O_loadB rfl rfl flat3 (HS400.cells_box (i := 0) rfl) rfl) ?_
          refine F_val rfl rfl rfl (O_move rfl rfl) ?_
          refine F_val rfl rfl rfl (O_add rfl rfl rfl) ?_
          refine F_val rfl rfl rfl (O_nilCheck rfl rfl) ?_
          refine F_val rfl rfl rfl (O_fieldB rfl rfl field99_1) ?_
          refine F_stB 0 ([.slice A368 l401.length c369, .int .i64 (IntKind.i64.wrap (y343 + x388))]) rfl rfl rfl rfl rfl size3 HS400 rfl rfl rfl rfl rfl (fun w408 HS409 => ?_)
          have HS409 : Hp S0 w0 w408 [.box g_w_0 [.slice A368 l401.length c369, .int .i64 (IntKind.i64.wrap (y343 + x388))] 99, .own A368 c369 (rowC (Eint .u8) l401) 5 (Eint .u8).sz] := HS409
          refine F_nil ?_
          refine L_endB hN349 ?_
          refine L_nil (fun a ha => hNp339 _ a _ (Nat.lt_succ_self _) ⟨_, _, _, _, _, _, Is.cons ha (Is.cons ha (Is.cons ha (Is.nil ha) rfl) rfl) rfl, HS409.sel [0, 1] rfl, H⟩)
      · have H := of_neg H c348
        refine L_exitB (fun a w h => hOp339 (.exit 0) a w rfl (hXb208 a w h)) ?_
        refine L_nil (fun a ha => hNj1 a _ ⟨_, _, _, _, (Option.some.inj H).symm, Is.nil ha, HS347.sel [0, 1] rfl⟩)
  · obtain ⟨l206, y207, A204, c205, rfl, ha, HS411⟩ := hR
    refine wpLF_app ?_ ha
    refine L_nil (fun a ha => (post_end0 ha rfl ?_))
    obtain rfl := Option.some.inj H
    exact ⟨_, _, rfl, HS411.sel [0, 1] rfl⟩

/-! function 19: (*valise/bits.Writer).Put -/
theorem bits_Writer_Put.calls {S0 : Nat → Prop} {w0 : World} {g_w_0 : Nat} {A_w_0_bytes : Option Addr} {c_w_0_bytes : Nat} {w_0_bytes : List Int} {w_0_count : Int} {v_1 : Int} {n_2 : Int} {r : Int × List Int × Int} (HS0 : Hp S0 w0 w0 [.box g_w_0 [.slice A_w_0_bytes w_0_bytes.length c_w_0_bytes, .int .i64 w_0_count] 99, .own A_w_0_bytes c_w_0_bytes (rowC (Eint .u8) w_0_bytes) 5 (Eint .u8).sz]) (h : bits_Writer_Put.f w_0_bytes w_0_count v_1 n_2 = some r) :
    Calls Try.prog 19 ([.pointer (some ⟨g_w_0, 0, none⟩), .int .u32 v_1, .int .i64 n_2] : List Value).toArray w0 (fun e w => ∃ (A_w_0_bytes' : Option Addr), ∃ (c_w_0_bytes' : Nat), e = .returned (.int .i64 r.1) ∧ Hp S0 w0 w [.box g_w_0 [.slice A_w_0_bytes' r.2.1.length c_w_0_bytes', .int .i64 r.2.2] 99, .own A_w_0_bytes' c_w_0_bytes' (rowC (Eint .u8) r.2.1) 5 (Eint .u8).sz]) := by
  have H : (((if (n_2 < 0) ∨ (32 < n_2) then (some true) else (gd (¬ (IntKind.u64.wrap n_2) < 0) (some (decide (shr .u64 (IntKind.u64.wrap v_1) (IntKind.u64.wrap n_2) ≠ 0))))).bind fun b3 => if (b3 = true) ∨ (268435456 < IntKind.i64.wrap (w_0_count + n_2)) then (some (1, w_0_bytes, w_0_count)) else ((bits_Writer_lay.f w_0_bytes w_0_count (IntKind.u64.wrap v_1) n_2).bind fun (z12, z13) => some (0, z12, z13))) : Option (Int × List Int × Int)) = some r := h
  refine calls_start Try.func19 rfl rfl ?_
  refine L_seq ?_
  refine L_region ?_
  refine F_val rfl rfl rfl (O_assign rfl rfl) ?_
  refine F_nil ?_
  refine L_seq ?_
  refine L_seq ?_
  refine L_region ?_
  refine F_val rfl rfl rfl (O_move rfl rfl) ?_
  refine F_val rfl rfl rfl (O_peq rfl rfl rfl Try.underlying31) ?_
  refine F_val rfl rfl rfl (O_move rfl rfl) ?_
  refine F_gval rfl rfl rfl rfl rfl rfl (O_move rfl rfl) ?_
  refine F_gval rfl rfl rfl rfl rfl rfl (O_lt rfl rfl rfl) ?_
  refine F_val rfl rfl rfl (O_pickF rfl rfl rfl) ?_
  refine F_val rfl rfl rfl (O_move rfl rfl) ?_
  refine F_grp 3 [(16, .bool (decide ((n_2 < 0) ∨ (32 < n_2)))), (0, .pointer (some ⟨g_w_0, 0, none⟩)), (1, .int .u32 v_1), (2, .int .i64 n_2)] ?_ ?_
  · rcases Decidable.em (n_2 < 0) with c1 | c1
    · refine F_know (i := 13) rfl (dec_t c1) ?_
      refine F_gskip rfl rfl rfl rfl rfl rfl rfl ?_
      refine F_gskip rfl rfl rfl rfl rfl rfl rfl ?_
      refine F_val rfl rfl rfl (O_pickT rfl rfl rfl) ?_
      refine F_know (i := 16) rfl (dec_or_t (q := 32 < n_2) c1) ?_
      exact F_grpE (fun a ha => Is.cons ha (Is.cons ha (Is.cons ha (Is.cons ha (Is.nil ha) rfl) rfl) rfl) rfl)
    · refine F_know (i := 13) rfl (dec_f c1) ?_
      refine F_gval rfl rfl rfl rfl rfl rfl (O_move rfl rfl) ?_
      refine F_gval rfl rfl rfl rfl rfl rfl (O_gt rfl rfl rfl) ?_
      refine F_val rfl rfl rfl (O_pickF rfl rfl rfl) ?_
      refine F_know (i := 16) rfl (dec_or_f (q := 32 < n_2) c1) ?_
      exact F_grpE (fun a ha => Is.cons ha (Is.cons ha (Is.cons ha (Is.cons ha (Is.nil ha) rfl) rfl) rfl) rfl)
  · skip
    refine F_val rfl rfl rfl (O_move rfl rfl) ?_
    obtain ⟨b3, Hb3, H⟩ := of_bind H
    refine F_grp 7 [(24, .bool b3), (0, .pointer (some ⟨g_w_0, 0, none⟩)), (1, .int .u32 v_1), (2, .int .i64 n_2)] ?_ ?_
    · rcases Decidable.em ((n_2 < 0) ∨ (32 < n_2)) with c4 | c4
      · refine F_know (i := 17) rfl (dec_t c4) ?_
        have H := of_pos Hb3 c4
        refine F_gskip rfl rfl rfl rfl rfl rfl rfl ?_
        refine F_gskip rfl rfl rfl rfl rfl rfl rfl ?_
        refine F_gskip rfl rfl rfl rfl rfl rfl rfl ?_
        refine F_gskip rfl rfl rfl rfl rfl rfl rfl ?_
        refine F_gskip rfl rfl rfl rfl rfl rfl rfl ?_
        refine F_gskip rfl rfl rfl rfl rfl rfl rfl ?_
        refine F_val rfl rfl rfl (O_pickT rfl rfl rfl) ?_
        refine F_know (i := 24) rfl (congrArg Value.bool (Option.some.inj H)) ?_
        exact F_grpE (fun a ha => Is.cons ha (Is.cons ha (Is.cons ha (Is.cons ha (Is.nil ha) rfl) rfl) rfl) rfl)
      · refine F_know (i := 17) rfl (dec_f c4) ?_
        have H := of_neg Hb3 c4
        refine F_gval rfl rfl rfl rfl rfl rfl (O_move rfl rfl) ?_
        refine F_gval rfl rfl rfl rfl rfl rfl (O_conv rfl rfl ⟨_, Try.underlying22⟩ Try.underlying87) ?_
        refine F_gval rfl rfl rfl rfl rfl rfl (O_move rfl rfl) ?_
        refine F_gval rfl rfl rfl rfl rfl rfl (O_conv rfl rfl ⟨_, Try.underlying3⟩ Try.underlying75) ?_
        obtain ⟨g5, H⟩ := of_gd H
        refine F_gval rfl rfl rfl rfl rfl rfl (O_shr rfl rfl rfl g5) ?_
        refine F_gval rfl rfl rfl rfl rfl rfl (O_ne rfl rfl rfl) ?_
        refine F_val rfl rfl rfl (O_pickF rfl rfl rfl) ?_
        refine F_know (i := 24) rfl (congrArg Value.bool (Option.some.inj H)) ?_
        exact F_grpE (fun a ha => Is.cons ha (Is.cons ha (Is.cons ha (Is.cons ha (Is.nil ha) rfl) rfl) rfl) rfl)
    · skip
      refine F_val rfl rfl rfl (O_move rfl rfl) ?_
      refine F_grp 8 [(33, .bool (decide ((b3 = true) ∨ (268435456 < IntKind.i64.wrap (w_0_count + n_2))))), (0, .pointer (some ⟨g_w_0, 0, none⟩)), (1, .int .u32 v_1), (2, .int .i64 n_2)] ?_ ?_
      · rcases Decidable.em (b3 = true) with c6 | c6
        · refine F_know (i := 25) rfl (congrArg Value.bool c6) ?_
          refine F_gskip rfl rfl rfl rfl rfl rfl rfl ?_
          refine F_gskip rfl rfl rfl rfl rfl rfl rfl ?_
          refine F_gskip rfl rfl rfl rfl rfl rfl rfl ?_
          refine F_gskip rfl rfl rfl rfl rfl rfl rfl ?_
          refine F_gskip rfl rfl rfl rfl rfl rfl rfl ?_
          refine F_gskip rfl rfl rfl rfl rfl rfl rfl ?_
          refine F_gskip rfl rfl rfl rfl rfl rfl rfl ?_
          refine F_val rfl rfl rfl (O_pickT rfl rfl rfl) ?_
          refine F_know (i := 33) rfl (dec_or_t (q := 268435456 < IntKind.i64.wrap (w_0_count + n_2)) c6) ?_
          exact F_grpE (fun a ha => Is.cons ha (Is.cons ha (Is.cons ha (Is.cons ha (Is.nil ha) rfl) rfl) rfl) rfl)
        · refine F_know (i := 25) rfl (congrArg Value.bool (Bool.eq_false_iff.mpr c6)) ?_
          refine F_gval rfl rfl rfl rfl rfl rfl (O_move rfl rfl) ?_
          refine F_gval rfl rfl rfl rfl rfl rfl (O_nilCheck rfl rfl) ?_
          refine F_gval rfl rfl rfl rfl rfl rfl (O_fieldB rfl rfl field99_1) ?_
          refine F_gval rfl rfl rfl rfl rfl rfl (O_loadB rfl rfl flat3 (HS0.cells_box (i := 0) rfl) rfl) ?_
          refine F_gval rfl rfl rfl rfl rfl rfl (O_move rfl rfl) ?_
          refine F_gval rfl rfl rfl rfl rfl rfl (O_add rfl rfl rfl) ?_
          refine F_gval rfl rfl rfl rfl rfl rfl (O_gt rfl rfl rfl) ?_
          refine F_val rfl rfl rfl (O_pickF rfl rfl rfl) ?_
          refine F_know (i := 33) rfl (dec_or_f (q := 268435456 < IntKind.i64.wrap (w_0_count + n_2)) c6) ?_
          exact F_grpE (fun a ha => Is.cons ha (Is.cons ha (Is.cons ha (Is.cons ha (Is.nil ha) rfl) rfl) rfl) rfl)
      · skip
        refine F_nil ?_
        refine L_condP rfl (fun c7 => ?_) (fun c7 => ?_)
        · have H := of_pos H c7
          refine L_seq ?_
          refine L_region ?_
          refine F_val rfl rfl rfl (O_assign rfl rfl) ?_
          refine F_nil ?_
          refine L_ret (fun a ha => (post_ret1 ha rfl rfl ?_))
          obtain rfl := Option.some.inj H
          exact ⟨_, _, rfl, HS0.sel [0, 1] rfl⟩
        · have H := of_neg H c7
          refine L_skip ?_
          refine L_seq ?_
          refine L_region ?_
          refine F_val rfl rfl rfl (O_move rfl rfl) ?_
          refine F_val rfl rfl rfl (O_move rfl rfl) ?_
          refine F_val rfl rfl rfl (O_conv rfl rfl ⟨_, Try.underlying22⟩ Try.underlying87) ?_
          refine F_val rfl rfl rfl (O_move rfl rfl) ?_
          obtain ⟨⟨z12, z13⟩, h11, H⟩ := of_bind H
          refine F_call (xs := [.tmp 34, .tmp 36, .tmp 37]) rfl rfl rfl rfl Try.func56 nm56 rfl rfl ((bits_Writer_lay.calls (HS0.give [0, 1] rfl (Lent.nil)) h11).mono (fun e w hc => ?_))
          obtain ⟨A16, c17, rfl, HSo⟩ := hc
          refine ⟨.tuple #[], rfl, ?_⟩
          have HS15 : Hp S0 w0 w [.box g_w_0 [.slice A16 z12.length c17, .int .i64 z13] 99, .own A16 c17 (rowC (Eint .u8) z12) 5 (Eint .u8).sz] := (HS0.back [0, 1] HSo rfl).sel [2, 3] rfl
          refine F_nil ?_
          refine L_seq ?_
          refine L_region ?_
          refine F_val rfl rfl rfl (O_assign rfl rfl) ?_
          refine F_nil ?_
          refine L_ret (fun a ha => (post_ret1 ha rfl rfl ?_))
          obtain rfl := Option.some.inj H
          exact ⟨_, _, rfl, HS15.sel [0, 1] rfl⟩

/-! function 23: (*valise/bits.Writer).Len -/
theorem bits_Writer_Len.calls {S0 : Nat → Prop} {w0 : World} {g_w_0 : Nat} {A_w_0_bytes : Option Addr} {c_w_0_bytes : Nat} {w_0_bytes : List Int} {w_0_count : Int} {r : Int} (HS0 : Hp S0 w0 w0 [.rd (some ⟨g_w_0, 0, none⟩) [.slice A_w_0_bytes w_0_bytes.length c_w_0_bytes, .int .i64 w_0_count], .rd A_w_0_bytes (rowC (Eint .u8) w_0_bytes)]) (h : bits_Writer_Len.f w_0_bytes w_0_count = some r) :
    Calls Try.prog 23 ([.pointer (some ⟨g_w_0, 0, none⟩)] : List Value).toArray w0 (fun e w => e = .returned (.int .i64 r) ∧ Hp S0 w0 w []) := by
  have H : ((some w_0_count) : Option (Int)) = some r := h
  refine calls_start Try.func23 rfl rfl ?_
  refine L_seq ?_
  refine L_region ?_
  refine F_val rfl rfl rfl (O_assign rfl rfl) ?_
  refine F_nil ?_
  refine L_seq ?_
  refine L_seq ?_
  refine L_region ?_
  refine F_val rfl rfl rfl (O_move rfl rfl) ?_
  refine F_val rfl rfl rfl (O_peq rfl rfl rfl Try.underlying31) ?_
  refine F_nil ?_
  refine L_cond rfl (fun hx => by cases hx) (fun _ => ?_)
  refine L_skip ?_
  refine L_seq ?_
  refine L_region ?_
  refine F_val rfl rfl rfl (O_move rfl rfl) ?_
  refine F_val rfl rfl rfl (O_nilCheck rfl rfl) ?_
  refine F_val rfl rfl rfl (O_fieldB rfl rfl field99_1) ?_
  refine F_val rfl rfl rfl (O_loadB rfl rfl flat3 (HS0.cells_rd (i := 0) rfl) rfl) ?_
  refine F_val rfl rfl rfl (O_assign rfl rfl) ?_
  refine F_nil ?_
  refine L_ret (fun a ha => (post_ret1 ha rfl rfl ?_))
  obtain rfl := Option.some.inj H
  exact ⟨rfl, HS0.sel [] rfl⟩

/-! function 52: (*valise/bits.Writer).Align -/
theorem bits_Writer_Align_n0.calls {S0 : Nat → Prop} {w0 : World} {r : Unit} (HS0 : Hp S0 w0 w0 []) (h : bits_Writer_Align_n0.f = some r) :
    Calls Try.prog 52 ([.pointer none] : List Value).toArray w0 (fun e w => e = .returned (.tuple #[]) ∧ Hp S0 w0 w []) := by
  have H : ((some ()) : Option (Unit)) = some r := h
  refine calls_start Try.func52 rfl rfl ?_
  refine L_seq ?_
  refine L_region ?_
  refine F_val rfl rfl rfl (O_move rfl rfl) ?_
  refine F_val rfl rfl rfl (O_pne rfl rfl rfl Try.underlying31) ?_
  refine F_nil ?_
  refine L_cond rfl (fun hx => by cases hx) (fun _ => ?_)
  refine L_skip ?_
  refine L_nil (fun a ha => (post_end0 ha rfl ?_))
  obtain rfl := Option.some.inj H
  exact ⟨rfl, HS0.sel [] rfl⟩

/-! function 53: (*valise/bits.Reader).Align -/
theorem bits_Reader_Align_n0.calls {S0 : Nat → Prop} {w0 : World} {r : Unit} (HS0 : Hp S0 w0 w0 []) (h : bits_Reader_Align_n0.f = some r) :
    Calls Try.prog 53 ([.pointer none] : List Value).toArray w0 (fun e w => e = .returned (.tuple #[]) ∧ Hp S0 w0 w []) := by
  have H : ((some ()) : Option (Unit)) = some r := h
  refine calls_start Try.func53 rfl rfl ?_
  refine L_seq ?_
  refine L_region ?_
  refine F_val rfl rfl rfl (O_move rfl rfl) ?_
  refine F_val rfl rfl rfl (O_pne rfl rfl rfl Try.underlying42) ?_
  refine F_nil ?_
  refine L_cond rfl (fun hx => by cases hx) (fun _ => ?_)
  refine L_skip ?_
  refine L_nil (fun a ha => (post_end0 ha rfl ?_))
  obtain rfl := Option.some.inj H
  exact ⟨rfl, HS0.sel [] rfl⟩

/-! function 19: (*valise/bits.Writer).Put -/
theorem bits_Writer_Put_n0.calls {S0 : Nat → Prop} {w0 : World} {v_1 : Int} {n_2 : Int} {r : Int} (HS0 : Hp S0 w0 w0 []) (h : bits_Writer_Put_n0.f v_1 n_2 = some r) :
    Calls Try.prog 19 ([.pointer none, .int .u32 v_1, .int .i64 n_2] : List Value).toArray w0 (fun e w => e = .returned (.int .i64 r) ∧ Hp S0 w0 w []) := by
  have H : ((some 1) : Option (Int)) = some r := h
  refine calls_start Try.func19 rfl rfl ?_
  refine L_seq ?_
  refine L_region ?_
  refine F_val rfl rfl rfl (O_assign rfl rfl) ?_
  refine F_nil ?_
  refine L_seq ?_
  refine L_seq ?_
  refine L_region ?_
  refine F_val rfl rfl rfl (O_move rfl rfl) ?_
  refine F_val rfl rfl rfl (O_peq rfl rfl rfl Try.underlying31) ?_
  refine F_val rfl rfl rfl (O_move rfl rfl) ?_
  refine F_gskip rfl rfl rfl rfl rfl rfl rfl ?_
  refine F_gskip rfl rfl rfl rfl rfl rfl rfl ?_
  refine F_val rfl rfl rfl (O_pickT rfl rfl rfl) ?_
  refine F_val rfl rfl rfl (O_move rfl rfl) ?_
  refine F_gskip rfl rfl rfl rfl rfl rfl rfl ?_
  refine F_gskip rfl rfl rfl rfl rfl rfl rfl ?_
  refine F_val rfl rfl rfl (O_pickT rfl rfl rfl) ?_
  refine F_val rfl rfl rfl (O_move rfl rfl) ?_
  refine F_gskip rfl rfl rfl rfl rfl rfl rfl ?_
  refine F_gskip rfl rfl rfl rfl rfl rfl rfl ?_
  refine F_gskip rfl rfl rfl rfl rfl rfl rfl ?_
  refine F_gskip rfl rfl rfl rfl rfl rfl rfl ?_
  refine F_gskip rfl rfl rfl rfl rfl rfl rfl ?_
  refine F_gskip rfl rfl rfl rfl rfl rfl rfl ?_
  refine F_val rfl rfl rfl (O_pickT rfl rfl rfl) ?_
  refine F_val rfl rfl rfl (O_move rfl rfl) ?_
  refine F_gskip rfl rfl rfl rfl rfl rfl rfl ?_
  refine F_gskip rfl rfl rfl rfl rfl rfl rfl ?_
  refine F_gskip rfl rfl rfl rfl rfl rfl rfl ?_
  refine F_gskip rfl rfl rfl rfl rfl rfl rfl ?_
  refine F_gskip rfl rfl rfl rfl rfl rfl rfl ?_
  refine F_gskip rfl rfl rfl rfl rfl rfl rfl ?_
  refine F_gskip rfl rfl rfl rfl rfl rfl rfl ?_
  refine F_val rfl rfl rfl (O_pickT rfl rfl rfl) ?_
  refine F_nil ?_
  refine L_cond rfl (fun _ => ?_) (fun hx => by cases hx)
  refine L_seq ?_
  refine L_region ?_
  refine F_val rfl rfl rfl (O_assign rfl rfl) ?_
  refine F_nil ?_
  refine L_ret (fun a ha => (post_ret1 ha rfl rfl ?_))
  obtain rfl := Option.some.inj H
  exact ⟨rfl, HS0.sel [] rfl⟩

/-! function 26: valise/valiselaw3.copied -/
theorem valiselaw3_copied.calls {S0 : Nat → Prop} {w0 : World} {A_a_0 : Option Addr} {c_a_0 : Nat} {l_a_0 : List Int} {r : List Int} (HS0 : Hp S0 w0 w0 [.rd A_a_0 (rowC (Eint .u8) l_a_0)]) (hc_a_0 : l_a_0.length ≤ c_a_0) (h : valiselaw3_copied.f l_a_0 = some r) :
    Calls Try.prog 26 ([.slice A_a_0 l_a_0.length c_a_0] : List Value).toArray w0 (fun e w => ∃ (A1 : Option Addr), ∃ (c1 : Nat), e = .returned (.slice A1 r.length c1) ∧ Hp S0 w0 w [.own A1 c1 (rowC (Eint .u8) r) 5 (Eint .u8).sz]) := by
  have H : (((valiselaw3_copied.l1 FU ([] : List Int) 0 l_a_0).bind fun l72 => some l72) : Option (List Int)) = some r := h
  refine calls_start Try.func26 rfl rfl ?_
  refine L_seq ?_
  refine L_region ?_
  refine F_val rfl rfl rfl (O_assign rfl rfl) ?_
  refine F_nil ?_
  refine L_seq ?_
  refine L_region ?_
  refine F_val rfl rfl rfl (O_assign rfl rfl) ?_
  have HS1 := HS0.addNil 5 (Eint .u8).sz
  have HS1 : Hp S0 w0 w0 [.rd A_a_0 (rowC (Eint .u8) l_a_0), .own none 0 (rowC (Eint .u8) ([] : List Int)) 5 (Eint .u8).sz] := HS1
  refine F_nil ?_
  refine L_seq ?_
  refine L_seq ?_
  refine L_region ?_
  refine F_val rfl rfl rfl (O_assign rfl rfl) ?_
  refine F_nil ?_
  obtain ⟨yj3, Hyj3, H⟩ := of_bind H
  refine L_join (fun a w => ∃ (l72 : List Int), ∃ (A70 : Option Addr), ∃ (c71 : Nat), yj3 = l72 ∧ Is Try.f26.ntmps a [(3, .slice A70 l72.length c71)] ∧ Hp S0 w0 w [.rd A_a_0 (rowC (Eint .u8) l_a_0), .own A70 c71 (rowC (Eint .u8) l72) 5 (Eint .u8).sz]) (fun Qj3 hNj3 hOj3 => ?_) (fun a w hR => ?_)
  · skip
    have H := Hyj3
    refine L_blk (fun Qb73 hNb73 hXb73 hOb73 => ?_)
    refine L_lp (fun k a w => ∃ (l117 : List Int), ∃ (i_118 : Int), ∃ (A115 : Option Addr), ∃ (c116 : Nat), Is Try.f26.ntmps a [(0, .slice A_a_0 l_a_0.length c_a_0), (3, .slice A115 l117.length c116), (4, .int .i64 i_118)] ∧ Hp S0 w0 w [.rd A_a_0 (rowC (Eint .u8) l_a_0), .own A115 c116 (rowC (Eint .u8) l117) 5 (Eint .u8).sz] ∧ valiselaw3_copied.l1 k l117 i_118 l_a_0 = some yj3) FU (fun a ha => ⟨_, _, _, _, Is.cons ha (Is.cons ha (Is.cons ha (Is.nil ha) rfl) rfl) rfl, HS1.sel [0, 1] rfl, H⟩) (fun kp114 a w119 hI Qp114 hNp114 hOp114 => ?_)
    obtain ⟨l117, i_118, A115, c116, ha, HS120, HAp114⟩ := hI
    cases kp114 with
    | zero => cases (show (none : Option _) = some _ from HAp114)
    | succ kp114 =>
      have H := (valiselaw3_copied.l1.eq_2 ..).symm.trans HAp114
      refine wpLF_app ?_ ha
      refine L_seq ?_
      refine L_seq ?_
      refine L_region ?_
      refine F_val rfl rfl rfl (O_move rfl rfl) ?_
      refine F_val rfl rfl rfl (O_move rfl rfl) ?_
      refine F_val rfl rfl rfl (O_len rfl rfl Try.underlying35) ?_
      refine F_val rfl rfl rfl (O_lt rfl rfl rfl) ?_
      refine F_nil ?_
      refine L_condP rfl (fun c121 => ?_) (fun c121 => ?_)
      · have H := of_pos H c121
        refine L_skip ?_
        refine L_seq ?_
        refine L_blk (fun Q122 hN122 hX122 hO122 => ?_)
        refine L_region ?_
        refine F_val rfl rfl rfl (O_move rfl rfl) ?_
        refine F_val rfl rfl rfl (O_move rfl rfl) ?_
        refine F_val rfl rfl rfl (O_move rfl rfl) ?_
        obtain ⟨⟨g123, g124⟩, H⟩ := of_gd H
        refine F_val rfl rfl rfl (O_idx rfl rfl rfl Try.underlying35 size5 g123 g124 (Cells.isA (HS120.cells_rd (i := 0) rfl) (rowC_ne (E := (Eint .u8)) g123 g124 (by decide)))) ?_
        refine F_val rfl rfl rfl (O_loadC rfl rfl flat5 (HS120.cells_rd (i := 0) rfl) (int_cell g123 g124)) ?_
        refine F_litE (E := (Eint .u8)) (e := 5) [(0, .int .u8 (rd l_a_0 i_118))] [rd l_a_0 i_118] rfl rfl rfl rfl rfl rfl rfl (by decide) (fun w => by kernel_rfl) HS120 (fun w125 A127 c128 HS126 => ?_)
        have HS126 : Hp S0 w0 w125 [.rd A_a_0 (rowC (Eint .u8) l_a_0), .own A115 c116 (rowC (Eint .u8) l117) 5 (Eint .u8).sz, .own A127 c128 (rowC (Eint .u8) [rd l_a_0 i_118]) 5 (Eint .u8).sz] := HS126
        obtain ⟨l132, h133, H⟩ := of_bnd H
        obtain ⟨g134, H⟩ := of_gd H
        refine F_appE (E := (Eint .u8)) (xs := l117) (ys := [rd l_a_0 i_118]) (i := 1) rfl rfl rfl rfl Try.underlying35 info5 rfl (by decide) (by decide) rfl rfl HS126 rfl (HS126.cells_own (i := 2) rfl) h133 g134 (fun w130 A135 c136 HS131 => ?_)
        have HS131 : Hp S0 w0 w130 [.rd A_a_0 (rowC (Eint .u8) l_a_0), .own A135 c136 (rowC (Eint .u8) l132) 5 (Eint .u8).sz, .own A127 c128 (rowC (Eint .u8) [rd l_a_0 i_118]) 5 (Eint .u8).sz] := HS131
        refine F_val rfl rfl rfl (O_assign rfl rfl) ?_
        refine F_nil ?_
        refine L_endB hN122 ?_
        refine L_region ?_
        refine F_val rfl rfl rfl (O_move rfl rfl) ?_
        refine F_val rfl rfl rfl (O_add rfl rfl rfl) ?_
        obtain ⟨x137, h138, H⟩ := of_bnd H
        refine F_val rfl rfl rfl (O_assign' rfl rfl (congrArg (Value.int .i64) h138)) ?_
        refine F_nil ?_
        refine L_nil (fun a ha => hNp114 _ a _ (Nat.lt_succ_self _) ⟨_, _, _, _, Is.cons ha (Is.cons ha (Is.cons ha (Is.nil ha) rfl) rfl) rfl, HS131.sel [0, 1] rfl, H⟩)
      · have H := of_neg H c121
        refine L_exitB (fun a w h => hOp114 (.exit 0) a w rfl (hXb73 a w h)) ?_
        refine L_nil (fun a ha => hNj3 a _ ⟨_, _, _, (Option.some.inj H).symm, Is.cons ha (Is.nil ha) rfl, HS120.sel [0, 1] rfl⟩)
  · obtain ⟨l72, A70, c71, ej, ha, HS140⟩ := hR
    obtain rfl := ej.symm
    refine wpLF_app ?_ ha
    refine L_seq ?_
    refine L_region ?_
    refine F_val rfl rfl rfl (O_move rfl rfl) ?_
    refine F_val rfl rfl rfl (O_assign rfl rfl) ?_
    refine F_nil ?_
    refine L_ret (fun a ha => (post_ret1 ha rfl rfl ?_))
    obtain rfl := Option.some.inj H
    exact ⟨_, _, rfl, HS140.sel [1] rfl⟩

/-! function 37: (*valise/bits.Writer).Raw -/
theorem bits_Writer_Raw_n0.calls {S0 : Nat → Prop} {w0 : World} {A_data_1 : Option Addr} {c_data_1 : Nat} {l_data_1 : List Int} {r : Int} (HS0 : Hp S0 w0 w0 [.rd A_data_1 (rowC (Eint .u8) l_data_1)]) (hc_data_1 : l_data_1.length ≤ c_data_1) (h : bits_Writer_Raw_n0.f l_data_1 = some r) :
    Calls Try.prog 37 ([.pointer none, .slice A_data_1 l_data_1.length c_data_1] : List Value).toArray w0 (fun e w => e = .returned (.int .i64 r) ∧ Hp S0 w0 w []) := by
  have H : ((some 1) : Option (Int)) = some r := h
  refine calls_start Try.func37 rfl rfl ?_
  refine L_seq ?_
  refine L_region ?_
  refine F_val rfl rfl rfl (O_assign rfl rfl) ?_
  refine F_nil ?_
  refine L_seq ?_
  refine L_seq ?_
  refine L_region ?_
  refine F_val rfl rfl rfl (O_move rfl rfl) ?_
  refine F_val rfl rfl rfl (O_peq rfl rfl rfl Try.underlying31) ?_
  refine F_val rfl rfl rfl (O_move rfl rfl) ?_
  refine F_gskip rfl rfl rfl rfl rfl rfl rfl ?_
  refine F_gskip rfl rfl rfl rfl rfl rfl rfl ?_
  refine F_gskip rfl rfl rfl rfl rfl rfl rfl ?_
  refine F_val rfl rfl rfl (O_pickT rfl rfl rfl) ?_
  refine F_val rfl rfl rfl (O_move rfl rfl) ?_
  refine F_gskip rfl rfl rfl rfl rfl rfl rfl ?_
  refine F_gskip rfl rfl rfl rfl rfl rfl rfl ?_
  refine F_gskip rfl rfl rfl rfl rfl rfl rfl ?_
  refine F_gskip rfl rfl rfl rfl rfl rfl rfl ?_
  refine F_gskip rfl rfl rfl rfl rfl rfl rfl ?_
  refine F_gskip rfl rfl rfl rfl rfl rfl rfl ?_
  refine F_gskip rfl rfl rfl rfl rfl rfl rfl ?_
  refine F_gskip rfl rfl rfl rfl rfl rfl rfl ?_
  refine F_gskip rfl rfl rfl rfl rfl rfl rfl ?_
  refine F_val rfl rfl rfl (O_pickT rfl rfl rfl) ?_
  refine F_nil ?_
  refine L_cond rfl (fun _ => ?_) (fun hx => by cases hx)
  refine L_seq ?_
  refine L_region ?_
  refine F_val rfl rfl rfl (O_assign rfl rfl) ?_
  refine F_nil ?_
  refine L_ret (fun a ha => (post_ret1 ha rfl rfl ?_))
  obtain rfl := Option.some.inj H
  exact ⟨rfl, HS0.sel [] rfl⟩

/-! function 22: (*valise/bits.Writer).Join -/
theorem bits_Writer_Join_n0.calls {S0 : Nat → Prop} {w0 : World} {g_x_1 : Nat} {A_x_1_bytes : Option Addr} {c_x_1_bytes : Nat} {x_1_bytes : List Int} {x_1_count : Int} {r : Int} (HS0 : Hp S0 w0 w0 [.rd (some ⟨g_x_1, 0, none⟩) [.slice A_x_1_bytes x_1_bytes.length c_x_1_bytes, .int .i64 x_1_count], .rd A_x_1_bytes (rowC (Eint .u8) x_1_bytes)]) (h : bits_Writer_Join_n0.f x_1_bytes x_1_count = some r) :
    Calls Try.prog 22 ([.pointer none, .pointer (some ⟨g_x_1, 0, none⟩)] : List Value).toArray w0 (fun e w => e = .returned (.int .i64 r) ∧ Hp S0 w0 w []) := by
  have H : ((some 1) : Option (Int)) = some r := h
  refine calls_start Try.func22 rfl rfl ?_
  refine L_seq ?_
  refine L_region ?_
  refine F_val rfl rfl rfl (O_assign rfl rfl) ?_
  refine F_nil ?_
  refine L_seq ?_
  refine L_seq ?_
  refine L_quiet mix (by kernel_rfl) ?_
  refine Q_val rfl rfl rfl (fun wq hq => O_move rfl rfl) ?_
  refine Q_val rfl rfl rfl (fun wq hq => O_peq rfl rfl rfl Try.underlying31) ?_
  refine Q_val rfl rfl rfl (fun wq hq => O_move rfl rfl) ?_
  refine Q_gskip rfl rfl rfl rfl rfl rfl rfl ?_
  refine Q_gskip rfl rfl rfl rfl rfl rfl rfl ?_
  refine Q_val rfl rfl rfl (fun wq hq => O_pickT rfl rfl rfl) ?_
  refine Q_val rfl rfl rfl (fun wq hq => O_move rfl rfl) ?_
  refine Q_gskip rfl rfl rfl rfl rfl rfl rfl ?_
  refine Q_gskip rfl rfl rfl rfl rfl rfl rfl ?_
  refine Q_gskip rfl rfl rfl rfl rfl rfl rfl ?_
  refine Q_gskip rfl rfl rfl rfl rfl rfl rfl ?_
  refine Q_gskip rfl rfl rfl rfl rfl rfl rfl ?_
  refine Q_gskip rfl rfl rfl rfl rfl rfl rfl ?_
  refine Q_gskip rfl rfl rfl rfl rfl rfl rfl ?_
  refine Q_gskip rfl rfl rfl rfl rfl rfl rfl ?_
  refine Q_gskip rfl rfl rfl rfl rfl rfl rfl ?_
  refine Q_gskip rfl rfl rfl rfl rfl rfl rfl ?_
  refine Q_val rfl rfl rfl (fun wq hq => O_pickT rfl rfl rfl) ?_
  refine Q_nil (fun w1 hw2 => ?_)
  have HS3 := HS0.keep hw2
  refine L_cond rfl (fun _ => ?_) (fun hx => by cases hx)
  refine L_seq ?_
  refine L_region ?_
  refine F_val rfl rfl rfl (O_assign rfl rfl) ?_
  refine F_nil ?_
  refine L_ret (fun a ha => (post_ret1 ha rfl rfl ?_))
  obtain rfl := Option.some.inj H
  exact ⟨rfl, HS3.sel [] rfl⟩

/-! function 23: (*valise/bits.Writer).Len -/
theorem bits_Writer_Len_n0.calls {S0 : Nat → Prop} {w0 : World} {r : Int} (HS0 : Hp S0 w0 w0 []) (h : bits_Writer_Len_n0.f = some r) :
    Calls Try.prog 23 ([.pointer none] : List Value).toArray w0 (fun e w => e = .returned (.int .i64 r) ∧ Hp S0 w0 w []) := by
  have H : ((some 0) : Option (Int)) = some r := h
  refine calls_start Try.func23 rfl rfl ?_
  refine L_seq ?_
  refine L_region ?_
  refine F_val rfl rfl rfl (O_assign rfl rfl) ?_
  refine F_nil ?_
  refine L_seq ?_
  refine L_seq ?_
  refine L_region ?_
  refine F_val rfl rfl rfl (O_move rfl rfl) ?_
  refine F_val rfl rfl rfl (O_peq rfl rfl rfl Try.underlying31) ?_
  refine F_nil ?_
  refine L_cond rfl (fun _ => ?_) (fun hx => by cases hx)
  refine L_seq ?_
  refine L_region ?_
  refine F_val rfl rfl rfl (O_assign rfl rfl) ?_
  refine F_nil ?_
  refine L_ret (fun a ha => (post_ret1 ha rfl rfl ?_))
  obtain rfl := Option.some.inj H
  exact ⟨rfl, HS0.sel [] rfl⟩

/-! function 21: (*valise/bits.Writer).Bytes -/
theorem bits_Writer_Bytes_n0.calls {S0 : Nat → Prop} {w0 : World} {r : List Int} (HS0 : Hp S0 w0 w0 []) (h : bits_Writer_Bytes_n0.f = some r) :
    Calls Try.prog 21 ([.pointer none] : List Value).toArray w0 (fun e w => ∃ (A1 : Option Addr), ∃ (c1 : Nat), e = .returned (.slice A1 r.length c1) ∧ Hp S0 w0 w [.own A1 c1 (rowC (Eint .u8) r) 5 (Eint .u8).sz]) := by
  have H : ((some ([] : List Int)) : Option (List Int)) = some r := h
  refine calls_start Try.func21 rfl rfl ?_
  refine L_seq ?_
  refine L_region ?_
  refine F_val rfl rfl rfl (O_assign rfl rfl) ?_
  refine F_nil ?_
  refine L_seq ?_
  refine L_seq ?_
  refine L_region ?_
  refine F_val rfl rfl rfl (O_move rfl rfl) ?_
  refine F_val rfl rfl rfl (O_peq rfl rfl rfl Try.underlying31) ?_
  refine F_val rfl rfl rfl (O_move rfl rfl) ?_
  refine F_gskip rfl rfl rfl rfl rfl rfl rfl ?_
  refine F_gskip rfl rfl rfl rfl rfl rfl rfl ?_
  refine F_gskip rfl rfl rfl rfl rfl rfl rfl ?_
  refine F_gskip rfl rfl rfl rfl rfl rfl rfl ?_
  refine F_gskip rfl rfl rfl rfl rfl rfl rfl ?_
  refine F_gskip rfl rfl rfl rfl rfl rfl rfl ?_
  refine F_val rfl rfl rfl (O_pickT rfl rfl rfl) ?_
  refine F_nil ?_
  refine L_cond rfl (fun _ => ?_) (fun hx => by cases hx)
  refine L_seq ?_
  refine L_region ?_
  refine F_val rfl rfl rfl (O_assign rfl rfl) ?_
  refine F_nil ?_
  have HS1 := HS0.addNil 5 (Eint .u8).sz
  refine L_ret (fun a ha => (post_ret1 ha rfl rfl ?_))
  obtain rfl := Option.some.inj H
  exact ⟨_, _, rfl, HS1.sel [0] rfl⟩

/-! function 31: (*valise/bits.Reader).Take -/
theorem bits_Reader_Take_n0.calls {S0 : Nat → Prop} {w0 : World} {n_1 : Int} {r : Int × Int} (HS0 : Hp S0 w0 w0 []) (h : bits_Reader_Take_n0.f n_1 = some r) :
    Calls Try.prog 31 ([.pointer none, .int .i64 n_1] : List Value).toArray w0 (fun e w => e = .returned (.tuple #[.int .u32 r.1, .int .i64 r.2]) ∧ Hp S0 w0 w []) := by
  have H : ((some (0, 1)) : Option (Int × Int)) = some r := h
  refine calls_start Try.func31 rfl rfl ?_
  refine L_seq ?_
  refine L_region ?_
  refine F_val rfl rfl rfl (O_assign rfl rfl) ?_
  refine F_val rfl rfl rfl (O_assign rfl rfl) ?_
  refine F_nil ?_
  refine L_seq ?_
  refine L_seq ?_
  refine L_region ?_
  refine F_val rfl rfl rfl (O_move rfl rfl) ?_
  refine F_val rfl rfl rfl (O_peq rfl rfl rfl Try.underlying42) ?_
  refine F_val rfl rfl rfl (O_move rfl rfl) ?_
  refine F_gskip rfl rfl rfl rfl rfl rfl rfl ?_
  refine F_gskip rfl rfl rfl rfl rfl rfl rfl ?_
  refine F_val rfl rfl rfl (O_pickT rfl rfl rfl) ?_
  refine F_val rfl rfl rfl (O_move rfl rfl) ?_
  refine F_gskip rfl rfl rfl rfl rfl rfl rfl ?_
  refine F_gskip rfl rfl rfl rfl rfl rfl rfl ?_
  refine F_val rfl rfl rfl (O_pickT rfl rfl rfl) ?_
  refine F_nil ?_
  refine L_cond rfl (fun _ => ?_) (fun hx => by cases hx)
  refine L_seq ?_
  refine L_region ?_
  refine F_val rfl rfl rfl (O_assign rfl rfl) ?_
  refine F_val rfl rfl rfl (O_assign rfl rfl) ?_
  refine F_nil ?_
  refine L_ret (fun a ha => (post_ret2 ha rfl rfl rfl ?_))
  obtain rfl := Option.some.inj H
  exact ⟨rfl, HS0.sel [] rfl⟩

/-! function 28: (*valise/bits.Reader).Peek -/
theorem bits_Reader_Peek_n0.calls {S0 : Nat → Prop} {w0 : World} {n_1 : Int} {r : Int × Int} (HS0 : Hp S0 w0 w0 []) (h : bits_Reader_Peek_n0.f n_1 = some r) :
    Calls Try.prog 28 ([.pointer none, .int .i64 n_1] : List Value).toArray w0 (fun e w => e = .returned (.tuple #[.int .u32 r.1, .int .i64 r.2]) ∧ Hp S0 w0 w []) := by
  have H : ((some (0, 0)) : Option (Int × Int)) = some r := h
  refine calls_start Try.func28 rfl rfl ?_
  refine L_seq ?_
  refine L_region ?_
  refine F_val rfl rfl rfl (O_assign rfl rfl) ?_
  refine F_val rfl rfl rfl (O_assign rfl rfl) ?_
  refine F_nil ?_
  refine L_seq ?_
  refine L_seq ?_
  refine L_region ?_
  refine F_val rfl rfl rfl (O_move rfl rfl) ?_
  refine F_val rfl rfl rfl (O_peq rfl rfl rfl Try.underlying42) ?_
  refine F_val rfl rfl rfl (O_move rfl rfl) ?_
  refine F_gskip rfl rfl rfl rfl rfl rfl rfl ?_
  refine F_gskip rfl rfl rfl rfl rfl rfl rfl ?_
  refine F_val rfl rfl rfl (O_pickT rfl rfl rfl) ?_
  refine F_val rfl rfl rfl (O_move rfl rfl) ?_
  refine F_gskip rfl rfl rfl rfl rfl rfl rfl ?_
  refine F_gskip rfl rfl rfl rfl rfl rfl rfl ?_
  refine F_val rfl rfl rfl (O_pickT rfl rfl rfl) ?_
  refine F_nil ?_
  refine L_cond rfl (fun _ => ?_) (fun hx => by cases hx)
  refine L_seq ?_
  refine L_region ?_
  refine F_val rfl rfl rfl (O_assign rfl rfl) ?_
  refine F_val rfl rfl rfl (O_assign rfl rfl) ?_
  refine F_nil ?_
  refine L_ret (fun a ha => (post_ret2 ha rfl rfl rfl ?_))
  obtain rfl := Option.some.inj H
  exact ⟨rfl, HS0.sel [] rfl⟩

/-! function 40: (*valise/bits.Reader).Raw -/
theorem bits_Reader_Raw_n0.calls {S0 : Nat → Prop} {w0 : World} {n_1 : Int} {r : List Int × Int} (HS0 : Hp S0 w0 w0 []) (h : bits_Reader_Raw_n0.f n_1 = some r) :
    Calls Try.prog 40 ([.pointer none, .int .i64 n_1] : List Value).toArray w0 (fun e w => ∃ (A1 : Option Addr), ∃ (c1 : Nat), e = .returned (.tuple #[.slice A1 r.1.length c1, .int .i64 r.2]) ∧ Hp S0 w0 w [.own A1 c1 (rowC (Eint .u8) r.1) 5 (Eint .u8).sz]) := by
  have H : ((some (([] : List Int), 1)) : Option (List Int × Int)) = some r := h
  refine calls_start Try.func40 rfl rfl ?_
  refine L_seq ?_
  refine L_region ?_
  refine F_val rfl rfl rfl (O_assign rfl rfl) ?_
  refine F_val rfl rfl rfl (O_assign rfl rfl) ?_
  refine F_nil ?_
  refine L_seq ?_
  refine L_seq ?_
  refine L_region ?_
  refine F_val rfl rfl rfl (O_move rfl rfl) ?_
  refine F_val rfl rfl rfl (O_peq rfl rfl rfl Try.underlying42) ?_
  refine F_val rfl rfl rfl (O_move rfl rfl) ?_
  refine F_gskip rfl rfl rfl rfl rfl rfl rfl ?_
  refine F_gskip rfl rfl rfl rfl rfl rfl rfl ?_
  refine F_val rfl rfl rfl (O_pickT rfl rfl rfl) ?_
  refine F_nil ?_
  refine L_cond rfl (fun _ => ?_) (fun hx => by cases hx)
  refine L_seq ?_
  refine L_region ?_
  refine F_val rfl rfl rfl (O_assign rfl rfl) ?_
  refine F_val rfl rfl rfl (O_assign rfl rfl) ?_
  refine F_nil ?_
  have HS1 := HS0.addNil 5 (Eint .u8).sz
  refine L_ret (fun a ha => (post_ret2 ha rfl rfl rfl ?_))
  obtain rfl := Option.some.inj H
  exact ⟨_, _, rfl, HS1.sel [0] rfl⟩

/-! function 32: (*valise/bits.Reader).Skip -/
theorem bits_Reader_Skip_n0.calls {S0 : Nat → Prop} {w0 : World} {n_1 : Int} {r : Int} (HS0 : Hp S0 w0 w0 []) (h : bits_Reader_Skip_n0.f n_1 = some r) :
    Calls Try.prog 32 ([.pointer none, .int .i64 n_1] : List Value).toArray w0 (fun e w => e = .returned (.int .i64 r) ∧ Hp S0 w0 w []) := by
  have H : ((some 1) : Option (Int)) = some r := h
  refine calls_start Try.func32 rfl rfl ?_
  refine L_seq ?_
  refine L_region ?_
  refine F_val rfl rfl rfl (O_assign rfl rfl) ?_
  refine F_nil ?_
  refine L_seq ?_
  refine L_seq ?_
  refine L_region ?_
  refine F_val rfl rfl rfl (O_move rfl rfl) ?_
  refine F_val rfl rfl rfl (O_peq rfl rfl rfl Try.underlying42) ?_
  refine F_val rfl rfl rfl (O_move rfl rfl) ?_
  refine F_gskip rfl rfl rfl rfl rfl rfl rfl ?_
  refine F_gskip rfl rfl rfl rfl rfl rfl rfl ?_
  refine F_val rfl rfl rfl (O_pickT rfl rfl rfl) ?_
  refine F_nil ?_
  refine L_cond rfl (fun _ => ?_) (fun hx => by cases hx)
  refine L_seq ?_
  refine L_region ?_
  refine F_val rfl rfl rfl (O_assign rfl rfl) ?_
  refine F_nil ?_
  refine L_ret (fun a ha => (post_ret1 ha rfl rfl ?_))
  obtain rfl := Option.some.inj H
  exact ⟨rfl, HS0.sel [] rfl⟩

/-! function 29: (*valise/bits.Reader).At -/
theorem bits_Reader_At_n0.calls {S0 : Nat → Prop} {w0 : World} {r : Int} (HS0 : Hp S0 w0 w0 []) (h : bits_Reader_At_n0.f = some r) :
    Calls Try.prog 29 ([.pointer none] : List Value).toArray w0 (fun e w => e = .returned (.int .i64 r) ∧ Hp S0 w0 w []) := by
  have H : ((some 0) : Option (Int)) = some r := h
  refine calls_start Try.func29 rfl rfl ?_
  refine L_seq ?_
  refine L_region ?_
  refine F_val rfl rfl rfl (O_assign rfl rfl) ?_
  refine F_nil ?_
  refine L_seq ?_
  refine L_seq ?_
  refine L_region ?_
  refine F_val rfl rfl rfl (O_move rfl rfl) ?_
  refine F_val rfl rfl rfl (O_peq rfl rfl rfl Try.underlying42) ?_
  refine F_nil ?_
  refine L_cond rfl (fun _ => ?_) (fun hx => by cases hx)
  refine L_seq ?_
  refine L_region ?_
  refine F_val rfl rfl rfl (O_assign rfl rfl) ?_
  refine F_nil ?_
  refine L_ret (fun a ha => (post_ret1 ha rfl rfl ?_))
  obtain rfl := Option.some.inj H
  exact ⟨rfl, HS0.sel [] rfl⟩

/-! function 30: (*valise/bits.Reader).Left -/
theorem bits_Reader_Left_n0.calls {S0 : Nat → Prop} {w0 : World} {r : Int} (HS0 : Hp S0 w0 w0 []) (h : bits_Reader_Left_n0.f = some r) :
    Calls Try.prog 30 ([.pointer none] : List Value).toArray w0 (fun e w => e = .returned (.int .i64 r) ∧ Hp S0 w0 w []) := by
  have H : ((some 0) : Option (Int)) = some r := h
  refine calls_start Try.func30 rfl rfl ?_
  refine L_seq ?_
  refine L_region ?_
  refine F_val rfl rfl rfl (O_assign rfl rfl) ?_
  refine F_nil ?_
  refine L_seq ?_
  refine L_seq ?_
  refine L_region ?_
  refine F_val rfl rfl rfl (O_move rfl rfl) ?_
  refine F_val rfl rfl rfl (O_peq rfl rfl rfl Try.underlying42) ?_
  refine F_nil ?_
  refine L_cond rfl (fun _ => ?_) (fun hx => by cases hx)
  refine L_seq ?_
  refine L_region ?_
  refine F_val rfl rfl rfl (O_assign rfl rfl) ?_
  refine F_nil ?_
  refine L_ret (fun a ha => (post_ret1 ha rfl rfl ?_))
  obtain rfl := Option.some.inj H
  exact ⟨rfl, HS0.sel [] rfl⟩

/-! function 14: valise/valiselaw3.BitsNil -/
theorem valiselaw3_BitsNil.calls {S0 : Nat → Prop} {w0 : World} {A_data_2 : Option Addr} {c_data_2 : Nat} {v_0 : Int} {n_1 : Int} {l_data_2 : List Int} {r : Bool} (HS0 : Hp S0 w0 w0 [.rd A_data_2 (rowC (Eint .u8) l_data_2)]) (hc_data_2 : l_data_2.length ≤ c_data_2) (h : valiselaw3_BitsNil.f v_0 n_1 l_data_2 = some r) :
    Calls Try.prog 14 ([.int .u32 v_0, .int .i64 n_1, .slice A_data_2 l_data_2.length c_data_2] : List Value).toArray w0 (fun e w => e = .returned (.bool r) ∧ Hp S0 w0 w []) := by
  have H : (((bits_NewWriter.f).bind fun (z5, z6) => (bits_NewReader.f ([] : List Int)).bind fun z18 => onO z18 (some false) fun (z21, z22) => (bits_Writer_Join_n1.f z5 z6).bind fun (z34, z35, z36) => if z34 ≠ 1 then (some false) else ((bits_Writer_Put.f z35 z36 1 1).bind fun (z46, z47, z48) => if z46 ≠ 0 then (some false) else ((bits_Writer_Len.f z47 z48).bind fun z58 => if z58 ≠ 1 then (some false) else ((bits_Writer_Align_n0.f).bind fun _ => (bits_Reader_Align_n0.f).bind fun _ => (bits_Writer_Put_n0.f v_0 n_1).bind fun z78 => if z78 ≠ 1 then (some false) else ((valiselaw3_copied.f l_data_2).bind fun z86 => (bits_Writer_Raw_n0.f z86).bind fun z96 => if z96 ≠ 1 then (some false) else ((bits_Writer_Join_n0.f z47 z48).bind fun z104 => if z104 ≠ 1 then (some false) else ((bits_Writer_Len_n0.f).bind fun z112 => if z112 ≠ 0 then (some false) else ((bits_Writer_Bytes_n0.f).bind fun z120 => if (z120.length : Int) ≠ 0 then (some false) else ((bits_Reader_Take_n0.f n_1).bind fun (z131, z132) => (bits_Reader_Peek_n0.f n_1).bind fun (z139, z140) => (bits_Reader_Raw_n0.f n_1).bind fun (z147, z148) => if (((((z131 ≠ 0) ∨ (z139 ≠ 0)) ∨ (z140 ≠ 0)) ∨ ((z147.length : Int) ≠ 0)) ∨ (z132 ≠ 1)) ∨ (z148 ≠ 1) then (some false) else ((bits_Reader_Skip_n0.f n_1).bind fun z164 => if z164 = 1 then ((bits_Reader_At_n0.f).bind fun z172 => if z172 = 0 then ((bits_Reader_Left_n0.f).bind fun z180 => some (decide (z180 = 0))) else (some false)) else (some false))))))))))) : Option (Bool)) = some r := h
  refine calls_start Try.func14 rfl rfl ?_
  refine L_seq ?_
  refine L_region ?_
  refine F_val rfl rfl rfl (O_assign rfl rfl) ?_
  refine F_nil ?_
  refine L_seq ?_
  refine L_region ?_
  obtain ⟨⟨z5, z6⟩, h4, H⟩ := of_bind H
  refine F_call (xs := []) rfl rfl rfl rfl Try.func18 nm18 rfl rfl ((bits_NewWriter.calls (HS0.give [] rfl (Lent.nil)) h4).mono (fun e w hc => ?_))
  obtain ⟨g9, A11, c12, rfl, HSo⟩ := hc
  refine ⟨.pointer (some ⟨g9, 0, none⟩), rfl, ?_⟩
  have HS8 : Hp S0 w0 w [.rd A_data_2 (rowC (Eint .u8) l_data_2), .box g9 [.slice A11 z5.length c12, .int .i64 z6] 99, .own A11 c12 (rowC (Eint .u8) z5) 5 (Eint .u8).sz] := (HS0.back [] HSo rfl).sel [0, 1, 2] rfl
  refine F_val rfl rfl rfl (O_assign rfl rfl) ?_
  refine F_nil ?_
  refine L_seq ?_
  refine L_region ?_
  obtain ⟨z18, h17, H⟩ := of_bind H
  rcases z18 with _ | z18
  · refine F_call (xs := [.const (.slice none 0 0)]) rfl rfl rfl rfl Try.func25 nm25 rfl rfl ((bits_NewReader.calls (HS8.give [] rfl (Lent.nilrd (Lent.nil))) (Nat.zero_le _) h17).mono (fun e w hc => ?_))
    have H := (onO_none _ _).symm.trans H
    obtain ⟨rfl, HSo⟩ := hc
    refine ⟨.pointer none, rfl, ?_⟩
    have HS20 : Hp S0 w0 w [.rd A_data_2 (rowC (Eint .u8) l_data_2), .box g9 [.slice A11 z5.length c12, .int .i64 z6] 99, .own A11 c12 (rowC (Eint .u8) z5) 5 (Eint .u8).sz] := (HS8.back [] HSo rfl).sel [0, 1, 2] rfl
    refine F_val rfl rfl rfl (O_assign rfl rfl) ?_
    refine F_nil ?_
    refine L_seq ?_
    refine L_seq ?_
    refine L_region ?_
    refine F_val rfl rfl rfl (O_move rfl rfl) ?_
    refine F_val rfl rfl rfl (O_peq rfl rfl rfl Try.underlying31) ?_
    refine F_val rfl rfl rfl (O_move rfl rfl) ?_
    refine F_gval rfl rfl rfl rfl rfl rfl (O_move rfl rfl) ?_
    refine F_gval rfl rfl rfl rfl rfl rfl (O_peq rfl rfl rfl Try.underlying42) ?_
    refine F_val rfl rfl rfl (O_pickF rfl rfl rfl) ?_
    refine F_nil ?_
    refine L_cond rfl (fun _ => ?_) (fun hx => by cases hx)
    refine L_seq ?_
    refine L_region ?_
    refine F_val rfl rfl rfl (O_assign rfl rfl) ?_
    refine F_nil ?_
    refine L_ret (fun a ha => (post_ret1 ha rfl rfl ?_))
    obtain rfl := Option.some.inj H
    exact ⟨rfl, HS20.sel [] rfl⟩
  · refine F_call (xs := [.const (.slice none 0 0)]) rfl rfl rfl rfl Try.func25 nm25 rfl rfl ((bits_NewReader.calls (HS8.give [] rfl (Lent.nilrd (Lent.nil))) (Nat.zero_le _) h17).mono (fun e w hc => ?_))
    obtain ⟨z21, z22⟩ := z18
    have H := (onO_some _ _ _).symm.trans H
    obtain ⟨g25, A27, c28, rfl, HSo⟩ := hc
    refine ⟨.pointer (some ⟨g25, 0, none⟩), rfl, ?_⟩
    have HS24 : Hp S0 w0 w [.rd A_data_2 (rowC (Eint .u8) l_data_2), .box g9 [.slice A11 z5.length c12, .int .i64 z6] 99, .own A11 c12 (rowC (Eint .u8) z5) 5 (Eint .u8).sz, .box g25 [.slice A27 z21.length c28, .int .i64 z22] 102, .own A27 c28 (rowC (Eint .u8) z21) 5 (Eint .u8).sz] := (HS8.back [] HSo rfl).sel [0, 1, 2, 3, 4] rfl
    refine F_val rfl rfl rfl (O_assign rfl rfl) ?_
    refine F_nil ?_
    refine L_seq ?_
    refine L_seq ?_
    refine L_region ?_
    refine F_val rfl rfl rfl (O_move rfl rfl) ?_
    refine F_val rfl rfl rfl (O_peq rfl rfl rfl Try.underlying31) ?_
    refine F_val rfl rfl rfl (O_move rfl rfl) ?_
    refine F_gval rfl rfl rfl rfl rfl rfl (O_move rfl rfl) ?_
    refine F_gval rfl rfl rfl rfl rfl rfl (O_peq rfl rfl rfl Try.underlying42) ?_
    refine F_val rfl rfl rfl (O_pickF rfl rfl rfl) ?_
    refine F_nil ?_
    refine L_cond rfl (fun hx => by cases hx) (fun _ => ?_)
    refine L_skip ?_
    refine L_seq ?_
    refine L_seq ?_
    refine L_region ?_
    refine F_val rfl rfl rfl (O_move rfl rfl) ?_
    obtain ⟨⟨z34, z35, z36⟩, h33, H⟩ := of_bind H
    refine F_call (xs := [.tmp 25, .const (.pointer none)]) rfl rfl rfl rfl Try.func22 nm22 rfl rfl ((bits_Writer_Join_n1.calls (HS24.give [1, 2] rfl (Lent.nil)) h33).mono (fun e w hc => ?_))
    obtain ⟨A39, c40, rfl, HSo⟩ := hc
    refine ⟨.int .i64 z34, rfl, ?_⟩
    have HS38 : Hp S0 w0 w [.rd A_data_2 (rowC (Eint .u8) l_data_2), .box g9 [.slice A39 z35.length c40, .int .i64 z36] 99, .own A39 c40 (rowC (Eint .u8) z35) 5 (Eint .u8).sz, .box g25 [.slice A27 z21.length c28, .int .i64 z22] 102, .own A27 c28 (rowC (Eint .u8) z21) 5 (Eint .u8).sz] := (HS24.back [1, 2] HSo rfl).sel [0, 5, 6, 3, 4] rfl
    refine F_val rfl rfl rfl (O_ne rfl rfl rfl) ?_
    refine F_val rfl rfl rfl (O_move rfl rfl) ?_
    rcases Decidable.em (z34 ≠ 1) with c41 | c41
    · have H := of_pos H c41
      refine F_know (i := 28) rfl (dec_t c41) ?_
      refine F_gskip rfl rfl rfl rfl rfl rfl rfl ?_
      refine F_gskip rfl rfl rfl rfl rfl rfl rfl ?_
      refine F_gskip rfl rfl rfl rfl rfl rfl rfl ?_
      refine F_val rfl rfl rfl (O_pickT rfl rfl rfl) ?_
      refine F_val rfl rfl rfl (O_move rfl rfl) ?_
      refine F_gskip rfl rfl rfl rfl rfl rfl rfl ?_
      refine F_gskip rfl rfl rfl rfl rfl rfl rfl ?_
      refine F_gskip rfl rfl rfl rfl rfl rfl rfl ?_
      refine F_val rfl rfl rfl (O_pickT rfl rfl rfl) ?_
      refine F_nil ?_
      refine L_cond rfl (fun _ => ?_) (fun hx => by cases hx)
      refine L_seq ?_
      refine L_region ?_
      refine F_val rfl rfl rfl (O_assign rfl rfl) ?_
      refine F_nil ?_
      refine L_ret (fun a ha => (post_ret1 ha rfl rfl ?_))
      obtain rfl := Option.some.inj H
      exact ⟨rfl, HS38.sel [] rfl⟩
    · have H := of_neg H c41
      refine F_know (i := 28) rfl (dec_f c41) ?_
      refine F_gval rfl rfl rfl rfl rfl rfl (O_move rfl rfl) ?_
      obtain ⟨⟨z46, z47, z48⟩, h45, H⟩ := of_bind H
      refine F_gcall (xs := [.tmp 29, .const (.int .u32 1), .const (.int .i64 1)]) rfl rfl rfl rfl rfl rfl rfl Try.func19 nm19 rfl rfl ((bits_Writer_Put.calls (HS38.give [1, 2] rfl (Lent.nil)) h45).mono (fun e w hc => ?_))
      obtain ⟨A51, c52, rfl, HSo⟩ := hc
      refine ⟨.int .i64 z46, rfl, ?_⟩
      have HS50 : Hp S0 w0 w [.rd A_data_2 (rowC (Eint .u8) l_data_2), .box g9 [.slice A51 z47.length c52, .int .i64 z48] 99, .own A51 c52 (rowC (Eint .u8) z47) 5 (Eint .u8).sz, .box g25 [.slice A27 z21.length c28, .int .i64 z22] 102, .own A27 c28 (rowC (Eint .u8) z21) 5 (Eint .u8).sz] := (HS38.back [1, 2] HSo rfl).sel [0, 5, 6, 3, 4] rfl
      refine F_gval rfl rfl rfl rfl rfl rfl (O_ne rfl rfl rfl) ?_
      refine F_val rfl rfl rfl (O_pickF rfl rfl rfl) ?_
      refine F_val rfl rfl rfl (O_move rfl rfl) ?_
      rcases Decidable.em (z46 ≠ 0) with c53 | c53
      · have H := of_pos H c53
        refine F_know (i := 33) rfl (dec_t c53) ?_
        refine F_gskip rfl rfl rfl rfl rfl rfl rfl ?_
        refine F_gskip rfl rfl rfl rfl rfl rfl rfl ?_
        refine F_gskip rfl rfl rfl rfl rfl rfl rfl ?_
        refine F_val rfl rfl rfl (O_pickT rfl rfl rfl) ?_
        refine F_nil ?_
        refine L_cond rfl (fun _ => ?_) (fun hx => by cases hx)
        refine L_seq ?_
        refine L_region ?_
        refine F_val rfl rfl rfl (O_assign rfl rfl) ?_
        refine F_nil ?_
        refine L_ret (fun a ha => (post_ret1 ha rfl rfl ?_))
        obtain rfl := Option.some.inj H
        exact ⟨rfl, HS50.sel [] rfl⟩
      · have H := of_neg H c53
        refine F_know (i := 33) rfl (dec_f c53) ?_
        refine F_gval rfl rfl rfl rfl rfl rfl (O_move rfl rfl) ?_
        obtain ⟨z58, h57, H⟩ := of_bind H
        refine F_gcall (xs := [.tmp 34]) rfl rfl rfl rfl rfl rfl rfl Try.func23 nm23 rfl rfl ((bits_Writer_Len.calls (HS50.give [] rfl (Lent.box HS50 (Lent.own HS50 (Lent.nil) (i := 2) rfl rfl ((HS50.cells_own (i := 2) rfl).self)) (i := 1) rfl rfl (HS50.cells_box (i := 1) rfl).self)) h57).mono (fun e w hc => ?_))
        obtain ⟨rfl, HSo⟩ := hc
        refine ⟨.int .i64 z58, rfl, ?_⟩
        have HS60 : Hp S0 w0 w [.rd A_data_2 (rowC (Eint .u8) l_data_2), .box g9 [.slice A51 z47.length c52, .int .i64 z48] 99, .own A51 c52 (rowC (Eint .u8) z47) 5 (Eint .u8).sz, .box g25 [.slice A27 z21.length c28, .int .i64 z22] 102, .own A27 c28 (rowC (Eint .u8) z21) 5 (Eint .u8).sz] := (HS50.back [] HSo rfl).sel [0, 1, 2, 3, 4] rfl
        refine F_gval rfl rfl rfl rfl rfl rfl (O_ne rfl rfl rfl) ?_
        refine F_val rfl rfl rfl (O_pickF rfl rfl rfl) ?_
        refine F_nil ?_
        refine L_condP rfl (fun c61 => ?_) (fun c61 => ?_)
        · have H := of_pos H c61
          refine L_seq ?_
          refine L_region ?_
          refine F_val rfl rfl rfl (O_assign rfl rfl) ?_
          refine F_nil ?_
          refine L_ret (fun a ha => (post_ret1 ha rfl rfl ?_))
          obtain rfl := Option.some.inj H
          exact ⟨rfl, HS60.sel [] rfl⟩
        · have H := of_neg H c61
          refine L_skip ?_
          refine L_seq ?_
          refine L_region ?_
          refine F_val rfl rfl rfl (O_assign rfl rfl) ?_
          refine F_nil ?_
          refine L_seq ?_
          refine L_region ?_
          refine F_val rfl rfl rfl (O_assign rfl rfl) ?_
          refine F_nil ?_
          refine L_seq ?_
          refine L_region ?_
          refine F_val rfl rfl rfl (O_move rfl rfl) ?_
          obtain ⟨z64, h65, H⟩ := of_bind H
          refine F_call (xs := [.tmp 38]) rfl rfl rfl rfl Try.func52 nm52 rfl rfl ((bits_Writer_Align_n0.calls (HS60.give [] rfl (Lent.nil)) h65).mono (fun e w hc => ?_))
          obtain ⟨rfl, HSo⟩ := hc
          refine ⟨.tuple #[], rfl, ?_⟩
          have HS67 : Hp S0 w0 w [.rd A_data_2 (rowC (Eint .u8) l_data_2), .box g9 [.slice A51 z47.length c52, .int .i64 z48] 99, .own A51 c52 (rowC (Eint .u8) z47) 5 (Eint .u8).sz, .box g25 [.slice A27 z21.length c28, .int .i64 z22] 102, .own A27 c28 (rowC (Eint .u8) z21) 5 (Eint .u8).sz] := (HS60.back [] HSo rfl).sel [0, 1, 2, 3, 4] rfl
          refine F_nil ?_
          refine L_seq ?_
          refine L_region ?_
          refine F_val rfl rfl rfl (O_move rfl rfl) ?_
          obtain ⟨z70, h71, H⟩ := of_bind H
          refine F_call (xs := [.tmp 40]) rfl rfl rfl rfl Try.func53 nm53 rfl rfl ((bits_Reader_Align_n0.calls (HS67.give [] rfl (Lent.nil)) h71).mono (fun e w hc => ?_))
          obtain ⟨rfl, HSo⟩ := hc
          refine ⟨.tuple #[], rfl, ?_⟩
          have HS73 : Hp S0 w0 w [.rd A_data_2 (rowC (Eint .u8) l_data_2), .box g9 [.slice A51 z47.length c52, .int .i64 z48] 99, .own A51 c52 (rowC (Eint .u8) z47) 5 (Eint .u8).sz, .box g25 [.slice A27 z21.length c28, .int .i64 z22] 102, .own A27 c28 (rowC (Eint .u8) z21) 5 (Eint .u8).sz] := (HS67.back [] HSo rfl).sel [0, 1, 2, 3, 4] rfl
          refine F_nil ?_
          refine L_seq ?_
          refine L_seq ?_
          refine L_region ?_
          refine F_val rfl rfl rfl (O_move rfl rfl) ?_
          refine F_val rfl rfl rfl (O_move rfl rfl) ?_
          refine F_val rfl rfl rfl (O_move rfl rfl) ?_
          obtain ⟨z78, h77, H⟩ := of_bind H
          refine F_call (xs := [.tmp 42, .tmp 43, .tmp 44]) rfl rfl rfl rfl Try.func19 nm19 rfl rfl ((bits_Writer_Put_n0.calls (HS73.give [] rfl (Lent.nil)) h77).mono (fun e w hc => ?_))
          obtain ⟨rfl, HSo⟩ := hc
          refine ⟨.int .i64 z78, rfl, ?_⟩
          have HS80 : Hp S0 w0 w [.rd A_data_2 (rowC (Eint .u8) l_data_2), .box g9 [.slice A51 z47.length c52, .int .i64 z48] 99, .own A51 c52 (rowC (Eint .u8) z47) 5 (Eint .u8).sz, .box g25 [.slice A27 z21.length c28, .int .i64 z22] 102, .own A27 c28 (rowC (Eint .u8) z21) 5 (Eint .u8).sz] := (HS73.back [] HSo rfl).sel [0, 1, 2, 3, 4] rfl
          refine F_val rfl rfl rfl (O_ne rfl rfl rfl) ?_
          refine F_val rfl rfl rfl (O_move rfl rfl) ?_
          rcases Decidable.em (z78 ≠ 1) with c81 | c81
          · have H := of_pos H c81
            refine F_know (i := 47) rfl (dec_t c81) ?_
            refine F_gskip rfl rfl rfl rfl rfl rfl rfl ?_
            refine F_gskip rfl rfl rfl rfl rfl rfl rfl ?_
            refine F_gskip rfl rfl rfl rfl rfl rfl rfl ?_
            refine F_gskip rfl rfl rfl rfl rfl rfl rfl ?_
            refine F_gskip rfl rfl rfl rfl rfl rfl rfl ?_
            refine F_val rfl rfl rfl (O_pickT rfl rfl rfl) ?_
            refine F_val rfl rfl rfl (O_move rfl rfl) ?_
            refine F_gskip rfl rfl rfl rfl rfl rfl rfl ?_
            refine F_gskip rfl rfl rfl rfl rfl rfl rfl ?_
            refine F_gskip rfl rfl rfl rfl rfl rfl rfl ?_
            refine F_gskip rfl rfl rfl rfl rfl rfl rfl ?_
            refine F_val rfl rfl rfl (O_pickT rfl rfl rfl) ?_
            refine F_val rfl rfl rfl (O_move rfl rfl) ?_
            refine F_gskip rfl rfl rfl rfl rfl rfl rfl ?_
            refine F_gskip rfl rfl rfl rfl rfl rfl rfl ?_
            refine F_gskip rfl rfl rfl rfl rfl rfl rfl ?_
            refine F_val rfl rfl rfl (O_pickT rfl rfl rfl) ?_
            refine F_val rfl rfl rfl (O_move rfl rfl) ?_
            refine F_gskip rfl rfl rfl rfl rfl rfl rfl ?_
            refine F_gskip rfl rfl rfl rfl rfl rfl rfl ?_
            refine F_gskip rfl rfl rfl rfl rfl rfl rfl ?_
            refine F_gskip rfl rfl rfl rfl rfl rfl rfl ?_
            refine F_val rfl rfl rfl (O_pickT rfl rfl rfl) ?_
            refine F_nil ?_
            refine L_cond rfl (fun _ => ?_) (fun hx => by cases hx)
            refine L_seq ?_
            refine L_region ?_
            refine F_val rfl rfl rfl (O_assign rfl rfl) ?_
            refine F_nil ?_
            refine L_ret (fun a ha => (post_ret1 ha rfl rfl ?_))
            obtain rfl := Option.some.inj H
            exact ⟨rfl, HS80.sel [] rfl⟩
          · have H := of_neg H c81
            refine F_know (i := 47) rfl (dec_f c81) ?_
            refine F_gval rfl rfl rfl rfl rfl rfl (O_move rfl rfl) ?_
            refine F_gval rfl rfl rfl rfl rfl rfl (O_move rfl rfl) ?_
            obtain ⟨z86, h85, H⟩ := of_bind H
            refine F_gcall (xs := [.tmp 49]) rfl rfl rfl rfl rfl rfl rfl Try.func26 nm26 rfl rfl ((valiselaw3_copied.calls (HS80.give [] rfl (Lent.rd HS80 (Lent.nil) (i := 0) rfl ((HS80.cells_rd (i := 0) rfl).self))) hc_data_2 h85).mono (fun e w hc => ?_))
            obtain ⟨A89, c90, rfl, HSo⟩ := hc
            refine ⟨.slice A89 z86.length c90, rfl, ?_⟩
            have HS88 : Hp S0 w0 w [.rd A_data_2 (rowC (Eint .u8) l_data_2), .box g9 [.slice A51 z47.length c52, .int .i64 z48] 99, .own A51 c52 (rowC (Eint .u8) z47) 5 (Eint .u8).sz, .box g25 [.slice A27 z21.length c28, .int .i64 z22] 102, .own A27 c28 (rowC (Eint .u8) z21) 5 (Eint .u8).sz, .own A89 c90 (rowC (Eint .u8) z86) 5 (Eint .u8).sz] := (HS80.back [] HSo rfl).sel [0, 1, 2, 3, 4, 5] rfl
            obtain ⟨z96, h95, H⟩ := of_bind H
            refine F_gcall (xs := [.tmp 48, .tmp 50]) rfl rfl rfl rfl rfl rfl rfl Try.func37 nm37 rfl rfl ((bits_Writer_Raw_n0.calls (HS88.give [] rfl (Lent.own HS88 (Lent.nil) (i := 5) rfl rfl ((HS88.cells_own (i := 5) rfl).self))) (HS88.own_capE (i := 5) rfl (by decide)) h95).mono (fun e w hc => ?_))
            obtain ⟨rfl, HSo⟩ := hc
            refine ⟨.int .i64 z96, rfl, ?_⟩
            have HS98 : Hp S0 w0 w [.rd A_data_2 (rowC (Eint .u8) l_data_2), .box g9 [.slice A51 z47.length c52, .int .i64 z48] 99, .own A51 c52 (rowC (Eint .u8) z47) 5 (Eint .u8).sz, .box g25 [.slice A27 z21.length c28, .int .i64 z22] 102, .own A27 c28 (rowC (Eint .u8) z21) 5 (Eint .u8).sz, .own A89 c90 (rowC (Eint .u8) z86) 5 (Eint .u8).sz] := (HS88.back [] HSo rfl).sel [0, 1, 2, 3, 4, 5] rfl
            refine F_gval rfl rfl rfl rfl rfl rfl (O_ne rfl rfl rfl) ?_
            refine F_val rfl rfl rfl (O_pickF rfl rfl rfl) ?_
            refine F_val rfl rfl rfl (O_move rfl rfl) ?_
            rcases Decidable.em (z96 ≠ 1) with c99 | c99
            · have H := of_pos H c99
              refine F_know (i := 54) rfl (dec_t c99) ?_
              refine F_gskip rfl rfl rfl rfl rfl rfl rfl ?_
              refine F_gskip rfl rfl rfl rfl rfl rfl rfl ?_
              refine F_gskip rfl rfl rfl rfl rfl rfl rfl ?_
              refine F_gskip rfl rfl rfl rfl rfl rfl rfl ?_
              refine F_val rfl rfl rfl (O_pickT rfl rfl rfl) ?_
              refine F_val rfl rfl rfl (O_move rfl rfl) ?_
              refine F_gskip rfl rfl rfl rfl rfl rfl rfl ?_
              refine F_gskip rfl rfl rfl rfl rfl rfl rfl ?_
              refine F_gskip rfl rfl rfl rfl rfl rfl rfl ?_
              refine F_val rfl rfl rfl (O_pickT rfl rfl rfl) ?_
              refine F_val rfl rfl rfl (O_move rfl rfl) ?_
              refine F_gskip rfl rfl rfl rfl rfl rfl rfl ?_
              refine F_gskip rfl rfl rfl rfl rfl rfl rfl ?_
              refine F_gskip rfl rfl rfl rfl rfl rfl rfl ?_
              refine F_gskip rfl rfl rfl rfl rfl rfl rfl ?_
              refine F_val rfl rfl rfl (O_pickT rfl rfl rfl) ?_
              refine F_nil ?_
              refine L_cond rfl (fun _ => ?_) (fun hx => by cases hx)
              refine L_seq ?_
              refine L_region ?_
              refine F_val rfl rfl rfl (O_assign rfl rfl) ?_
              refine F_nil ?_
              refine L_ret (fun a ha => (post_ret1 ha rfl rfl ?_))
              obtain rfl := Option.some.inj H
              exact ⟨rfl, HS98.sel [] rfl⟩
            · have H := of_neg H c99
              refine F_know (i := 54) rfl (dec_f c99) ?_
              refine F_gval rfl rfl rfl rfl rfl rfl (O_move rfl rfl) ?_
              refine F_gval rfl rfl rfl rfl rfl rfl (O_move rfl rfl) ?_
              obtain ⟨z104, h103, H⟩ := of_bind H
              refine F_gcall (xs := [.tmp 55, .tmp 56]) rfl rfl rfl rfl rfl rfl rfl Try.func22 nm22 rfl rfl ((bits_Writer_Join_n0.calls (HS98.give [] rfl (Lent.box HS98 (Lent.own HS98 (Lent.nil) (i := 2) rfl rfl ((HS98.cells_own (i := 2) rfl).self)) (i := 1) rfl rfl (HS98.cells_box (i := 1) rfl).self)) h103).mono (fun e w hc => ?_))
              obtain ⟨rfl, HSo⟩ := hc
              refine ⟨.int .i64 z104, rfl, ?_⟩
              have HS106 : Hp S0 w0 w [.rd A_data_2 (rowC (Eint .u8) l_data_2), .box g9 [.slice A51 z47.length c52, .int .i64 z48] 99, .own A51 c52 (rowC (Eint .u8) z47) 5 (Eint .u8).sz, .box g25 [.slice A27 z21.length c28, .int .i64 z22] 102, .own A27 c28 (rowC (Eint .u8) z21) 5 (Eint .u8).sz, .own A89 c90 (rowC (Eint .u8) z86) 5 (Eint .u8).sz] := (HS98.back [] HSo rfl).sel [0, 1, 2, 3, 4, 5] rfl
              refine F_gval rfl rfl rfl rfl rfl rfl (O_ne rfl rfl rfl) ?_
              refine F_val rfl rfl rfl (O_pickF rfl rfl rfl) ?_
              refine F_val rfl rfl rfl (O_move rfl rfl) ?_
              rcases Decidable.em (z104 ≠ 1) with c107 | c107
              · have H := of_pos H c107
                refine F_know (i := 60) rfl (dec_t c107) ?_
                refine F_gskip rfl rfl rfl rfl rfl rfl rfl ?_
                refine F_gskip rfl rfl rfl rfl rfl rfl rfl ?_
                refine F_gskip rfl rfl rfl rfl rfl rfl rfl ?_
                refine F_val rfl rfl rfl (O_pickT rfl rfl rfl) ?_
                refine F_val rfl rfl rfl (O_move rfl rfl) ?_
                refine F_gskip rfl rfl rfl rfl rfl rfl rfl ?_
                refine F_gskip rfl rfl rfl rfl rfl rfl rfl ?_
                refine F_gskip rfl rfl rfl rfl rfl rfl rfl ?_
                refine F_gskip rfl rfl rfl rfl rfl rfl rfl ?_
                refine F_val rfl rfl rfl (O_pickT rfl rfl rfl) ?_
                refine F_nil ?_
                refine L_cond rfl (fun _ => ?_) (fun hx => by cases hx)
                refine L_seq ?_
                refine L_region ?_
                refine F_val rfl rfl rfl (O_assign rfl rfl) ?_
                refine F_nil ?_
                refine L_ret (fun a ha => (post_ret1 ha rfl rfl ?_))
                obtain rfl := Option.some.inj H
                exact ⟨rfl, HS106.sel [] rfl⟩
              · have H := of_neg H c107
                refine F_know (i := 60) rfl (dec_f c107) ?_
                refine F_gval rfl rfl rfl rfl rfl rfl (O_move rfl rfl) ?_
                obtain ⟨z112, h111, H⟩ := of_bind H
                refine F_gcall (xs := [.tmp 61]) rfl rfl rfl rfl rfl rfl rfl Try.func23 nm23 rfl rfl ((bits_Writer_Len_n0.calls (HS106.give [] rfl (Lent.nil)) h111).mono (fun e w hc => ?_))
                obtain ⟨rfl, HSo⟩ := hc
                refine ⟨.int .i64 z112, rfl, ?_⟩
                have HS114 : Hp S0 w0 w [.rd A_data_2 (rowC (Eint .u8) l_data_2), .box g9 [.slice A51 z47.length c52, .int .i64 z48] 99, .own A51 c52 (rowC (Eint .u8) z47) 5 (Eint .u8).sz, .box g25 [.slice A27 z21.length c28, .int .i64 z22] 102, .own A27 c28 (rowC (Eint .u8) z21) 5 (Eint .u8).sz, .own A89 c90 (rowC (Eint .u8) z86) 5 (Eint .u8).sz] := (HS106.back [] HSo rfl).sel [0, 1, 2, 3, 4, 5] rfl
                refine F_gval rfl rfl rfl rfl rfl rfl (O_ne rfl rfl rfl) ?_
                refine F_val rfl rfl rfl (O_pickF rfl rfl rfl) ?_
                refine F_val rfl rfl rfl (O_move rfl rfl) ?_
                rcases Decidable.em (z112 ≠ 0) with c115 | c115
                · have H := of_pos H c115
                  refine F_know (i := 65) rfl (dec_t c115) ?_
                  refine F_gskip rfl rfl rfl rfl rfl rfl rfl ?_
                  refine F_gskip rfl rfl rfl rfl rfl rfl rfl ?_
                  refine F_gskip rfl rfl rfl rfl rfl rfl rfl ?_
                  refine F_gskip rfl rfl rfl rfl rfl rfl rfl ?_
                  refine F_val rfl rfl rfl (O_pickT rfl rfl rfl) ?_
                  refine F_nil ?_
                  refine L_cond rfl (fun _ => ?_) (fun hx => by cases hx)
                  refine L_seq ?_
                  refine L_region ?_
                  refine F_val rfl rfl rfl (O_assign rfl rfl) ?_
                  refine F_nil ?_
                  refine L_ret (fun a ha => (post_ret1 ha rfl rfl ?_))
                  obtain rfl := Option.some.inj H
                  exact ⟨rfl, HS114.sel [] rfl⟩
                · have H := of_neg H c115
                  refine F_know (i := 65) rfl (dec_f c115) ?_
                  refine F_gval rfl rfl rfl rfl rfl rfl (O_move rfl rfl) ?_
                  obtain ⟨z120, h119, H⟩ := of_bind H
                  refine F_gcall (xs := [.tmp 66]) rfl rfl rfl rfl rfl rfl rfl Try.func21 nm21 rfl rfl ((bits_Writer_Bytes_n0.calls (HS114.give [] rfl (Lent.nil)) h119).mono (fun e w hc => ?_))
                  obtain ⟨A123, c124, rfl, HSo⟩ := hc
                  refine ⟨.slice A123 z120.length c124, rfl, ?_⟩
                  have HS122 : Hp S0 w0 w [.rd A_data_2 (rowC (Eint .u8) l_data_2), .box g9 [.slice A51 z47.length c52, .int .i64 z48] 99, .own A51 c52 (rowC (Eint .u8) z47) 5 (Eint .u8).sz, .box g25 [.slice A27 z21.length c28, .int .i64 z22] 102, .own A27 c28 (rowC (Eint .u8) z21) 5 (Eint .u8).sz, .own A89 c90 (rowC (Eint .u8) z86) 5 (Eint .u8).sz, .own A123 c124 (rowC (Eint .u8) z120) 5 (Eint .u8).sz] := (HS114.back [] HSo rfl).sel [0, 1, 2, 3, 4, 5, 6] rfl
                  refine F_gval rfl rfl rfl rfl rfl rfl (O_len rfl rfl Try.underlying35) ?_
                  refine F_gval rfl rfl rfl rfl rfl rfl (O_ne rfl rfl rfl) ?_
                  refine F_val rfl rfl rfl (O_pickF rfl rfl rfl) ?_
                  refine F_nil ?_
                  refine L_condP rfl (fun c126 => ?_) (fun c126 => ?_)
                  · have H := of_pos H c126
                    refine L_seq ?_
                    refine L_region ?_
                    refine F_val rfl rfl rfl (O_assign rfl rfl) ?_
                    refine F_nil ?_
                    refine L_ret (fun a ha => (post_ret1 ha rfl rfl ?_))
                    obtain rfl := Option.some.inj H
                    exact ⟨rfl, HS122.sel [] rfl⟩
                  · have H := of_neg H c126
                    refine L_skip ?_
                    refine L_seq ?_
                    refine L_region ?_
                    refine F_val rfl rfl rfl (O_move rfl rfl) ?_
                    refine F_val rfl rfl rfl (O_move rfl rfl) ?_
                    obtain ⟨⟨z131, z132⟩, h130, H⟩ := of_bind H
                    refine F_call (xs := [.tmp 72, .tmp 73]) rfl rfl rfl rfl Try.func31 nm31 rfl rfl ((bits_Reader_Take_n0.calls (HS122.give [] rfl (Lent.nil)) h130).mono (fun e w hc => ?_))
                    obtain ⟨rfl, HSo⟩ := hc
                    refine ⟨.tuple #[.int .u32 z131, .int .i64 z132], rfl, ?_⟩
                    have HS134 : Hp S0 w0 w [.rd A_data_2 (rowC (Eint .u8) l_data_2), .box g9 [.slice A51 z47.length c52, .int .i64 z48] 99, .own A51 c52 (rowC (Eint .u8) z47) 5 (Eint .u8).sz, .box g25 [.slice A27 z21.length c28, .int .i64 z22] 102, .own A27 c28 (rowC (Eint .u8) z21) 5 (Eint .u8).sz, .own A89 c90 (rowC (Eint .u8) z86) 5 (Eint .u8).sz, .own A123 c124 (rowC (Eint .u8) z120) 5 (Eint .u8).sz] := (HS122.back [] HSo rfl).sel [0, 1, 2, 3, 4, 5, 6] rfl
                    refine F_val rfl rfl rfl (O_move rfl rfl) ?_
                    refine F_val rfl rfl rfl (O_extract (v := .int .u32 z131) rfl rfl rfl) ?_
                    refine F_val rfl rfl rfl (O_extract (v := .int .i64 z132) rfl rfl rfl) ?_
                    refine F_val rfl rfl rfl (O_assign rfl rfl) ?_
                    refine F_val rfl rfl rfl (O_assign rfl rfl) ?_
                    refine F_nil ?_
                    refine L_seq ?_
                    refine L_region ?_
                    refine F_val rfl rfl rfl (O_move rfl rfl) ?_
                    refine F_val rfl rfl rfl (O_move rfl rfl) ?_
                    obtain ⟨⟨z139, z140⟩, h138, H⟩ := of_bind H
                    refine F_call (xs := [.tmp 78, .tmp 79]) rfl rfl rfl rfl Try.func28 nm28 rfl rfl ((bits_Reader_Peek_n0.calls (HS134.give [] rfl (Lent.nil)) h138).mono (fun e w hc => ?_))
                    obtain ⟨rfl, HSo⟩ := hc
                    refine ⟨.tuple #[.int .u32 z139, .int .i64 z140], rfl, ?_⟩
                    have HS142 : Hp S0 w0 w [.rd A_data_2 (rowC (Eint .u8) l_data_2), .box g9 [.slice A51 z47.length c52, .int .i64 z48] 99, .own A51 c52 (rowC (Eint .u8) z47) 5 (Eint .u8).sz, .box g25 [.slice A27 z21.length c28, .int .i64 z22] 102, .own A27 c28 (rowC (Eint .u8) z21) 5 (Eint .u8).sz, .own A89 c90 (rowC (Eint .u8) z86) 5 (Eint .u8).sz, .own A123 c124 (rowC (Eint .u8) z120) 5 (Eint .u8).sz] := (HS134.back [] HSo rfl).sel [0, 1, 2, 3, 4, 5, 6] rfl
                    refine F_val rfl rfl rfl (O_move rfl rfl) ?_
                    refine F_val rfl rfl rfl (O_extract (v := .int .u32 z139) rfl rfl rfl) ?_
                    refine F_val rfl rfl rfl (O_extract (v := .int .i64 z140) rfl rfl rfl) ?_
                    refine F_val rfl rfl rfl (O_assign rfl rfl) ?_
                    refine F_val rfl rfl rfl (O_assign rfl rfl) ?_
                    refine F_nil ?_
                    refine L_seq ?_
                    refine L_region ?_
                    refine F_val rfl rfl rfl (O_move rfl rfl) ?_
                    refine F_val rfl rfl rfl (O_move rfl rfl) ?_
                    obtain ⟨⟨z147, z148⟩, h146, H⟩ := of_bind H
                    refine F_call (xs := [.tmp 84, .tmp 85]) rfl rfl rfl rfl Try.func40 nm40 rfl rfl ((bits_Reader_Raw_n0.calls (HS142.give [] rfl (Lent.nil)) h146).mono (fun e w hc => ?_))
                    obtain ⟨A151, c152, rfl, HSo⟩ := hc
                    refine ⟨.tuple #[.slice A151 z147.length c152, .int .i64 z148], rfl, ?_⟩
                    have HS150 : Hp S0 w0 w [.rd A_data_2 (rowC (Eint .u8) l_data_2), .box g9 [.slice A51 z47.length c52, .int .i64 z48] 99, .own A51 c52 (rowC (Eint .u8) z47) 5 (Eint .u8).sz, .box g25 [.slice A27 z21.length c28, .int .i64 z22] 102, .own A27 c28 (rowC (Eint .u8) z21) 5 (Eint .u8).sz, .own A89 c90 (rowC (Eint .u8) z86) 5 (Eint .u8).sz, .own A123 c124 (rowC (Eint .u8) z120) 5 (Eint .u8).sz, .own A151 c152 (rowC (Eint .u8) z147) 5 (Eint .u8).sz] := (HS142.back [] HSo rfl).sel [0, 1, 2, 3, 4, 5, 6, 7] rfl
                    refine F_val rfl rfl rfl (O_move rfl rfl) ?_
                    refine F_val rfl rfl rfl (O_extract (v := .slice A151 z147.length c152) rfl rfl rfl) ?_
                    refine F_val rfl rfl rfl (O_extract (v := .int .i64 z148) rfl rfl rfl) ?_
                    refine F_val rfl rfl rfl (O_assign rfl rfl) ?_
                    refine F_val rfl rfl rfl (O_assign rfl rfl) ?_
                    refine F_nil ?_
                    refine L_seq ?_
                    refine L_seq ?_
                    refine L_region ?_
                    refine F_val rfl rfl rfl (O_move rfl rfl) ?_
                    refine F_val rfl rfl rfl (O_ne rfl rfl rfl) ?_
                    refine F_val rfl rfl rfl (O_move rfl rfl) ?_
                    refine F_grp 3 [(94, .bool (decide ((z131 ≠ 0) ∨ (z139 ≠ 0)))), (1, .int .i64 n_1), (10, .pointer none), (12, .int .i64 z132), (14, .int .i64 z140), (15, .slice A151 z147.length c152), (16, .int .i64 z148)] ?_ ?_
                    · rcases Decidable.em (z131 ≠ 0) with c154 | c154
                      · refine F_know (i := 91) rfl (dec_t c154) ?_
                        refine F_gskip rfl rfl rfl rfl rfl rfl rfl ?_
                        refine F_gskip rfl rfl rfl rfl rfl rfl rfl ?_
                        refine F_val rfl rfl rfl (O_pickT rfl rfl rfl) ?_
                        refine F_know (i := 94) rfl (dec_or_t (q := z139 ≠ 0) c154) ?_
                        exact F_grpE (fun a ha => Is.cons ha (Is.cons ha (Is.cons ha (Is.cons ha (Is.cons ha (Is.cons ha (Is.cons ha (Is.nil ha) rfl) rfl) rfl) rfl) rfl) rfl) rfl)
                      · refine F_know (i := 91) rfl (dec_f c154) ?_
                        refine F_gval rfl rfl rfl rfl rfl rfl (O_move rfl rfl) ?_
                        refine F_gval rfl rfl rfl rfl rfl rfl (O_ne rfl rfl rfl) ?_
                        refine F_val rfl rfl rfl (O_pickF rfl rfl rfl) ?_
                        refine F_know (i := 94) rfl (dec_or_f (q := z139 ≠ 0) c154) ?_
                        exact F_grpE (fun a ha => Is.cons ha (Is.cons ha (Is.cons ha (Is.cons ha (Is.cons ha (Is.cons ha (Is.cons ha (Is.nil ha) rfl) rfl) rfl) rfl) rfl) rfl) rfl)
                    · skip
                      refine F_val rfl rfl rfl (O_move rfl rfl) ?_
                      refine F_grp 3 [(98, .bool (decide (((z131 ≠ 0) ∨ (z139 ≠ 0)) ∨ (z140 ≠ 0)))), (1, .int .i64 n_1), (10, .pointer none), (12, .int .i64 z132), (15, .slice A151 z147.length c152), (16, .int .i64 z148)] ?_ ?_
                      · rcases Decidable.em ((z131 ≠ 0) ∨ (z139 ≠ 0)) with c155 | c155
                        · refine F_know (i := 95) rfl (dec_t c155) ?_
                          refine F_gskip rfl rfl rfl rfl rfl rfl rfl ?_
                          refine F_gskip rfl rfl rfl rfl rfl rfl rfl ?_
                          refine F_val rfl rfl rfl (O_pickT rfl rfl rfl) ?_
                          refine F_know (i := 98) rfl (dec_or_t (q := z140 ≠ 0) c155) ?_
                          exact F_grpE (fun a ha => Is.cons ha (Is.cons ha (Is.cons ha (Is.cons ha (Is.cons ha (Is.cons ha (Is.nil ha) rfl) rfl) rfl) rfl) rfl) rfl)
                        · refine F_know (i := 95) rfl (dec_f c155) ?_
                          refine F_gval rfl rfl rfl rfl rfl rfl (O_move rfl rfl) ?_
                          refine F_gval rfl rfl rfl rfl rfl rfl (O_ne rfl rfl rfl) ?_
                          refine F_val rfl rfl rfl (O_pickF rfl rfl rfl) ?_
                          refine F_know (i := 98) rfl (dec_or_f (q := z140 ≠ 0) c155) ?_
                          exact F_grpE (fun a ha => Is.cons ha (Is.cons ha (Is.cons ha (Is.cons ha (Is.cons ha (Is.cons ha (Is.nil ha) rfl) rfl) rfl) rfl) rfl) rfl)
                      · skip
                        refine F_val rfl rfl rfl (O_move rfl rfl) ?_
                        refine F_grp 4 [(103, .bool (decide ((((z131 ≠ 0) ∨ (z139 ≠ 0)) ∨ (z140 ≠ 0)) ∨ ((z147.length : Int) ≠ 0)))), (1, .int .i64 n_1), (10, .pointer none), (12, .int .i64 z132), (16, .int .i64 z148)] ?_ ?_
                        · rcases Decidable.em (((z131 ≠ 0) ∨ (z139 ≠ 0)) ∨ (z140 ≠ 0)) with c156 | c156
                          · refine F_know (i := 99) rfl (dec_t c156) ?_
                            refine F_gskip rfl rfl rfl rfl rfl rfl rfl ?_
                            refine F_gskip rfl rfl rfl rfl rfl rfl rfl ?_
                            refine F_gskip rfl rfl rfl rfl rfl rfl rfl ?_
                            refine F_val rfl rfl rfl (O_pickT rfl rfl rfl) ?_
                            refine F_know (i := 103) rfl (dec_or_t (q := (z147.length : Int) ≠ 0) c156) ?_
                            exact F_grpE (fun a ha => Is.cons ha (Is.cons ha (Is.cons ha (Is.cons ha (Is.cons ha (Is.nil ha) rfl) rfl) rfl) rfl) rfl)
                          · refine F_know (i := 99) rfl (dec_f c156) ?_
                            refine F_gval rfl rfl rfl rfl rfl rfl (O_move rfl rfl) ?_
                            refine F_gval rfl rfl rfl rfl rfl rfl (O_len rfl rfl Try.underlying35) ?_
                            refine F_gval rfl rfl rfl rfl rfl rfl (O_ne rfl rfl rfl) ?_
                            refine F_val rfl rfl rfl (O_pickF rfl rfl rfl) ?_
                            refine F_know (i := 103) rfl (dec_or_f (q := (z147.length : Int) ≠ 0) c156) ?_
                            exact F_grpE (fun a ha => Is.cons ha (Is.cons ha (Is.cons ha (Is.cons ha (Is.cons ha (Is.nil ha) rfl) rfl) rfl) rfl) rfl)
                        · skip
                          refine F_val rfl rfl rfl (O_move rfl rfl) ?_
                          refine F_grp 3 [(107, .bool (decide (((((z131 ≠ 0) ∨ (z139 ≠ 0)) ∨ (z140 ≠ 0)) ∨ ((z147.length : Int) ≠ 0)) ∨ (z132 ≠ 1)))), (1, .int .i64 n_1), (10, .pointer none), (16, .int .i64 z148)] ?_ ?_
                          · rcases Decidable.em ((((z131 ≠ 0) ∨ (z139 ≠ 0)) ∨ (z140 ≠ 0)) ∨ ((z147.length : Int) ≠ 0)) with c157 | c157
                            · refine F_know (i := 104) rfl (dec_t c157) ?_
                              refine F_gskip rfl rfl rfl rfl rfl rfl rfl ?_
                              refine F_gskip rfl rfl rfl rfl rfl rfl rfl ?_
                              refine F_val rfl rfl rfl (O_pickT rfl rfl rfl) ?_
                              refine F_know (i := 107) rfl (dec_or_t (q := z132 ≠ 1) c157) ?_
                              exact F_grpE (fun a ha => Is.cons ha (Is.cons ha (Is.cons ha (Is.cons ha (Is.nil ha) rfl) rfl) rfl) rfl)
                            · refine F_know (i := 104) rfl (dec_f c157) ?_
                              refine F_gval rfl rfl rfl rfl rfl rfl (O_move rfl rfl) ?_
                              refine F_gval rfl rfl rfl rfl rfl rfl (O_ne rfl rfl rfl) ?_
                              refine F_val rfl rfl rfl (O_pickF rfl rfl rfl) ?_
                              refine F_know (i := 107) rfl (dec_or_f (q := z132 ≠ 1) c157) ?_
                              exact F_grpE (fun a ha => Is.cons ha (Is.cons ha (Is.cons ha (Is.cons ha (Is.nil ha) rfl) rfl) rfl) rfl)
                          · skip
                            refine F_val rfl rfl rfl (O_move rfl rfl) ?_
                            refine F_grp 3 [(111, .bool (decide ((((((z131 ≠ 0) ∨ (z139 ≠ 0)) ∨ (z140 ≠ 0)) ∨ ((z147.length : Int) ≠ 0)) ∨ (z132 ≠ 1)) ∨ (z148 ≠ 1)))), (1, .int .i64 n_1), (10, .pointer none)] ?_ ?_
                            · rcases Decidable.em (((((z131 ≠ 0) ∨ (z139 ≠ 0)) ∨ (z140 ≠ 0)) ∨ ((z147.length : Int) ≠ 0)) ∨ (z132 ≠ 1)) with c158 | c158
                              · refine F_know (i := 108) rfl (dec_t c158) ?_
                                refine F_gskip rfl rfl rfl rfl rfl rfl rfl ?_
                                refine F_gskip rfl rfl rfl rfl rfl rfl rfl ?_
                                refine F_val rfl rfl rfl (O_pickT rfl rfl rfl) ?_
                                refine F_know (i := 111) rfl (dec_or_t (q := z148 ≠ 1) c158) ?_
                                exact F_grpE (fun a ha => Is.cons ha (Is.cons ha (Is.cons ha (Is.nil ha) rfl) rfl) rfl)
                              · refine F_know (i := 108) rfl (dec_f c158) ?_
                                refine F_gval rfl rfl rfl rfl rfl rfl (O_move rfl rfl) ?_
                                refine F_gval rfl rfl rfl rfl rfl rfl (O_ne rfl rfl rfl) ?_
                                refine F_val rfl rfl rfl (O_pickF rfl rfl rfl) ?_
                                refine F_know (i := 111) rfl (dec_or_f (q := z148 ≠ 1) c158) ?_
                                exact F_grpE (fun a ha => Is.cons ha (Is.cons ha (Is.cons ha (Is.nil ha) rfl) rfl) rfl)
                            · skip
                              refine F_nil ?_
                              refine L_condP rfl (fun c159 => ?_) (fun c159 => ?_)
                              · have H := of_pos H c159
                                refine L_seq ?_
                                refine L_region ?_
                                refine F_val rfl rfl rfl (O_assign rfl rfl) ?_
                                refine F_nil ?_
                                refine L_ret (fun a ha => (post_ret1 ha rfl rfl ?_))
                                obtain rfl := Option.some.inj H
                                exact ⟨rfl, HS150.sel [] rfl⟩
                              · have H := of_neg H c159
                                refine L_skip ?_
                                refine L_seq ?_
                                refine L_region ?_
                                refine F_val rfl rfl rfl (O_move rfl rfl) ?_
                                refine F_val rfl rfl rfl (O_move rfl rfl) ?_
                                obtain ⟨z164, h163, H⟩ := of_bind H
                                refine F_call (xs := [.tmp 112, .tmp 113]) rfl rfl rfl rfl Try.func32 nm32 rfl rfl ((bits_Reader_Skip_n0.calls (HS150.give [] rfl (Lent.nil)) h163).mono (fun e w hc => ?_))
                                obtain ⟨rfl, HSo⟩ := hc
                                refine ⟨.int .i64 z164, rfl, ?_⟩
                                have HS166 : Hp S0 w0 w [.rd A_data_2 (rowC (Eint .u8) l_data_2), .box g9 [.slice A51 z47.length c52, .int .i64 z48] 99, .own A51 c52 (rowC (Eint .u8) z47) 5 (Eint .u8).sz, .box g25 [.slice A27 z21.length c28, .int .i64 z22] 102, .own A27 c28 (rowC (Eint .u8) z21) 5 (Eint .u8).sz, .own A89 c90 (rowC (Eint .u8) z86) 5 (Eint .u8).sz, .own A123 c124 (rowC (Eint .u8) z120) 5 (Eint .u8).sz, .own A151 c152 (rowC (Eint .u8) z147) 5 (Eint .u8).sz] := (HS150.back [] HSo rfl).sel [0, 1, 2, 3, 4, 5, 6, 7] rfl
                                refine F_val rfl rfl rfl (O_eq rfl rfl rfl) ?_
                                refine F_val rfl rfl rfl (O_move rfl rfl) ?_
                                rcases Decidable.em (z164 = 1) with c167 | c167
                                · have H := of_pos H c167
                                  refine F_know (i := 116) rfl (dec_t c167) ?_
                                  refine F_gval rfl rfl rfl rfl rfl rfl (O_move rfl rfl) ?_
                                  obtain ⟨z172, h171, H⟩ := of_bind H
                                  refine F_gcall (xs := [.tmp 117]) rfl rfl rfl rfl rfl rfl rfl Try.func29 nm29 rfl rfl ((bits_Reader_At_n0.calls (HS166.give [] rfl (Lent.nil)) h171).mono (fun e w hc => ?_))
                                  obtain ⟨rfl, HSo⟩ := hc
                                  refine ⟨.int .i64 z172, rfl, ?_⟩
                                  have HS174 : Hp S0 w0 w [.rd A_data_2 (rowC (Eint .u8) l_data_2), .box g9 [.slice A51 z47.length c52, .int .i64 z48] 99, .own A51 c52 (rowC (Eint .u8) z47) 5 (Eint .u8).sz, .box g25 [.slice A27 z21.length c28, .int .i64 z22] 102, .own A27 c28 (rowC (Eint .u8) z21) 5 (Eint .u8).sz, .own A89 c90 (rowC (Eint .u8) z86) 5 (Eint .u8).sz, .own A123 c124 (rowC (Eint .u8) z120) 5 (Eint .u8).sz, .own A151 c152 (rowC (Eint .u8) z147) 5 (Eint .u8).sz] := (HS166.back [] HSo rfl).sel [0, 1, 2, 3, 4, 5, 6, 7] rfl
                                  refine F_gval rfl rfl rfl rfl rfl rfl (O_eq rfl rfl rfl) ?_
                                  refine F_val rfl rfl rfl (O_pickT rfl rfl rfl) ?_
                                  refine F_val rfl rfl rfl (O_move rfl rfl) ?_
                                  rcases Decidable.em (z172 = 0) with c175 | c175
                                  · have H := of_pos H c175
                                    refine F_know (i := 121) rfl (dec_t c175) ?_
                                    refine F_gval rfl rfl rfl rfl rfl rfl (O_move rfl rfl) ?_
                                    obtain ⟨z180, h179, H⟩ := of_bind H
                                    refine F_gcall (xs := [.tmp 122]) rfl rfl rfl rfl rfl rfl rfl Try.func30 nm30 rfl rfl ((bits_Reader_Left_n0.calls (HS174.give [] rfl (Lent.nil)) h179).mono (fun e w hc => ?_))
                                    obtain ⟨rfl, HSo⟩ := hc
                                    refine ⟨.int .i64 z180, rfl, ?_⟩
                                    have HS182 : Hp S0 w0 w [.rd A_data_2 (rowC (Eint .u8) l_data_2), .box g9 [.slice A51 z47.length c52, .int .i64 z48] 99, .own A51 c52 (rowC (Eint .u8) z47) 5 (Eint .u8).sz, .box g25 [.slice A27 z21.length c28, .int .i64 z22] 102, .own A27 c28 (rowC (Eint .u8) z21) 5 (Eint .u8).sz, .own A89 c90 (rowC (Eint .u8) z86) 5 (Eint .u8).sz, .own A123 c124 (rowC (Eint .u8) z120) 5 (Eint .u8).sz, .own A151 c152 (rowC (Eint .u8) z147) 5 (Eint .u8).sz] := (HS174.back [] HSo rfl).sel [0, 1, 2, 3, 4, 5, 6, 7] rfl
                                    refine F_gval rfl rfl rfl rfl rfl rfl (O_eq rfl rfl rfl) ?_
                                    refine F_val rfl rfl rfl (O_pickT rfl rfl rfl) ?_
                                    refine F_val rfl rfl rfl (O_assign rfl rfl) ?_
                                    refine F_nil ?_
                                    refine L_ret (fun a ha => (post_ret1 ha rfl rfl ?_))
                                    obtain rfl := Option.some.inj H
                                    exact ⟨rfl, HS182.sel [] rfl⟩
                                  · have H := of_neg H c175
                                    refine F_know (i := 121) rfl (dec_f c175) ?_
                                    refine F_gskip rfl rfl rfl rfl rfl rfl rfl ?_
                                    refine F_gskip rfl rfl rfl rfl rfl rfl rfl ?_
                                    refine F_gskip rfl rfl rfl rfl rfl rfl rfl ?_
                                    refine F_val rfl rfl rfl (O_pickF rfl rfl rfl) ?_
                                    refine F_val rfl rfl rfl (O_assign rfl rfl) ?_
                                    refine F_nil ?_
                                    refine L_ret (fun a ha => (post_ret1 ha rfl rfl ?_))
                                    obtain rfl := Option.some.inj H
                                    exact ⟨rfl, HS174.sel [] rfl⟩
                                · have H := of_neg H c167
                                  refine F_know (i := 116) rfl (dec_f c167) ?_
                                  refine F_gskip rfl rfl rfl rfl rfl rfl rfl ?_
                                  refine F_gskip rfl rfl rfl rfl rfl rfl rfl ?_
                                  refine F_gskip rfl rfl rfl rfl rfl rfl rfl ?_
                                  refine F_val rfl rfl rfl (O_pickF rfl rfl rfl) ?_
                                  refine F_val rfl rfl rfl (O_move rfl rfl) ?_
                                  refine F_gskip rfl rfl rfl rfl rfl rfl rfl ?_
                                  refine F_gskip rfl rfl rfl rfl rfl rfl rfl ?_
                                  refine F_gskip rfl rfl rfl rfl rfl rfl rfl ?_
                                  refine F_val rfl rfl rfl (O_pickF rfl rfl rfl) ?_
                                  refine F_val rfl rfl rfl (O_assign rfl rfl) ?_
                                  refine F_nil ?_
                                  refine L_ret (fun a ha => (post_ret1 ha rfl rfl ?_))
                                  obtain rfl := Option.some.inj H
                                  exact ⟨rfl, HS166.sel [] rfl⟩

end Go.Proofs.Ytmbcoaiaeeckiaa
