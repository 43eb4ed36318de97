import Derived.Test.YtmbcoaiaeeckiaaChecked
import Derived.Test.YtmbcoaiaeeckiaaGBitsMirrorPure
set_option linter.unusedVariables false
set_option linter.unusedSimpArgs false
set_option maxRecDepth 10000
namespace Go.Proofs.Ytmbcoaiaeeckiaa
open Go Go.V Go.V.Pu
theorem mix : Try.prog.follows .mixedOrders = true := by kernel_rfl
theorem nm44 : (Try.f44.name == "runtime.NumGoroutine") = false := by kernel_rfl
theorem nm27 : (Try.f27.name == "runtime.NumGoroutine") = false := by kernel_rfl
theorem nm20 : (Try.f20.name == "runtime.NumGoroutine") = false := by kernel_rfl
theorem nm15 : (Try.f15.name == "runtime.NumGoroutine") = false := by kernel_rfl
theorem nm18 : (Try.f18.name == "runtime.NumGoroutine") = false := by kernel_rfl
theorem field99_1 : FieldAt Try.prog 99 1 1 := fun w a => by kernel_rfl
theorem flat3 : Flat Try.prog 3 := Flat.of Try.underlying3 rfl
theorem field99_0 : FieldAt Try.prog 99 0 0 := fun w a => by kernel_rfl
theorem flat35 : Flat Try.prog 35 := Flat.of Try.underlying35 rfl
theorem info5 : (Try.prog.info? 5).map (fun i => (i.zero, i.size, i.bytes)) = some (some (.int .u8 0), 1, 1) := by kernel_rfl
theorem size35 : (Try.prog.info? 35).map (·.size) = some 1 := by kernel_rfl
theorem size5 : (Try.prog.info? 5).map (·.size) = some 1 := by kernel_rfl
theorem flat5 : Flat Try.prog 5 := Flat.of Try.underlying5 rfl
theorem size3 : (Try.prog.info? 3).map (·.size) = some 1 := by kernel_rfl
theorem nm56 : (Try.f56.name == "runtime.NumGoroutine") = false := by kernel_rfl
theorem nm19 : (Try.f19.name == "runtime.NumGoroutine") = false := by kernel_rfl
theorem nm21 : (Try.f21.name == "runtime.NumGoroutine") = false := by kernel_rfl
theorem nm25 : (Try.f25.name == "runtime.NumGoroutine") = false := by kernel_rfl
theorem field102_0 : FieldAt Try.prog 102 0 0 := fun w a => by kernel_rfl
theorem field102_1 : FieldAt Try.prog 102 1 1 := fun w a => by kernel_rfl
theorem nm30 : (Try.f30.name == "runtime.NumGoroutine") = false := by kernel_rfl
theorem nm57 : (Try.f57.name == "runtime.NumGoroutine") = false := by kernel_rfl
theorem nm31 : (Try.f31.name == "runtime.NumGoroutine") = false := by kernel_rfl
/-! function 44: valise/valiselaw3.which -/
theorem valiselaw3_which.calls {S0 : Nat → Prop} {w0 : World} {k_0 : Int} {n_1 : Int} {r : Int} (HS0 : Hp S0 w0 w0 []) (h : valiselaw3_which.f k_0 n_1 = some r) :
    Calls Try.prog 44 ([.int .i64 k_0, .int .i64 n_1] : List Value).toArray w0 (fun e w => e = .returned (.int .i64 r) ∧ Hp S0 w0 w []) := by
  have H : ((gd (n_1 ≠ 0) (bnd (Int.tmod k_0 n_1) fun x2 => (if x2 < 0 then (bnd (IntKind.i64.wrap (x2 + n_1)) fun x10 => some x10) else (some x2)).bind fun m_8 => some m_8)) : Option (Int)) = some r := h
  refine calls_start Try.func44 rfl rfl ?_
  refine L_seq ?_
  refine L_region ?_
  refine F_val rfl rfl rfl (O_assign rfl rfl) ?_
  refine F_nil ?_
  refine L_seq ?_
  refine L_region ?_
  refine F_val rfl rfl rfl (O_move rfl rfl) ?_
  refine F_val rfl rfl rfl (O_move rfl rfl) ?_
  obtain ⟨g1, H⟩ := of_gd H
  refine F_val rfl rfl rfl (O_rem rfl rfl rfl g1) ?_
  obtain ⟨x2, h3, H⟩ := of_bnd H
  refine F_val rfl rfl rfl (O_assign' rfl rfl (congrArg (Value.int .i64) h3)) ?_
  refine F_nil ?_
  refine L_seq ?_
  refine L_seq ?_
  refine L_region ?_
  refine F_val rfl rfl rfl (O_move rfl rfl) ?_
  refine F_val rfl rfl rfl (O_lt rfl rfl rfl) ?_
  refine F_nil ?_
  obtain ⟨yj4, Hyj4, H⟩ := of_bind H
  refine L_join (fun a w => ∃ (m_8 : Int), yj4 = m_8 ∧ Is Try.f44.ntmps a [(5, .int .i64 m_8)] ∧ Hp S0 w0 w []) (fun Qj4 hNj4 hOj4 => ?_) (fun a w hR => ?_)
  · skip
    have H := Hyj4
    refine L_condP rfl (fun c9 => ?_) (fun c9 => ?_)
    · have H := of_pos H c9
      refine L_region ?_
      refine F_val rfl rfl rfl (O_move rfl rfl) ?_
      refine F_val rfl rfl rfl (O_move rfl rfl) ?_
      refine F_val rfl rfl rfl (O_add rfl rfl rfl) ?_
      obtain ⟨x10, h11, H⟩ := of_bnd H
      refine F_val rfl rfl rfl (O_assign' rfl rfl (congrArg (Value.int .i64) h11)) ?_
      refine F_nil ?_
      refine L_nil (fun a ha => hNj4 a _ ⟨_, (Option.some.inj H).symm, Is.cons ha (Is.nil ha) rfl, HS0.sel [] rfl⟩)
    · have H := of_neg H c9
      refine L_skip ?_
      refine L_nil (fun a ha => hNj4 a _ ⟨_, (Option.some.inj H).symm, Is.cons ha (Is.nil ha) rfl, HS0.sel [] rfl⟩)
  · obtain ⟨m_8, ej, ha, HS13⟩ := hR
    obtain rfl := ej.symm
    refine wpLF_app ?_ ha
    refine L_seq ?_
    refine L_region ?_
    refine F_val rfl rfl rfl (O_move rfl rfl) ?_
    refine F_val rfl rfl rfl (O_assign rfl rfl) ?_
    refine F_nil ?_
    refine L_ret (fun a ha => (post_ret1 ha rfl rfl ?_))
    obtain rfl := Option.some.inj H
    exact ⟨rfl, HS13.sel [] rfl⟩

/-! function 27: valise/valiselaw3.width -/
theorem valiselaw3_width.calls {S0 : Nat → Prop} {w0 : World} {n_0 : Int} {r : Int} (HS0 : Hp S0 w0 w0 []) (h : valiselaw3_width.f n_0 = some r) :
    Calls Try.prog 27 ([.int .i64 n_0] : List Value).toArray w0 (fun e w => e = .returned (.int .i64 r) ∧ Hp S0 w0 w []) := by
  have H : (((valiselaw3_which.f n_0 33).bind fun z5 => some z5) : Option (Int)) = some r := h
  refine calls_start Try.func27 rfl rfl ?_
  refine L_seq ?_
  refine L_region ?_
  refine F_val rfl rfl rfl (O_assign rfl rfl) ?_
  refine F_nil ?_
  refine L_seq ?_
  refine L_region ?_
  refine F_val rfl rfl rfl (O_move rfl rfl) ?_
  obtain ⟨z5, h4, H⟩ := of_bind H
  refine F_call (xs := [.tmp 3, .const (.int .i64 33)]) rfl rfl rfl rfl Try.func44 nm44 rfl rfl ((valiselaw3_which.calls (HS0.give [] rfl (Lent.nil)) h4).mono (fun e w hc => ?_))
  obtain ⟨rfl, HSo⟩ := hc
  refine ⟨.int .i64 z5, rfl, ?_⟩
  have HS7 : Hp S0 w0 w [] := (HS0.back [] HSo rfl).sel [] rfl
  refine F_val rfl rfl rfl (O_assign rfl rfl) ?_
  refine F_nil ?_
  refine L_ret (fun a ha => (post_ret1 ha rfl rfl ?_))
  obtain rfl := Option.some.inj H
  exact ⟨rfl, HS7.sel [] rfl⟩

/-! function 20: valise/valiselaw3.low -/
theorem valiselaw3_low.calls {S0 : Nat → Prop} {w0 : World} {v_0 : Int} {n_1 : Int} {r : Int} (HS0 : Hp S0 w0 w0 []) (h : valiselaw3_low.f v_0 n_1 = some r) :
    Calls Try.prog 20 ([.int .u32 v_0, .int .i64 n_1] : List Value).toArray w0 (fun e w => e = .returned (.int .u32 r) ∧ Hp S0 w0 w []) := by
  have H : ((gd (¬ (IntKind.u64.wrap n_1) < 0) (some (IntKind.u32.wrap (band .u64 (IntKind.u64.wrap v_0) (IntKind.u64.wrap ((shl .u64 1 (IntKind.u64.wrap n_1)) - 1)))))) : Option (Int)) = some r := h
  refine calls_start Try.func20 rfl rfl ?_
  refine L_seq ?_
  refine L_region ?_
  refine F_val rfl rfl rfl (O_assign rfl rfl) ?_
  refine F_nil ?_
  refine L_seq ?_
  refine L_region ?_
  refine F_val rfl rfl rfl (O_move rfl rfl) ?_
  refine F_val rfl rfl rfl (O_conv rfl rfl ⟨_, Try.underlying22⟩ Try.underlying87) ?_
  refine F_val rfl rfl rfl (O_move rfl rfl) ?_
  refine F_val rfl rfl rfl (O_conv rfl rfl ⟨_, Try.underlying3⟩ Try.underlying75) ?_
  obtain ⟨g1, H⟩ := of_gd H
  refine F_val rfl rfl rfl (O_shl rfl rfl rfl g1) ?_
  refine F_val rfl rfl rfl (O_sub rfl rfl rfl) ?_
  refine F_val rfl rfl rfl (O_and rfl rfl rfl) ?_
  refine F_val rfl rfl rfl (O_conv rfl rfl ⟨_, Try.underlying87⟩ Try.underlying22) ?_
  refine F_val rfl rfl rfl (O_assign rfl rfl) ?_
  refine F_nil ?_
  refine L_ret (fun a ha => (post_ret1 ha rfl rfl ?_))
  obtain rfl := Option.some.inj H
  exact ⟨rfl, HS0.sel [] rfl⟩

/-! function 15: valise/bits.Reverse -/
theorem bits_Reverse.calls {S0 : Nat → Prop} {w0 : World} {v_0 : Int} {n_1 : Int} {r : Int × Int} (HS0 : Hp S0 w0 w0 []) (h : bits_Reverse.f v_0 n_1 = some r) :
    Calls Try.prog 15 ([.int .u32 v_0, .int .i64 n_1] : List Value).toArray w0 (fun e w => e = .returned (.tuple #[.int .u32 r.1, .int .i64 r.2]) ∧ Hp S0 w0 w []) := by
  have H : (((if (n_1 < 0) ∨ (32 < n_1) then (some true) else (gd (¬ (IntKind.u64.wrap n_1) < 0) (some (decide (shr .u64 (IntKind.u64.wrap v_0) (IntKind.u64.wrap n_1) ≠ 0))))).bind fun b3 => if b3 = true then (some (0, 1)) else ((bits_Reverse.l1 FU v_0 0 0 n_1).bind fun out_36 => some (out_36, 0))) : Option (Int × Int)) = some r := h
  refine calls_start Try.func15 rfl rfl ?_
  refine L_seq ?_
  refine L_region ?_
  refine F_val rfl rfl rfl (O_assign rfl rfl) ?_
  refine F_val rfl rfl rfl (O_assign rfl rfl) ?_
  refine F_nil ?_
  refine L_seq ?_
  refine L_seq ?_
  refine L_region ?_
  refine F_val rfl rfl rfl (O_move rfl rfl) ?_
  refine F_val rfl rfl rfl (O_lt rfl rfl rfl) ?_
  refine F_val rfl rfl rfl (O_move rfl rfl) ?_
  refine F_grp 3 [(12, .bool (decide ((n_1 < 0) ∨ (32 < n_1)))), (0, .int .u32 v_0), (1, .int .i64 n_1)] ?_ ?_
  · rcases Decidable.em (n_1 < 0) with c1 | c1
    · refine F_know (i := 9) rfl (dec_t c1) ?_
      refine F_gskip rfl rfl rfl rfl rfl rfl rfl ?_
      refine F_gskip rfl rfl rfl rfl rfl rfl rfl ?_
      refine F_val rfl rfl rfl (O_pickT rfl rfl rfl) ?_
      refine F_know (i := 12) rfl (dec_or_t (q := 32 < n_1) c1) ?_
      exact F_grpE (fun a ha => Is.cons ha (Is.cons ha (Is.cons ha (Is.nil ha) rfl) rfl) rfl)
    · refine F_know (i := 9) rfl (dec_f c1) ?_
      refine F_gval rfl rfl rfl rfl rfl rfl (O_move rfl rfl) ?_
      refine F_gval rfl rfl rfl rfl rfl rfl (O_gt rfl rfl rfl) ?_
      refine F_val rfl rfl rfl (O_pickF rfl rfl rfl) ?_
      refine F_know (i := 12) rfl (dec_or_f (q := 32 < n_1) c1) ?_
      exact F_grpE (fun a ha => Is.cons ha (Is.cons ha (Is.cons ha (Is.nil ha) rfl) rfl) rfl)
  · skip
    refine F_val rfl rfl rfl (O_move rfl rfl) ?_
    obtain ⟨b3, Hb3, H⟩ := of_bind H
    refine F_grp 7 [(20, .bool b3), (0, .int .u32 v_0), (1, .int .i64 n_1)] ?_ ?_
    · rcases Decidable.em ((n_1 < 0) ∨ (32 < n_1)) with c4 | c4
      · refine F_know (i := 13) rfl (dec_t c4) ?_
        have H := of_pos Hb3 c4
        refine F_gskip rfl rfl rfl rfl rfl rfl rfl ?_
        refine F_gskip rfl rfl rfl rfl rfl rfl rfl ?_
        refine F_gskip rfl rfl rfl rfl rfl rfl rfl ?_
        refine F_gskip rfl rfl rfl rfl rfl rfl rfl ?_
        refine F_gskip rfl rfl rfl rfl rfl rfl rfl ?_
        refine F_gskip rfl rfl rfl rfl rfl rfl rfl ?_
        refine F_val rfl rfl rfl (O_pickT rfl rfl rfl) ?_
        refine F_know (i := 20) rfl (congrArg Value.bool (Option.some.inj H)) ?_
        exact F_grpE (fun a ha => Is.cons ha (Is.cons ha (Is.cons ha (Is.nil ha) rfl) rfl) rfl)
      · refine F_know (i := 13) rfl (dec_f c4) ?_
        have H := of_neg Hb3 c4
        refine F_gval rfl rfl rfl rfl rfl rfl (O_move rfl rfl) ?_
        refine F_gval rfl rfl rfl rfl rfl rfl (O_conv rfl rfl ⟨_, Try.underlying22⟩ Try.underlying87) ?_
        refine F_gval rfl rfl rfl rfl rfl rfl (O_move rfl rfl) ?_
        refine F_gval rfl rfl rfl rfl rfl rfl (O_conv rfl rfl ⟨_, Try.underlying3⟩ Try.underlying75) ?_
        obtain ⟨g5, H⟩ := of_gd H
        refine F_gval rfl rfl rfl rfl rfl rfl (O_shr rfl rfl rfl g5) ?_
        refine F_gval rfl rfl rfl rfl rfl rfl (O_ne rfl rfl rfl) ?_
        refine F_val rfl rfl rfl (O_pickF rfl rfl rfl) ?_
        refine F_know (i := 20) rfl (congrArg Value.bool (Option.some.inj H)) ?_
        exact F_grpE (fun a ha => Is.cons ha (Is.cons ha (Is.cons ha (Is.nil ha) rfl) rfl) rfl)
    · skip
      refine F_nil ?_
      refine L_cond rfl (fun c6 => ?_) (fun c6 => ?_)
      · have H := of_pos H c6
        refine L_seq ?_
        refine L_region ?_
        refine F_val rfl rfl rfl (O_assign rfl rfl) ?_
        refine F_val rfl rfl rfl (O_assign rfl rfl) ?_
        refine F_nil ?_
        refine L_ret (fun a ha => (post_ret2 ha rfl rfl rfl ?_))
        obtain rfl := Option.some.inj H
        exact ⟨rfl, HS0.sel [] rfl⟩
      · have H := of_neg H (by rw [c6]; exact Bool.false_ne_true)
        refine L_skip ?_
        refine L_seq ?_
        refine L_region ?_
        refine F_val rfl rfl rfl (O_assign rfl rfl) ?_
        refine F_nil ?_
        refine L_seq ?_
        refine L_seq ?_
        refine L_region ?_
        refine F_val rfl rfl rfl (O_move rfl rfl) ?_
        refine F_val rfl rfl rfl (O_move rfl rfl) ?_
        refine F_nil ?_
        obtain ⟨yj7, Hyj7, H⟩ := of_bind H
        refine L_join (fun a w => ∃ (out_36 : Int), yj7 = out_36 ∧ Is Try.f15.ntmps a [(6, .int .u32 out_36)] ∧ Hp S0 w0 w []) (fun Qj7 hNj7 hOj7 => ?_) (fun a w hR => ?_)
        · skip
          have H := Hyj7
          refine L_blk (fun Qb37 hNb37 hXb37 hOb37 => ?_)
          refine L_lp (fun k a w => ∃ (v_54 : Int), ∃ (out_55 : Int), ∃ (t56 : Int), Is Try.f15.ntmps a [(0, .int .u32 v_54), (6, .int .u32 out_55), (21, .int .i64 n_1), (22, .int .i64 t56)] ∧ Hp S0 w0 w [] ∧ bits_Reverse.l1 k v_54 out_55 t56 n_1 = some yj7) FU (fun a ha => ⟨_, _, _, Is.cons ha (Is.cons ha (Is.cons ha (Is.cons ha (Is.nil ha) rfl) rfl) rfl) rfl, HS0.sel [] rfl, H⟩) (fun kp53 a w57 hI Qp53 hNp53 hOp53 => ?_)
          obtain ⟨v_54, out_55, t56, ha, HS58, HAp53⟩ := hI
          cases kp53 with
          | zero => cases (show (none : Option _) = some _ from HAp53)
          | succ kp53 =>
            have H := (bits_Reverse.l1.eq_2 ..).symm.trans HAp53
            refine wpLF_app ?_ ha
            refine L_seq ?_
            refine L_region ?_
            refine F_val rfl rfl rfl (O_lt rfl rfl rfl) ?_
            refine F_nil ?_
            refine L_seq ?_
            refine L_condP rfl (fun c59 => ?_) (fun c59 => ?_)
            · have H := of_pos H c59
              refine L_skip ?_
              refine L_seq ?_
              refine L_blk (fun Q60 hN60 hX60 hO60 => ?_)
              refine L_seq ?_
              refine L_region ?_
              refine F_val rfl rfl rfl (O_move rfl rfl) ?_
              refine F_val rfl rfl rfl (O_shl rfl rfl rfl (by decide)) ?_
              refine F_val rfl rfl rfl (O_move rfl rfl) ?_
              refine F_val rfl rfl rfl (O_and rfl rfl rfl) ?_
              refine F_val rfl rfl rfl (O_or rfl rfl rfl) ?_
              obtain ⟨x61, h62, H⟩ := of_bnd H
              refine F_val rfl rfl rfl (O_assign' rfl rfl (congrArg (Value.int .u32) h62)) ?_
              refine F_nil ?_
              refine L_region ?_
              refine F_val rfl rfl rfl (O_move rfl rfl) ?_
              refine F_val rfl rfl rfl (O_shr rfl rfl rfl (by decide)) ?_
              obtain ⟨x63, h64, H⟩ := of_bnd H
              refine F_val rfl rfl rfl (O_assign' rfl rfl (congrArg (Value.int .u32) h64)) ?_
              refine F_nil ?_
              refine L_endB hN60 ?_
              refine L_region ?_
              refine F_val rfl rfl rfl (O_add rfl rfl rfl) ?_
              refine F_val rfl rfl rfl (O_move rfl rfl) ?_
              refine F_nil ?_
              refine L_nil (fun a ha => hNp53 _ a _ (Nat.lt_succ_self _) ⟨_, _, _, Is.cons ha (Is.cons ha (Is.cons ha (Is.cons ha (Is.nil ha) rfl) rfl) rfl) rfl, HS58.sel [] rfl, H⟩)
            · have H := of_neg H c59
              refine L_exitB (fun a w h => hOp53 (.exit 0) a w rfl (hXb37 a w h)) ?_
              refine L_nil (fun a ha => hNj7 a _ ⟨_, (Option.some.inj H).symm, Is.cons ha (Is.nil ha) rfl, HS58.sel [] rfl⟩)
        · obtain ⟨out_36, ej, ha, HS66⟩ := hR
          obtain rfl := ej.symm
          refine wpLF_app ?_ ha
          refine L_seq ?_
          refine L_region ?_
          refine F_val rfl rfl rfl (O_move rfl rfl) ?_
          refine F_val rfl rfl rfl (O_assign rfl rfl) ?_
          refine F_val rfl rfl rfl (O_assign rfl rfl) ?_
          refine F_nil ?_
          refine L_ret (fun a ha => (post_ret2 ha rfl rfl rfl ?_))
          obtain rfl := Option.some.inj H
          exact ⟨rfl, HS66.sel [] rfl⟩

/-! function 18: valise/bits.NewWriter -/
theorem bits_NewWriter.calls {S0 : Nat → Prop} {w0 : World} {r : (List Int × Int)} (HS0 : Hp S0 w0 w0 []) (h : bits_NewWriter.f = some r) :
    Calls Try.prog 18 ([] : List Value).toArray w0 (fun e w => ∃ (g1 : Nat), ∃ (A1_0 : Option Addr), ∃ (c1_0 : Nat), e = .returned (.pointer (some ⟨g1, 0, none⟩)) ∧ Hp S0 w0 w [.box g1 [.slice A1_0 r.1.length c1_0, .int .i64 r.2] 99, .own A1_0 c1_0 (rowC (Eint .u8) r.1) 5 (Eint .u8).sz]) := by
  have H : ((some (([] : List Int), 0)) : Option ((List Int × Int))) = some r := h
  refine calls_start Try.func18 rfl rfl ?_
  refine L_seq ?_
  refine L_region ?_
  refine F_val rfl rfl rfl (O_assign rfl rfl) ?_
  refine F_nil ?_
  refine L_seq ?_
  refine L_region ?_
  refine F_val rfl rfl rfl (O_build (vs := []) (v := .agg #[.slice none 0 0, .int .i64 0]) rfl rfl rfl (fun w => by kernel_rfl)) ?_
  have HS5 := HS0.addNil 5 (Eint .u8).sz
  have HS5 : Hp S0 w0 w0 [.own none 0 (rowC (Eint .u8) ([] : List Int)) 5 (Eint .u8).sz] := HS5
  refine F_box (C := [.slice none ([] : List Int).length 0, .int .i64 0]) rfl rfl rfl rfl rfl rfl HS5 (fun w1 g3 HS2 => ?_)
  have HS2 : Hp S0 w0 w1 [.own none 0 (rowC (Eint .u8) ([] : List Int)) 5 (Eint .u8).sz, .box g3 ([.slice none ([] : List Int).length 0, .int .i64 0]) 99] := HS2
  refine F_val rfl rfl rfl (O_assign rfl rfl) ?_
  refine F_nil ?_
  refine L_ret (fun a ha => (post_ret1 ha rfl rfl ?_))
  obtain rfl := Option.some.inj H
  exact ⟨_, _, _, rfl, HS2.sel [1, 0] rfl⟩

/-! function 56: (*valise/bits.Writer).lay -/
theorem bits_Writer_lay.calls {S0 : Nat → Prop} {w0 : World} {g_w_0 : Nat} {A_w_0_bytes : Option Addr} {c_w_0_bytes : Nat} {w_0_bytes : List Int} {w_0_count : Int} {v_1 : Int} {n_2 : Int} {r : List Int × Int} (HS0 : Hp S0 w0 w0 [.box g_w_0 [.slice A_w_0_bytes w_0_bytes.length c_w_0_bytes, .int .i64 w_0_count] 99, .own A_w_0_bytes c_w_0_bytes (rowC (Eint .u8) w_0_bytes) 5 (Eint .u8).sz]) (h : bits_Writer_lay.f w_0_bytes w_0_count v_1 n_2 = some r) :
    Calls Try.prog 56 ([.pointer (some ⟨g_w_0, 0, none⟩), .int .u64 v_1, .int .i64 n_2] : List Value).toArray w0 (fun e w => ∃ (A_w_0_bytes' : Option Addr), ∃ (c_w_0_bytes' : Nat), e = .returned (.tuple #[]) ∧ Hp S0 w0 w [.box g_w_0 [.slice A_w_0_bytes' r.1.length c_w_0_bytes', .int .i64 r.2] 99, .own A_w_0_bytes' c_w_0_bytes' (rowC (Eint .u8) r.1) 5 (Eint .u8).sz]) := by
  have H : (((bits_Writer_lay.l1 FU w_0_bytes w_0_count v_1 n_2 ).bind fun (l206, y207) => some (l206, y207)) : Option (List Int × Int)) = some r := h
  refine calls_start Try.func56 rfl rfl ?_
  obtain ⟨yj1, Hyj1, H⟩ := of_bind H
  refine L_join (fun a w => ∃ (l206 : List Int), ∃ (y207 : Int), ∃ (A204 : Option Addr), ∃ (c205 : Nat), yj1 = (l206, y207) ∧ Is Try.f56.ntmps a [] ∧ Hp S0 w0 w [.box g_w_0 [.slice A204 l206.length c205, .int .i64 y207] 99, .own A204 c205 (rowC (Eint .u8) l206) 5 (Eint .u8).sz]) (fun Qj1 hNj1 hOj1 => ?_) (fun a w hR => ?_)
  · skip
    have H := Hyj1
    refine L_blk (fun Qb208 hNb208 hXb208 hOb208 => ?_)
    refine L_lp (fun k a w => ∃ (l342 : List Int), ∃ (y343 : Int), ∃ (v_344 : Int), ∃ (n_345 : Int), ∃ (A340 : Option Addr), ∃ (c341 : Nat), Is Try.f56.ntmps a [(0, .pointer (some ⟨g_w_0, 0, none⟩)), (1, .int .u64 v_344), (2, .int .i64 n_345)] ∧ Hp S0 w0 w [.box g_w_0 [.slice A340 l342.length c341, .int .i64 y343] 99, .own A340 c341 (rowC (Eint .u8) l342) 5 (Eint .u8).sz] ∧ bits_Writer_lay.l1 k l342 y343 v_344 n_345  = some yj1) FU (fun a ha => ⟨_, _, _, _, _, _, Is.cons ha (Is.cons ha (Is.cons ha (Is.nil ha) rfl) rfl) rfl, HS0.sel [0, 1] rfl, H⟩) (fun kp339 a w346 hI Qp339 hNp339 hOp339 => ?_)
    obtain ⟨l342, y343, v_344, n_345, A340, c341, ha, HS347, HAp339⟩ := hI
    cases kp339 with
    | zero => cases (show (none : Option _) = some _ from HAp339)
    | succ kp339 =>
      have H := (bits_Writer_lay.l1.eq_2 ..).symm.trans HAp339
      refine wpLF_app ?_ ha
      refine L_seq ?_
      refine L_seq ?_
      refine L_region ?_
      refine F_val rfl rfl rfl (O_move rfl rfl) ?_
      refine F_val rfl rfl rfl (O_gt rfl rfl rfl) ?_
      refine F_nil ?_
      refine L_condP rfl (fun c348 => ?_) (fun c348 => ?_)
      · have H := of_pos H c348
        refine L_skip ?_
        refine L_blk (fun Q349 hN349 hX349 hO349 => ?_)
        refine L_seq ?_
        refine L_region ?_
        refine F_val rfl rfl rfl (O_move rfl rfl) ?_
        refine F_val rfl rfl rfl (O_nilCheck rfl rfl) ?_
        refine F_val rfl rfl rfl (O_fieldB rfl rfl field99_1) ?_
        refine F_val rfl rfl rfl (O_loadB rfl rfl flat3 (HS347.cells_box (i := 0) rfl) rfl) ?_
        refine F_val rfl rfl rfl (O_rem rfl rfl rfl (by decide)) ?_
        obtain ⟨x350, h351, H⟩ := of_bnd H
        refine F_val rfl rfl rfl (O_assign' rfl rfl (congrArg (Value.int .i64) h351)) ?_
        refine F_nil ?_
        refine L_seq ?_
        refine L_seq ?_
        refine L_region ?_
        refine F_val rfl rfl rfl (O_move rfl rfl) ?_
        refine F_val rfl rfl rfl (O_eq rfl rfl rfl) ?_
        refine F_nil ?_
        obtain ⟨yj352, Hyj352, H⟩ := of_bind H
        refine L_join (fun a w => ∃ (l370 : List Int), ∃ (A368 : Option Addr), ∃ (c369 : Nat), yj352 = l370 ∧ Is Try.f56.ntmps a [(0, .pointer (some ⟨g_w_0, 0, none⟩)), (1, .int .u64 v_344), (2, .int .i64 n_345), (6, .int .i64 x350)] ∧ Hp S0 w0 w [.box g_w_0 [.slice A368 l370.length c369, .int .i64 y343] 99, .own A368 c369 (rowC (Eint .u8) l370) 5 (Eint .u8).sz]) (fun Qj352 hNj352 hOj352 => ?_) (fun a w hR => ?_)
        · skip
          have H := Hyj352
          refine L_condP rfl (fun c371 => ?_) (fun c371 => ?_)
          · have H := of_pos H c371
            refine L_region ?_
            refine F_val rfl rfl rfl (O_move rfl rfl) ?_
            refine F_val rfl rfl rfl (O_move rfl rfl) ?_
            refine F_val rfl rfl rfl (O_nilCheck rfl rfl) ?_
            refine F_val rfl rfl rfl (O_fieldB rfl rfl field99_0) ?_
            refine F_val rfl rfl rfl (O_loadB rfl rfl flat35 (HS347.cells_box (i := 0) rfl) rfl) ?_
            refine F_litE (E := (Eint .u8)) (e := 5) [(0, .int .u8 0)] [0] rfl rfl rfl rfl rfl rfl rfl (by decide) (fun w => by kernel_rfl) HS347 (fun w372 A374 c375 HS373 => ?_)
            have HS373 : Hp S0 w0 w372 [.box g_w_0 [.slice A340 l342.length c341, .int .i64 y343] 99, .own A340 c341 (rowC (Eint .u8) l342) 5 (Eint .u8).sz, .own A374 c375 (rowC (Eint .u8) [0]) 5 (Eint .u8).sz] := HS373
            obtain ⟨l379, h380, H⟩ := of_bnd H
            obtain ⟨g381, H⟩ := of_gd H
            refine F_appE (E := (Eint .u8)) (xs := l342) (ys := [0]) (i := 1) rfl rfl rfl rfl Try.underlying35 info5 rfl (by decide) (by decide) rfl rfl HS373 rfl (HS373.cells_own (i := 2) rfl) h380 g381 (fun w377 A382 c383 HS378 => ?_)
            have HS378 : Hp S0 w0 w377 [.box g_w_0 [.slice A340 l342.length c341, .int .i64 y343] 99, .own A382 c383 (rowC (Eint .u8) l379) 5 (Eint .u8).sz, .own A374 c375 (rowC (Eint .u8) [0]) 5 (Eint .u8).sz] := HS378
            refine F_val rfl rfl rfl (O_nilCheck rfl rfl) ?_
            refine F_val rfl rfl rfl (O_fieldB rfl rfl field99_0) ?_
            refine F_stB 0 ([.slice A382 l379.length c383, .int .i64 y343]) rfl rfl rfl rfl rfl size35 HS378 rfl rfl rfl rfl rfl (fun w384 HS385 => ?_)
            have HS385 : Hp S0 w0 w384 [.box g_w_0 [.slice A382 l379.length c383, .int .i64 y343] 99, .own A382 c383 (rowC (Eint .u8) l379) 5 (Eint .u8).sz, .own A374 c375 (rowC (Eint .u8) [0]) 5 (Eint .u8).sz] := HS385
            refine F_nil ?_
            refine L_nil (fun a ha => hNj352 a _ ⟨_, _, _, (Option.some.inj H).symm, Is.cons ha (Is.cons ha (Is.cons ha (Is.cons ha (Is.nil ha) rfl) rfl) rfl) rfl, HS385.sel [0, 1] rfl⟩)
          · have H := of_neg H c371
            refine L_skip ?_
            refine L_nil (fun a ha => hNj352 a _ ⟨_, _, _, (Option.some.inj H).symm, Is.cons ha (Is.cons ha (Is.cons ha (Is.cons ha (Is.nil ha) rfl) rfl) rfl) rfl, HS347.sel [0, 1] rfl⟩)
        · obtain ⟨l370, A368, c369, ej, ha, HS387⟩ := hR
          obtain rfl := ej.symm
          refine wpLF_app ?_ ha
          refine L_seq ?_
          refine L_region ?_
          refine F_val rfl rfl rfl (O_move rfl rfl) ?_
          refine F_val rfl rfl rfl (O_sub rfl rfl rfl) ?_
          refine F_val rfl rfl rfl (O_move rfl rfl) ?_
          refine F_val rfl rfl rfl (O_min rfl rfl rfl) ?_
          obtain ⟨x388, h389, H⟩ := of_bnd H
          refine F_val rfl rfl rfl (O_assign' rfl rfl (congrArg (Value.int .i64) h389)) ?_
          refine F_nil ?_
          refine L_seq ?_
          refine L_region ?_
          refine F_val rfl rfl rfl (O_move rfl rfl) ?_
          refine F_val rfl rfl rfl (O_move rfl rfl) ?_
          refine F_val rfl rfl rfl (O_conv rfl rfl ⟨_, Try.underlying3⟩ Try.underlying75) ?_
          obtain ⟨g390, H⟩ := of_gd H
          refine F_val rfl rfl rfl (O_shl rfl rfl rfl g390) ?_
          refine F_val rfl rfl rfl (O_sub rfl rfl rfl) ?_
          refine F_val rfl rfl rfl (O_and rfl rfl rfl) ?_
          obtain ⟨x391, h392, H⟩ := of_bnd H
          refine F_val rfl rfl rfl (O_assign' rfl rfl (congrArg (Value.int .u64) h392)) ?_
          refine F_nil ?_
          refine L_seq ?_
          refine L_tail 19 mix (by kernel_rfl) (fun w393 hw394 => ?_)
          have HS395 := HS387.keep hw394
          refine S_val rfl rfl rfl (O_move rfl rfl) ?_
          refine S_val rfl rfl rfl (O_nilCheck rfl rfl) ?_
          refine S_val rfl rfl rfl (O_fieldB rfl rfl field99_0) ?_
          refine S_val rfl rfl rfl (O_loadB rfl rfl flat35 (HS395.cells_box (i := 0) rfl) rfl) ?_
          refine S_val rfl rfl rfl (O_move rfl rfl) ?_
          refine S_val rfl rfl rfl (O_nilCheck rfl rfl) ?_
          refine S_val rfl rfl rfl (O_fieldB rfl rfl field99_0) ?_
          refine S_val rfl rfl rfl (O_loadB rfl rfl flat35 (HS395.cells_box (i := 0) rfl) rfl) ?_
          refine S_val rfl rfl rfl (O_len rfl rfl Try.underlying35) ?_
          refine S_val rfl rfl rfl (O_sub rfl rfl rfl) ?_
          obtain ⟨⟨g396, g397⟩, H⟩ := of_gd H
          refine S_val rfl rfl rfl (O_idx rfl rfl rfl Try.underlying35 size5 g396 g397 (Cells.isA (HS395.cells_own (i := 1) rfl) (rowC_ne (E := (Eint .u8)) g396 g397 (by decide)))) ?_
          refine S_val rfl rfl rfl (O_loadC rfl rfl flat5 (HS395.cells_own (i := 1) rfl) (int_cell g396 g397)) ?_
          refine S_val rfl rfl rfl (O_move rfl rfl) ?_
          refine S_val rfl rfl rfl (O_move rfl rfl) ?_
          refine S_val rfl rfl rfl (O_conv rfl rfl ⟨_, Try.underlying3⟩ Try.underlying75) ?_
          obtain ⟨g398, H⟩ := of_gd H
          refine S_val rfl rfl rfl (O_shl rfl rfl rfl g398) ?_
          refine S_val rfl rfl rfl (O_conv rfl rfl ⟨_, Try.underlying87⟩ Try.underlying5) ?_
          refine S_val rfl rfl rfl (O_or rfl rfl rfl) ?_
          refine S_val rfl rfl rfl (O_idx rfl rfl rfl Try.underlying35 size5 g396 g397 (Cells.isA (HS395.cells_own (i := 1) rfl) (rowC_ne (E := (Eint .u8)) g396 g397 (by decide)))) ?_
          refine S_nil ?_
          obtain ⟨l401, h402, H⟩ := of_bnd H
          refine F_setE (E := (Eint .u8)) (i := 1) (a := bor .u8 (rd l370 (IntKind.i64.wrap ((l370.length : Int) - 1))) (IntKind.u8.wrap (shl .u64 x391 (IntKind.u64.wrap x350)))) (q := IntKind.i64.wrap ((l370.length : Int) - 1)) rfl rfl rfl rfl rfl rfl size5 HS395 rfl (by decide) g396 g397 h402 (fun w399 HS400 => ?_)
          have e403 : l370.length = l401.length := by rw [← h402, List.length_set]
          have HS400 : Hp S0 w0 w399 [.box g_w_0 [.slice A368 l401.length c369, .int .i64 y343] 99, .own A368 c369 (rowC (Eint .u8) l401) 5 (Eint .u8).sz] := (by rw [← e403]; exact HS400)
          refine F_nil ?_
          refine L_seq ?_
          refine L_region ?_
          refine F_val rfl rfl rfl (O_move rfl rfl) ?_
          refine F_val rfl rfl rfl (O_move rfl rfl) ?_
          refine F_val rfl rfl rfl (O_conv rfl rfl ⟨_, Try.underlying3⟩ Try.underlying75) ?_
          refine F_val rfl rfl rfl (O_shr rfl rfl rfl g390) ?_
          obtain ⟨x404, h405, H⟩ := of_bnd H
          refine F_val rfl rfl rfl (O_assign' rfl rfl (congrArg (Value.int .u64) h405)) ?_
          refine F_nil ?_
          refine L_seq ?_
          refine L_region ?_
          refine F_val rfl rfl rfl (O_move rfl rfl) ?_
          refine F_val rfl rfl rfl (O_move rfl rfl) ?_
          refine F_val rfl rfl rfl (O_sub rfl rfl rfl) ?_
          obtain ⟨x406, h407, H⟩ := of_bnd H
          refine F_val rfl rfl rfl (O_assign' rfl rfl (congrArg (Value.int .i64) h407)) ?_
          refine F_nil ?_
          refine L_region ?_
          refine F_val rfl rfl rfl (O_move rfl rfl) ?_
          refine F_val rfl rfl rfl (O_nilCheck rfl rfl) ?_
          refine F_val rfl rfl rfl (O_fieldB rfl rfl field99_1) ?_
          refine F_val rfl rfl rfl (O_loadB rfl rfl flat3 (HS400.cells_box (i := 0) rfl) rfl) ?_
          refine F_val rfl rfl rfl (O_move rfl rfl) ?_
          refine F_val rfl rfl rfl (O_add rfl rfl rfl) ?_
          refine F_val rfl rfl rfl (O_nilCheck rfl rfl) ?_
          refine F_val rfl rfl rfl (O_fieldB rfl rfl field99_1) ?_
          refine F_stB 0 ([.slice A368 l401.length c369, .int .i64 (IntKind.i64.wrap (y343 + x388))]) rfl rfl rfl rfl rfl size3 HS400 rfl rfl rfl rfl rfl (fun w408 HS409 => ?_)
          have HS409 : Hp S0 w0 w408 [.box g_w_0 [.slice A368 l401.length c369, .int .i64 (IntKind.i64.wrap (y343 + x388))] 99, .own A368 c369 (rowC (Eint .u8) l401) 5 (Eint .u8).sz] := HS409
          refine F_nil ?_
          refine L_endB hN349 ?_
          refine L_nil (fun a ha => hNp339 _ a _ (Nat.lt_succ_self _) ⟨_, _, _, _, _, _, Is.cons ha (Is.cons ha (Is.cons ha (Is.nil ha) rfl) rfl) rfl, HS409.sel [0, 1] rfl, H⟩)
      · have H := of_neg H c348
        refine L_exitB (fun a w h => hOp339 (.exit 0) a w rfl (hXb208 a w h)) ?_
        refine L_nil (fun a ha => hNj1 a _ ⟨_, _, _, _, (Option.some.inj H).symm, Is.nil ha, HS347.sel [0, 1] rfl⟩)
  · obtain ⟨l206, y207, A204, c205, rfl, ha, HS411⟩ := hR
    refine wpLF_app ?_ ha
    refine L_nil (fun a ha => (post_end0 ha rfl ?_))
    obtain rfl := Option.some.inj H
    exact ⟨_, _, rfl, HS411.sel [0, 1] rfl⟩

/-! function 19: (*valise/bits.Writer).Put -/
theorem bits_Writer_Put.calls {S0 : Nat → Prop} {w0 : World} {g_w_0 : Nat} {A_w_0_bytes : Option Addr} {c_w_0_bytes : Nat} {w_0_bytes : List Int} {w_0_count : Int} {v_1 : Int} {n_2 : Int} {r : Int × List Int × Int} (HS0 : Hp S0 w0 w0 [.box g_w_0 [.slice A_w_0_bytes w_0_bytes.length c_w_0_bytes, .int .i64 w_0_count] 99, .own A_w_0_bytes c_w_0_bytes (rowC (Eint .u8) w_0_bytes) 5 (Eint .u8).sz]) (h : bits_Writer_Put.f w_0_bytes w_0_count v_1 n_2 = some r) :
    Calls Try.prog 19 ([.pointer (some ⟨g_w_0, 0, none⟩), .int .u32 v_1, .int .i64 n_2] : List Value).toArray w0 (fun e w => ∃ (A_w_0_bytes' : Option Addr), ∃ (c_w_0_bytes' : Nat), e = .returned (.int .i64 r.1) ∧ Hp S0 w0 w [.box g_w_0 [.slice A_w_0_bytes' r.2.1.length c_w_0_bytes', .int .i64 r.2.2] 99, .own A_w_0_bytes' c_w_0_bytes' (rowC (Eint .u8) r.2.1) 5 (Eint .u8).sz]) := by
  have H : (((if (n_2 < 0) ∨ (32 < n_2) then (some true) else (gd (¬ (IntKind.u64.wrap n_2) < 0) (some (decide (shr .u64 (IntKind.u64.wrap v_1) (IntKind.u64.wrap n_2) ≠ 0))))).bind fun b3 => if (b3 = true) ∨ (268435456 < IntKind.i64.wrap (w_0_count + n_2)) then (some (1, w_0_bytes, w_0_count)) else ((bits_Writer_lay.f w_0_bytes w_0_count (IntKind.u64.wrap v_1) n_2).bind fun (z12, z13) => some (0, z12, z13))) : Option (Int × List Int × Int)) = some r := h
  refine calls_start Try.func19 rfl rfl ?_
  refine L_seq ?_
  refine L_region ?_
  refine F_val rfl rfl rfl (O_assign rfl rfl) ?_
  refine F_nil ?_
  refine L_seq ?_
  refine L_seq ?_
  refine L_region ?_
  refine F_val rfl rfl rfl (O_move rfl rfl) ?_
  refine F_val rfl rfl rfl (O_peq rfl rfl rfl Try.underlying31) ?_
  refine F_val rfl rfl rfl (O_move rfl rfl) ?_
  refine F_gval rfl rfl rfl rfl rfl rfl (O_move rfl rfl) ?_
  refine F_gval rfl rfl rfl rfl rfl rfl (O_lt rfl rfl rfl) ?_
  refine F_val rfl rfl rfl (O_pickF rfl rfl rfl) ?_
  refine F_val rfl rfl rfl (O_move rfl rfl) ?_
  refine F_grp 3 [(16, .bool (decide ((n_2 < 0) ∨ (32 < n_2)))), (0, .pointer (some ⟨g_w_0, 0, none⟩)), (1, .int .u32 v_1), (2, .int .i64 n_2)] ?_ ?_
  · rcases Decidable.em (n_2 < 0) with c1 | c1
    · refine F_know (i := 13) rfl (dec_t c1) ?_
      refine F_gskip rfl rfl rfl rfl rfl rfl rfl ?_
      refine F_gskip rfl rfl rfl rfl rfl rfl rfl ?_
      refine F_val rfl rfl rfl (O_pickT rfl rfl rfl) ?_
      refine F_know (i := 16) rfl (dec_or_t (q := 32 < n_2) c1) ?_
      exact F_grpE (fun a ha => Is.cons ha (Is.cons ha (Is.cons ha (Is.cons ha (Is.nil ha) rfl) rfl) rfl) rfl)
    · refine F_know (i := 13) rfl (dec_f c1) ?_
      refine F_gval rfl rfl rfl rfl rfl rfl (O_move rfl rfl) ?_
      refine F_gval rfl rfl rfl rfl rfl rfl (O_gt rfl rfl rfl) ?_
      refine F_val rfl rfl rfl (O_pickF rfl rfl rfl) ?_
      refine F_know (i := 16) rfl (dec_or_f (q := 32 < n_2) c1) ?_
      exact F_grpE (fun a ha => Is.cons ha (Is.cons ha (Is.cons ha (Is.cons ha (Is.nil ha) rfl) rfl) rfl) rfl)
  · skip
    refine F_val rfl rfl rfl (O_move rfl rfl) ?_
    obtain ⟨b3, Hb3, H⟩ := of_bind H
    refine F_grp 7 [(24, .bool b3), (0, .pointer (some ⟨g_w_0, 0, none⟩)), (1, .int .u32 v_1), (2, .int .i64 n_2)] ?_ ?_
    · rcases Decidable.em ((n_2 < 0) ∨ (32 < n_2)) with c4 | c4
      · refine F_know (i := 17) rfl (dec_t c4) ?_
        have H := of_pos Hb3 c4
        refine F_gskip rfl rfl rfl rfl rfl rfl rfl ?_
        refine F_gskip rfl rfl rfl rfl rfl rfl rfl ?_
        refine F_gskip rfl rfl rfl rfl rfl rfl rfl ?_
        refine F_gskip rfl rfl rfl rfl rfl rfl rfl ?_
        refine F_gskip rfl rfl rfl rfl rfl rfl rfl ?_
        refine F_gskip rfl rfl rfl rfl rfl rfl rfl ?_
        refine F_val rfl rfl rfl (O_pickT rfl rfl rfl) ?_
        refine F_know (i := 24) rfl (congrArg Value.bool (Option.some.inj H)) ?_
        exact F_grpE (fun a ha => Is.cons ha (Is.cons ha (Is.cons ha (Is.cons ha (Is.nil ha) rfl) rfl) rfl) rfl)
      · refine F_know (i := 17) rfl (dec_f c4) ?_
        have H := of_neg Hb3 c4
        refine F_gval rfl rfl rfl rfl rfl rfl (O_move rfl rfl) ?_
        refine F_gval rfl rfl rfl rfl rfl rfl (O_conv rfl rfl ⟨_, Try.underlying22⟩ Try.underlying87) ?_
        refine F_gval rfl rfl rfl rfl rfl rfl (O_move rfl rfl) ?_
        refine F_gval rfl rfl rfl rfl rfl rfl (O_conv rfl rfl ⟨_, Try.underlying3⟩ Try.underlying75) ?_
        obtain ⟨g5, H⟩ := of_gd H
        refine F_gval rfl rfl rfl rfl rfl rfl (O_shr rfl rfl rfl g5) ?_
        refine F_gval rfl rfl rfl rfl rfl rfl (O_ne rfl rfl rfl) ?_
        refine F_val rfl rfl rfl (O_pickF rfl rfl rfl) ?_
        refine F_know (i := 24) rfl (congrArg Value.bool (Option.some.inj H)) ?_
        exact F_grpE (fun a ha => Is.cons ha (Is.cons ha (Is.cons ha (Is.cons ha (Is.nil ha) rfl) rfl) rfl) rfl)
    · skip
      refine F_val rfl rfl rfl (O_move rfl rfl) ?_
      refine F_grp 8 [(33, .bool (decide ((b3 = true) ∨ (268435456 < IntKind.i64.wrap (w_0_count + n_2))))), (0, .pointer (some ⟨g_w_0, 0, none⟩)), (1, .int .u32 v_1), (2, .int .i64 n_2)] ?_ ?_
      · rcases Decidable.em (b3 = true) with c6 | c6
        · refine F_know (i := 25) rfl (congrArg Value.bool c6) ?_
          refine F_gskip rfl rfl rfl rfl rfl rfl rfl ?_
          refine F_gskip rfl rfl rfl rfl rfl rfl rfl ?_
          refine F_gskip rfl rfl rfl rfl rfl rfl rfl ?_
          refine F_gskip rfl rfl rfl rfl rfl rfl rfl ?_
          refine F_gskip rfl rfl rfl rfl rfl rfl rfl ?_
          refine F_gskip rfl rfl rfl rfl rfl rfl rfl ?_
          refine F_gskip rfl rfl rfl rfl rfl rfl rfl ?_
          refine F_val rfl rfl rfl (O_pickT rfl rfl rfl) ?_
          refine F_know (i := 33) rfl (dec_or_t (q := 268435456 < IntKind.i64.wrap (w_0_count + n_2)) c6) ?_
          exact F_grpE (fun a ha => Is.cons ha (Is.cons ha (Is.cons ha (Is.cons ha (Is.nil ha) rfl) rfl) rfl) rfl)
        · refine F_know (i := 25) rfl (congrArg Value.bool (Bool.eq_false_iff.mpr c6)) ?_
          refine F_gval rfl rfl rfl rfl rfl rfl (O_move rfl rfl) ?_
          refine F_gval rfl rfl rfl rfl rfl rfl (O_nilCheck rfl rfl) ?_
          refine F_gval rfl rfl rfl rfl rfl rfl (O_fieldB rfl rfl field99_1) ?_
          refine F_gval rfl rfl rfl rfl rfl rfl (O_loadB rfl rfl flat3 (HS0.cells_box (i := 0) rfl) rfl) ?_
          refine F_gval rfl rfl rfl rfl rfl rfl (O_move rfl rfl) ?_
          refine F_gval rfl rfl rfl rfl rfl rfl (O_add rfl rfl rfl) ?_
          refine F_gval rfl rfl rfl rfl rfl rfl (O_gt rfl rfl rfl) ?_
          refine F_val rfl rfl rfl (O_pickF rfl rfl rfl) ?_
          refine F_know (i := 33) rfl (dec_or_f (q := 268435456 < IntKind.i64.wrap (w_0_count + n_2)) c6) ?_
          exact F_grpE (fun a ha => Is.cons ha (Is.cons ha (Is.cons ha (Is.cons ha (Is.nil ha) rfl) rfl) rfl) rfl)
      · skip
        refine F_nil ?_
        refine L_condP rfl (fun c7 => ?_) (fun c7 => ?_)
        · have H := of_pos H c7
          refine L_seq ?_
          refine L_region ?_
          refine F_val rfl rfl rfl (O_assign rfl rfl) ?_
          refine F_nil ?_
          refine L_ret (fun a ha => (post_ret1 ha rfl rfl ?_))
          obtain rfl := Option.some.inj H
          exact ⟨_, _, rfl, HS0.sel [0, 1] rfl⟩
        · have H := of_neg H c7
          refine L_skip ?_
          refine L_seq ?_
          refine L_region ?_
          refine F_val rfl rfl rfl (O_move rfl rfl) ?_
          refine F_val rfl rfl rfl (O_move rfl rfl) ?_
          refine F_val rfl rfl rfl (O_conv rfl rfl ⟨_, Try.underlying22⟩ Try.underlying87) ?_
          refine F_val rfl rfl rfl (O_move rfl rfl) ?_
          obtain ⟨⟨z12, z13⟩, h11, H⟩ := of_bind H
          refine F_call (xs := [.tmp 34, .tmp 36, .tmp 37]) rfl rfl rfl rfl Try.func56 nm56 rfl rfl ((bits_Writer_lay.calls (HS0.give [0, 1] rfl (Lent.nil)) h11).mono (fun e w hc => ?_))
          obtain ⟨A16, c17, rfl, HSo⟩ := hc
          refine ⟨.tuple #[], rfl, ?_⟩
          have HS15 : Hp S0 w0 w [.box g_w_0 [.slice A16 z12.length c17, .int .i64 z13] 99, .own A16 c17 (rowC (Eint .u8) z12) 5 (Eint .u8).sz] := (HS0.back [0, 1] HSo rfl).sel [2, 3] rfl
          refine F_nil ?_
          refine L_seq ?_
          refine L_region ?_
          refine F_val rfl rfl rfl (O_assign rfl rfl) ?_
          refine F_nil ?_
          refine L_ret (fun a ha => (post_ret1 ha rfl rfl ?_))
          obtain rfl := Option.some.inj H
          exact ⟨_, _, rfl, HS15.sel [0, 1] rfl⟩

/-! function 21: (*valise/bits.Writer).Bytes -/
theorem bits_Writer_Bytes.calls {S0 : Nat → Prop} {w0 : World} {g_w_0 : Nat} {A_w_0_bytes : Option Addr} {c_w_0_bytes : Nat} {w_0_bytes : List Int} {w_0_count : Int} {r : List Int} (HS0 : Hp S0 w0 w0 [.rd (some ⟨g_w_0, 0, none⟩) [.slice A_w_0_bytes w_0_bytes.length c_w_0_bytes, .int .i64 w_0_count], .rd A_w_0_bytes (rowC (Eint .u8) w_0_bytes)]) (h : bits_Writer_Bytes.f w_0_bytes w_0_count = some r) :
    Calls Try.prog 21 ([.pointer (some ⟨g_w_0, 0, none⟩)] : List Value).toArray w0 (fun e w => ∃ (A1 : Option Addr), ∃ (c1 : Nat), e = .returned (.slice A1 r.length c1) ∧ Hp S0 w0 w [.own A1 c1 (rowC (Eint .u8) r) 5 (Eint .u8).sz]) := by
  have H : ((if (w_0_bytes.length : Int) = 0 then (some ([] : List Int)) else (gd ((0 : Int) ≤ (w_0_bytes.length : Int) ∧ (w_0_bytes.length : Int) * 1 ≤ 281474976710656) (bnd (List.replicate ((w_0_bytes.length : Int) : Int).toNat (0 : Int)) fun l8 => bnd (cpy l8 w_0_bytes) fun l15 => some l15))) : Option (List Int)) = some r := h
  refine calls_start Try.func21 rfl rfl ?_
  refine L_seq ?_
  refine L_region ?_
  refine F_val rfl rfl rfl (O_assign rfl rfl) ?_
  refine F_nil ?_
  refine L_seq ?_
  refine L_seq ?_
  refine L_region ?_
  refine F_val rfl rfl rfl (O_move rfl rfl) ?_
  refine F_val rfl rfl rfl (O_peq rfl rfl rfl Try.underlying31) ?_
  refine F_val rfl rfl rfl (O_move rfl rfl) ?_
  refine F_gval rfl rfl rfl rfl rfl rfl (O_move rfl rfl) ?_
  refine F_gval rfl rfl rfl rfl rfl rfl (O_nilCheck rfl rfl) ?_
  refine F_gval rfl rfl rfl rfl rfl rfl (O_fieldB rfl rfl field99_0) ?_
  refine F_gval rfl rfl rfl rfl rfl rfl (O_loadB rfl rfl flat35 (HS0.cells_rd (i := 0) rfl) rfl) ?_
  refine F_gval rfl rfl rfl rfl rfl rfl (O_len rfl rfl Try.underlying35) ?_
  refine F_gval rfl rfl rfl rfl rfl rfl (O_eq rfl rfl rfl) ?_
  refine F_val rfl rfl rfl (O_pickF rfl rfl rfl) ?_
  refine F_nil ?_
  refine L_condP rfl (fun c1 => ?_) (fun c1 => ?_)
  · have H := of_pos H c1
    refine L_seq ?_
    refine L_region ?_
    refine F_val rfl rfl rfl (O_assign rfl rfl) ?_
    refine F_nil ?_
    have HS2 := HS0.addNil 5 (Eint .u8).sz
    refine L_ret (fun a ha => (post_ret1 ha rfl rfl ?_))
    obtain rfl := Option.some.inj H
    exact ⟨_, _, rfl, HS2.sel [2] rfl⟩
  · have H := of_neg H c1
    refine L_skip ?_
    refine L_seq ?_
    refine L_region ?_
    refine F_val rfl rfl rfl (O_move rfl rfl) ?_
    refine F_val rfl rfl rfl (O_nilCheck rfl rfl) ?_
    refine F_val rfl rfl rfl (O_fieldB rfl rfl field99_0) ?_
    refine F_val rfl rfl rfl (O_loadB rfl rfl flat35 (HS0.cells_rd (i := 0) rfl) rfl) ?_
    refine F_val rfl rfl rfl (O_len rfl rfl Try.underlying35) ?_
    obtain ⟨⟨g6, g7⟩, H⟩ := of_gd H
    obtain ⟨l8, h9, H⟩ := of_bnd H
    refine F_makeE (E := (Eint .u8)) rfl rfl rfl rfl rfl rfl Try.underlying35 info5 rfl (by decide) (by decide) g6 g7 HS0 h9 (fun w4 A10 c11 HS5 => ?_)
    have HS5 : Hp S0 w0 w4 [.rd (some ⟨g_w_0, 0, none⟩) [.slice A_w_0_bytes w_0_bytes.length c_w_0_bytes, .int .i64 w_0_count], .rd A_w_0_bytes (rowC (Eint .u8) w_0_bytes), .own A10 c11 (rowC (Eint .u8) l8) 5 (Eint .u8).sz] := HS5
    refine F_val rfl rfl rfl (O_assign rfl rfl) ?_
    refine F_nil ?_
    refine L_seq ?_
    refine L_region ?_
    refine F_val rfl rfl rfl (O_move rfl rfl) ?_
    refine F_val rfl rfl rfl (O_move rfl rfl) ?_
    refine F_val rfl rfl rfl (O_nilCheck rfl rfl) ?_
    refine F_val rfl rfl rfl (O_fieldB rfl rfl field99_0) ?_
    refine F_val rfl rfl rfl (O_loadB rfl rfl flat35 (HS5.cells_rd (i := 0) rfl) rfl) ?_
    obtain ⟨l15, h16, H⟩ := of_bnd H
    refine F_copyE (E := (Eint .u8)) (xs := l8) (ys := w_0_bytes) (i := 2) rfl rfl rfl rfl Try.underlying35 size5 rfl rfl HS5 rfl (HS5.cells_rd (i := 1) rfl) h16 (fun w13 HS14 => ?_)
    have e17 : l8.length = l15.length := by rw [← h16, cpy_length]
    refine F_know (i := 3) rfl (congrArg (fun n => Value.slice A10 n c11) e17) ?_
    have HS14 : Hp S0 w0 w13 [.rd (some ⟨g_w_0, 0, none⟩) [.slice A_w_0_bytes w_0_bytes.length c_w_0_bytes, .int .i64 w_0_count], .rd A_w_0_bytes (rowC (Eint .u8) w_0_bytes), .own A10 c11 (rowC (Eint .u8) l15) 5 (Eint .u8).sz] := HS14
    refine F_nil ?_
    refine L_seq ?_
    refine L_region ?_
    refine F_val rfl rfl rfl (O_move rfl rfl) ?_
    refine F_val rfl rfl rfl (O_assign rfl rfl) ?_
    refine F_nil ?_
    refine L_ret (fun a ha => (post_ret1 ha rfl rfl ?_))
    obtain rfl := Option.some.inj H
    exact ⟨_, _, rfl, HS14.sel [2] rfl⟩

/-! function 25: valise/bits.NewReader -/
theorem bits_NewReader.calls {S0 : Nat → Prop} {w0 : World} {A_data_0 : Option Addr} {c_data_0 : Nat} {l_data_0 : List Int} {r : Option (List Int × Int)} (HS0 : Hp S0 w0 w0 [.rd A_data_0 (rowC (Eint .u8) l_data_0)]) (hc_data_0 : l_data_0.length ≤ c_data_0) (h : bits_NewReader.f l_data_0 = some r) :
    Calls Try.prog 25 ([.slice A_data_0 l_data_0.length c_data_0] : List Value).toArray w0 (fun e w => match r with | none => e = .returned (.pointer none) ∧ Hp S0 w0 w [] | some x => ∃ (g0 : Nat), ∃ (A0_0 : Option Addr), ∃ (c0_0 : Nat), e = .returned (.pointer (some ⟨g0, 0, none⟩)) ∧ Hp S0 w0 w [.box g0 [.slice A0_0 x.1.length c0_0, .int .i64 x.2] 102, .own A0_0 c0_0 (rowC (Eint .u8) x.1) 5 (Eint .u8).sz]) := by
  have H : ((if 33554432 < (l_data_0.length : Int) then (some none) else (gd ((0 : Int) ≤ (l_data_0.length : Int) ∧ (l_data_0.length : Int) * 1 ≤ 281474976710656) (bnd (List.replicate ((l_data_0.length : Int) : Int).toNat (0 : Int)) fun l6 => bnd (cpy l6 l_data_0) fun l13 => some (some (l13, 0))))) : Option (Option (List Int × Int))) = some r := h
  refine calls_start Try.func25 rfl rfl ?_
  refine L_seq ?_
  refine L_region ?_
  refine F_val rfl rfl rfl (O_assign rfl rfl) ?_
  refine F_nil ?_
  refine L_seq ?_
  refine L_seq ?_
  refine L_region ?_
  refine F_val rfl rfl rfl (O_move rfl rfl) ?_
  refine F_val rfl rfl rfl (O_len rfl rfl Try.underlying35) ?_
  refine F_val rfl rfl rfl (O_gt rfl rfl rfl) ?_
  refine F_nil ?_
  refine L_condP rfl (fun c1 => ?_) (fun c1 => ?_)
  · have H := of_pos H c1
    refine L_seq ?_
    refine L_region ?_
    refine F_val rfl rfl rfl (O_assign rfl rfl) ?_
    refine F_nil ?_
    refine L_ret (fun a ha => (post_ret1 ha rfl rfl ?_))
    obtain rfl := Option.some.inj H
    exact ⟨rfl, HS0.sel [] rfl⟩
  · have H := of_neg H c1
    refine L_skip ?_
    refine L_seq ?_
    refine L_region ?_
    refine F_val rfl rfl rfl (O_move rfl rfl) ?_
    refine F_val rfl rfl rfl (O_len rfl rfl Try.underlying35) ?_
    obtain ⟨⟨g4, g5⟩, H⟩ := of_gd H
    obtain ⟨l6, h7, H⟩ := of_bnd H
    refine F_makeE (E := (Eint .u8)) rfl rfl rfl rfl rfl rfl Try.underlying35 info5 rfl (by decide) (by decide) g4 g5 HS0 h7 (fun w2 A8 c9 HS3 => ?_)
    have HS3 : Hp S0 w0 w2 [.rd A_data_0 (rowC (Eint .u8) l_data_0), .own A8 c9 (rowC (Eint .u8) l6) 5 (Eint .u8).sz] := HS3
    refine F_val rfl rfl rfl (O_assign rfl rfl) ?_
    refine F_nil ?_
    refine L_seq ?_
    refine L_region ?_
    refine F_val rfl rfl rfl (O_move rfl rfl) ?_
    refine F_val rfl rfl rfl (O_move rfl rfl) ?_
    obtain ⟨l13, h14, H⟩ := of_bnd H
    refine F_copyE (E := (Eint .u8)) (xs := l6) (ys := l_data_0) (i := 1) rfl rfl rfl rfl Try.underlying35 size5 rfl rfl HS3 rfl (HS3.cells_rd (i := 0) rfl) h14 (fun w11 HS12 => ?_)
    have e15 : l6.length = l13.length := by rw [← h14, cpy_length]
    refine F_know (i := 3) rfl (congrArg (fun n => Value.slice A8 n c9) e15) ?_
    have HS12 : Hp S0 w0 w11 [.rd A_data_0 (rowC (Eint .u8) l_data_0), .own A8 c9 (rowC (Eint .u8) l13) 5 (Eint .u8).sz] := HS12
    refine F_nil ?_
    refine L_seq ?_
    refine L_region ?_
    refine F_val rfl rfl rfl (O_move rfl rfl) ?_
    refine F_val rfl rfl rfl (O_build (vs := [(0, .slice A8 l13.length c9)]) (v := .agg #[.slice A8 l13.length c9, .int .i64 0]) rfl rfl rfl (fun w => by kernel_rfl)) ?_
    refine F_box (C := [.slice A8 l13.length c9, .int .i64 0]) rfl rfl rfl rfl rfl rfl HS12 (fun w16 g18 HS17 => ?_)
    have HS17 : Hp S0 w0 w16 [.rd A_data_0 (rowC (Eint .u8) l_data_0), .own A8 c9 (rowC (Eint .u8) l13) 5 (Eint .u8).sz, .box g18 [.slice A8 l13.length c9, .int .i64 0] 102] := HS17
    refine F_val rfl rfl rfl (O_assign rfl rfl) ?_
    refine F_nil ?_
    refine L_ret (fun a ha => (post_ret1 ha rfl rfl ?_))
    obtain rfl := Option.some.inj H
    exact ⟨_, _, _, rfl, HS17.sel [2, 1] rfl⟩

/-! function 30: (*valise/bits.Reader).Left -/
theorem bits_Reader_Left.calls {S0 : Nat → Prop} {w0 : World} {g_r_0 : Nat} {A_r_0_data : Option Addr} {c_r_0_data : Nat} {r_0_data : List Int} {r_0_at : Int} {r : Int} (HS0 : Hp S0 w0 w0 [.rd (some ⟨g_r_0, 0, none⟩) [.slice A_r_0_data r_0_data.length c_r_0_data, .int .i64 r_0_at], .rd A_r_0_data (rowC (Eint .u8) r_0_data)]) (h : bits_Reader_Left.f r_0_data r_0_at = some r) :
    Calls Try.prog 30 ([.pointer (some ⟨g_r_0, 0, none⟩)] : List Value).toArray w0 (fun e w => e = .returned (.int .i64 r) ∧ Hp S0 w0 w []) := by
  have H : ((some (IntKind.i64.wrap ((IntKind.i64.wrap (8 * (r_0_data.length : Int))) - r_0_at))) : Option (Int)) = some r := h
  refine calls_start Try.func30 rfl rfl ?_
  refine L_seq ?_
  refine L_region ?_
  refine F_val rfl rfl rfl (O_assign rfl rfl) ?_
  refine F_nil ?_
  refine L_seq ?_
  refine L_seq ?_
  refine L_region ?_
  refine F_val rfl rfl rfl (O_move rfl rfl) ?_
  refine F_val rfl rfl rfl (O_peq rfl rfl rfl Try.underlying42) ?_
  refine F_nil ?_
  refine L_cond rfl (fun hx => by cases hx) (fun _ => ?_)
  refine L_skip ?_
  refine L_seq ?_
  refine L_quiet mix (by kernel_rfl) ?_
  refine Q_val rfl rfl rfl (fun wq hq => O_move rfl rfl) ?_
  refine Q_val rfl rfl rfl (fun wq hq => O_nilCheck rfl rfl) ?_
  refine Q_val rfl rfl rfl (fun wq hq => O_fieldB rfl rfl field102_0) ?_
  refine Q_val rfl rfl rfl (fun wq hq => O_loadB rfl rfl flat35 ((HS0.keep hq).cells_rd (i := 0) rfl) rfl) ?_
  refine Q_val rfl rfl rfl (fun wq hq => O_len rfl rfl Try.underlying35) ?_
  refine Q_val rfl rfl rfl (fun wq hq => O_mul rfl rfl rfl) ?_
  refine Q_val rfl rfl rfl (fun wq hq => O_move rfl rfl) ?_
  refine Q_val rfl rfl rfl (fun wq hq => O_nilCheck rfl rfl) ?_
  refine Q_val rfl rfl rfl (fun wq hq => O_fieldB rfl rfl field102_1) ?_
  refine Q_val rfl rfl rfl (fun wq hq => O_loadB rfl rfl flat3 ((HS0.keep hq).cells_rd (i := 0) rfl) rfl) ?_
  refine Q_val rfl rfl rfl (fun wq hq => O_sub rfl rfl rfl) ?_
  refine Q_val rfl rfl rfl (fun wq hq => O_assign rfl rfl) ?_
  refine Q_nil (fun w1 hw2 => ?_)
  have HS3 := HS0.keep hw2
  refine L_ret (fun a ha => (post_ret1 ha rfl rfl ?_))
  obtain rfl := Option.some.inj H
  exact ⟨rfl, HS3.sel [] rfl⟩

/-! function 57: (*valise/bits.Reader).ahead -/
theorem bits_Reader_ahead.calls {S0 : Nat → Prop} {w0 : World} {g_r_0 : Nat} {A_r_0_data : Option Addr} {c_r_0_data : Nat} {r_0_data : List Int} {r_0_at : Int} {n_1 : Int} {r : Int} (HS0 : Hp S0 w0 w0 [.rd (some ⟨g_r_0, 0, none⟩) [.slice A_r_0_data r_0_data.length c_r_0_data, .int .i64 r_0_at], .rd A_r_0_data (rowC (Eint .u8) r_0_data)]) (h : bits_Reader_ahead.f r_0_data r_0_at n_1 = some r) :
    Calls Try.prog 57 ([.pointer (some ⟨g_r_0, 0, none⟩), .int .i64 n_1] : List Value).toArray w0 (fun e w => e = .returned (.int .u32 r) ∧ Hp S0 w0 w []) := by
  have H : (((bits_Reader_ahead.l1 FU 0 0 r_0_at r_0_data n_1).bind fun v_72 => some (IntKind.u32.wrap v_72)) : Option (Int)) = some r := h
  refine calls_start Try.func57 rfl rfl ?_
  refine L_seq ?_
  refine L_region ?_
  refine F_val rfl rfl rfl (O_assign rfl rfl) ?_
  refine F_nil ?_
  refine L_seq ?_
  refine L_region ?_
  refine F_val rfl rfl rfl (O_assign rfl rfl) ?_
  refine F_nil ?_
  refine L_seq ?_
  refine L_region ?_
  refine F_val rfl rfl rfl (O_assign rfl rfl) ?_
  refine F_nil ?_
  refine L_seq ?_
  refine L_seq ?_
  refine L_region ?_
  refine F_val rfl rfl rfl (O_move rfl rfl) ?_
  refine F_val rfl rfl rfl (O_nilCheck rfl rfl) ?_
  refine F_val rfl rfl rfl (O_fieldB rfl rfl field102_1) ?_
  refine F_val rfl rfl rfl (O_loadB rfl rfl flat3 (HS0.cells_rd (i := 0) rfl) rfl) ?_
  refine F_val rfl rfl rfl (O_assign rfl rfl) ?_
  refine F_nil ?_
  obtain ⟨yj1, Hyj1, H⟩ := of_bind H
  refine L_join (fun a w => ∃ (v_72 : Int), yj1 = v_72 ∧ Is Try.f57.ntmps a [(5, .int .u64 v_72)] ∧ Hp S0 w0 w [.rd (some ⟨g_r_0, 0, none⟩) [.slice A_r_0_data r_0_data.length c_r_0_data, .int .i64 r_0_at], .rd A_r_0_data (rowC (Eint .u8) r_0_data)]) (fun Qj1 hNj1 hOj1 => ?_) (fun a w hR => ?_)
  · skip
    have H := Hyj1
    refine L_blk (fun Qb73 hNb73 hXb73 hOb73 => ?_)
    refine L_lp (fun k a w => ∃ (v_118 : Int), ∃ (got_119 : Int), ∃ (at_120 : Int), Is Try.f57.ntmps a [(0, .pointer (some ⟨g_r_0, 0, none⟩)), (1, .int .i64 n_1), (5, .int .u64 v_118), (6, .int .i64 got_119), (7, .int .i64 at_120)] ∧ Hp S0 w0 w [.rd (some ⟨g_r_0, 0, none⟩) [.slice A_r_0_data r_0_data.length c_r_0_data, .int .i64 r_0_at], .rd A_r_0_data (rowC (Eint .u8) r_0_data)] ∧ bits_Reader_ahead.l1 k v_118 got_119 at_120 r_0_data n_1 = some yj1) FU (fun a ha => ⟨_, _, _, Is.cons ha (Is.cons ha (Is.cons ha (Is.cons ha (Is.cons ha (Is.nil ha) rfl) rfl) rfl) rfl) rfl, HS0.sel [0, 1] rfl, H⟩) (fun kp117 a w121 hI Qp117 hNp117 hOp117 => ?_)
    obtain ⟨v_118, got_119, at_120, ha, HS122, HAp117⟩ := hI
    cases kp117 with
    | zero => cases (show (none : Option _) = some _ from HAp117)
    | succ kp117 =>
      have H := (bits_Reader_ahead.l1.eq_2 ..).symm.trans HAp117
      refine wpLF_app ?_ ha
      refine L_seq ?_
      refine L_seq ?_
      refine L_region ?_
      refine F_val rfl rfl rfl (O_move rfl rfl) ?_
      refine F_val rfl rfl rfl (O_move rfl rfl) ?_
      refine F_val rfl rfl rfl (O_lt rfl rfl rfl) ?_
      refine F_val rfl rfl rfl (O_move rfl rfl) ?_
      refine F_grp 9 [(27, .bool (decide ((got_119 < n_1) ∧ (at_120 < IntKind.i64.wrap (8 * (r_0_data.length : Int)))))), (0, .pointer (some ⟨g_r_0, 0, none⟩)), (1, .int .i64 n_1), (5, .int .u64 v_118), (6, .int .i64 got_119), (7, .int .i64 at_120)] ?_ ?_
      · rcases Decidable.em (got_119 < n_1) with c123 | c123
        · refine F_know (i := 18) rfl (dec_t c123) ?_
          refine F_gval rfl rfl rfl rfl rfl rfl (O_move rfl rfl) ?_
          refine F_gval rfl rfl rfl rfl rfl rfl (O_move rfl rfl) ?_
          refine F_gval rfl rfl rfl rfl rfl rfl (O_nilCheck rfl rfl) ?_
          refine F_gval rfl rfl rfl rfl rfl rfl (O_fieldB rfl rfl field102_0) ?_
          refine F_gval rfl rfl rfl rfl rfl rfl (O_loadB rfl rfl flat35 (HS122.cells_rd (i := 0) rfl) rfl) ?_
          refine F_gval rfl rfl rfl rfl rfl rfl (O_len rfl rfl Try.underlying35) ?_
          refine F_gval rfl rfl rfl rfl rfl rfl (O_mul rfl rfl rfl) ?_
          refine F_gval rfl rfl rfl rfl rfl rfl (O_lt rfl rfl rfl) ?_
          refine F_val rfl rfl rfl (O_pickT rfl rfl rfl) ?_
          refine F_know (i := 27) rfl (dec_and_t (q := at_120 < IntKind.i64.wrap (8 * (r_0_data.length : Int))) c123) ?_
          exact F_grpE (fun a ha => Is.cons ha (Is.cons ha (Is.cons ha (Is.cons ha (Is.cons ha (Is.cons ha (Is.nil ha) rfl) rfl) rfl) rfl) rfl) rfl)
        · refine F_know (i := 18) rfl (dec_f c123) ?_
          refine F_gskip rfl rfl rfl rfl rfl rfl rfl ?_
          refine F_gskip rfl rfl rfl rfl rfl rfl rfl ?_
          refine F_gskip rfl rfl rfl rfl rfl rfl rfl ?_
          refine F_gskip rfl rfl rfl rfl rfl rfl rfl ?_
          refine F_gskip rfl rfl rfl rfl rfl rfl rfl ?_
          refine F_gskip rfl rfl rfl rfl rfl rfl rfl ?_
          refine F_gskip rfl rfl rfl rfl rfl rfl rfl ?_
          refine F_gskip rfl rfl rfl rfl rfl rfl rfl ?_
          refine F_val rfl rfl rfl (O_pickF rfl rfl rfl) ?_
          refine F_know (i := 27) rfl (dec_and_f (q := at_120 < IntKind.i64.wrap (8 * (r_0_data.length : Int))) c123) ?_
          exact F_grpE (fun a ha => Is.cons ha (Is.cons ha (Is.cons ha (Is.cons ha (Is.cons ha (Is.cons ha (Is.nil ha) rfl) rfl) rfl) rfl) rfl) rfl)
      · skip
        refine F_nil ?_
        refine L_condP rfl (fun c124 => ?_) (fun c124 => ?_)
        · have H := of_pos H c124
          refine L_skip ?_
          refine L_blk (fun Q125 hN125 hX125 hO125 => ?_)
          refine L_seq ?_
          refine L_region ?_
          refine F_val rfl rfl rfl (O_move rfl rfl) ?_
          refine F_val rfl rfl rfl (O_rem rfl rfl rfl (by decide)) ?_
          obtain ⟨x126, h127, H⟩ := of_bnd H
          refine F_val rfl rfl rfl (O_assign' rfl rfl (congrArg (Value.int .i64) h127)) ?_
          refine F_nil ?_
          refine L_seq ?_
          refine L_region ?_
          refine F_val rfl rfl rfl (O_move rfl rfl) ?_
          refine F_val rfl rfl rfl (O_sub rfl rfl rfl) ?_
          refine F_val rfl rfl rfl (O_move rfl rfl) ?_
          refine F_val rfl rfl rfl (O_move rfl rfl) ?_
          refine F_val rfl rfl rfl (O_sub rfl rfl rfl) ?_
          refine F_val rfl rfl rfl (O_min rfl rfl rfl) ?_
          obtain ⟨x128, h129, H⟩ := of_bnd H
          refine F_val rfl rfl rfl (O_assign' rfl rfl (congrArg (Value.int .i64) h129)) ?_
          refine F_nil ?_
          refine L_seq ?_
          refine L_region ?_
          refine F_val rfl rfl rfl (O_move rfl rfl) ?_
          refine F_val rfl rfl rfl (O_nilCheck rfl rfl) ?_
          refine F_val rfl rfl rfl (O_fieldB rfl rfl field102_0) ?_
          refine F_val rfl rfl rfl (O_loadB rfl rfl flat35 (HS122.cells_rd (i := 0) rfl) rfl) ?_
          refine F_val rfl rfl rfl (O_move rfl rfl) ?_
          refine F_val rfl rfl rfl (O_quo rfl rfl rfl (by decide)) ?_
          obtain ⟨⟨g130, g131⟩, H⟩ := of_gd H
          refine F_val rfl rfl rfl (O_idx rfl rfl rfl Try.underlying35 size5 g130 g131 (Cells.isA (HS122.cells_rd (i := 1) rfl) (rowC_ne (E := (Eint .u8)) g130 g131 (by decide)))) ?_
          refine F_val rfl rfl rfl (O_loadC rfl rfl flat5 (HS122.cells_rd (i := 1) rfl) (int_cell g130 g131)) ?_
          refine F_val rfl rfl rfl (O_move rfl rfl) ?_
          refine F_val rfl rfl rfl (O_conv rfl rfl ⟨_, Try.underlying3⟩ Try.underlying75) ?_
          obtain ⟨g132, H⟩ := of_gd H
          refine F_val rfl rfl rfl (O_shr rfl rfl rfl g132) ?_
          refine F_val rfl rfl rfl (O_conv rfl rfl ⟨_, Try.underlying5⟩ Try.underlying87) ?_
          refine F_val rfl rfl rfl (O_move rfl rfl) ?_
          refine F_val rfl rfl rfl (O_conv rfl rfl ⟨_, Try.underlying3⟩ Try.underlying75) ?_
          obtain ⟨g133, H⟩ := of_gd H
          refine F_val rfl rfl rfl (O_shl rfl rfl rfl g133) ?_
          refine F_val rfl rfl rfl (O_sub rfl rfl rfl) ?_
          refine F_val rfl rfl rfl (O_and rfl rfl rfl) ?_
          obtain ⟨x134, h135, H⟩ := of_bnd H
          refine F_val rfl rfl rfl (O_assign' rfl rfl (congrArg (Value.int .u64) h135)) ?_
          refine F_nil ?_
          refine L_seq ?_
          refine L_region ?_
          refine F_val rfl rfl rfl (O_move rfl rfl) ?_
          refine F_val rfl rfl rfl (O_move rfl rfl) ?_
          refine F_val rfl rfl rfl (O_move rfl rfl) ?_
          refine F_val rfl rfl rfl (O_conv rfl rfl ⟨_, Try.underlying3⟩ Try.underlying75) ?_
          obtain ⟨g136, H⟩ := of_gd H
          refine F_val rfl rfl rfl (O_shl rfl rfl rfl g136) ?_
          refine F_val rfl rfl rfl (O_or rfl rfl rfl) ?_
          obtain ⟨x137, h138, H⟩ := of_bnd H
          refine F_val rfl rfl rfl (O_assign' rfl rfl (congrArg (Value.int .u64) h138)) ?_
          refine F_nil ?_
          refine L_seq ?_
          refine L_region ?_
          refine F_val rfl rfl rfl (O_move rfl rfl) ?_
          refine F_val rfl rfl rfl (O_move rfl rfl) ?_
          refine F_val rfl rfl rfl (O_add rfl rfl rfl) ?_
          obtain ⟨x139, h140, H⟩ := of_bnd H
          refine F_val rfl rfl rfl (O_assign' rfl rfl (congrArg (Value.int .i64) h140)) ?_
          refine F_nil ?_
          refine L_region ?_
          refine F_val rfl rfl rfl (O_move rfl rfl) ?_
          refine F_val rfl rfl rfl (O_move rfl rfl) ?_
          refine F_val rfl rfl rfl (O_add rfl rfl rfl) ?_
          obtain ⟨x141, h142, H⟩ := of_bnd H
          refine F_val rfl rfl rfl (O_assign' rfl rfl (congrArg (Value.int .i64) h142)) ?_
          refine F_nil ?_
          refine L_endB hN125 ?_
          refine L_nil (fun a ha => hNp117 _ a _ (Nat.lt_succ_self _) ⟨_, _, _, Is.cons ha (Is.cons ha (Is.cons ha (Is.cons ha (Is.cons ha (Is.nil ha) rfl) rfl) rfl) rfl) rfl, HS122.sel [0, 1] rfl, H⟩)
        · have H := of_neg H c124
          refine L_exitB (fun a w h => hOp117 (.exit 0) a w rfl (hXb73 a w h)) ?_
          refine L_nil (fun a ha => hNj1 a _ ⟨_, (Option.some.inj H).symm, Is.cons ha (Is.nil ha) rfl, HS122.sel [0, 1] rfl⟩)
  · obtain ⟨v_72, ej, ha, HS144⟩ := hR
    obtain rfl := ej.symm
    refine wpLF_app ?_ ha
    refine L_seq ?_
    refine L_region ?_
    refine F_val rfl rfl rfl (O_move rfl rfl) ?_
    refine F_val rfl rfl rfl (O_conv rfl rfl ⟨_, Try.underlying87⟩ Try.underlying22) ?_
    refine F_val rfl rfl rfl (O_assign rfl rfl) ?_
    refine F_nil ?_
    refine L_ret (fun a ha => (post_ret1 ha rfl rfl ?_))
    obtain rfl := Option.some.inj H
    exact ⟨rfl, HS144.sel [] rfl⟩

/-! function 31: (*valise/bits.Reader).Take -/
theorem bits_Reader_Take.calls {S0 : Nat → Prop} {w0 : World} {g_r_0 : Nat} {A_r_0_data : Option Addr} {c_r_0_data : Nat} {r_0_data : List Int} {r_0_at : Int} {n_1 : Int} {r : Int × Int × List Int × Int} (HS0 : Hp S0 w0 w0 [.box g_r_0 [.slice A_r_0_data r_0_data.length c_r_0_data, .int .i64 r_0_at] 102, .own A_r_0_data c_r_0_data (rowC (Eint .u8) r_0_data) 5 (Eint .u8).sz]) (h : bits_Reader_Take.f r_0_data r_0_at n_1 = some r) :
    Calls Try.prog 31 ([.pointer (some ⟨g_r_0, 0, none⟩), .int .i64 n_1] : List Value).toArray w0 (fun e w => ∃ (A_r_0_data' : Option Addr), ∃ (c_r_0_data' : Nat), e = .returned (.tuple #[.int .u32 r.1, .int .i64 r.2.1]) ∧ Hp S0 w0 w [.box g_r_0 [.slice A_r_0_data' r.2.2.1.length c_r_0_data', .int .i64 r.2.2.2] 102, .own A_r_0_data' c_r_0_data' (rowC (Eint .u8) r.2.2.1) 5 (Eint .u8).sz]) := by
  have H : ((if (n_1 < 0) ∨ (32 < n_1) then (some (0, 1, r_0_data, r_0_at)) else ((bits_Reader_Left.f r_0_data r_0_at).bind fun z7 => if z7 < n_1 then (some (0, 30, r_0_data, r_0_at)) else ((bits_Reader_ahead.f r_0_data r_0_at n_1).bind fun z15 => some (z15, 0, r_0_data, IntKind.i64.wrap (r_0_at + n_1))))) : Option (Int × Int × List Int × Int)) = some r := h
  refine calls_start Try.func31 rfl rfl ?_
  refine L_seq ?_
  refine L_region ?_
  refine F_val rfl rfl rfl (O_assign rfl rfl) ?_
  refine F_val rfl rfl rfl (O_assign rfl rfl) ?_
  refine F_nil ?_
  refine L_seq ?_
  refine L_seq ?_
  refine L_region ?_
  refine F_val rfl rfl rfl (O_move rfl rfl) ?_
  refine F_val rfl rfl rfl (O_peq rfl rfl rfl Try.underlying42) ?_
  refine F_val rfl rfl rfl (O_move rfl rfl) ?_
  refine F_gval rfl rfl rfl rfl rfl rfl (O_move rfl rfl) ?_
  refine F_gval rfl rfl rfl rfl rfl rfl (O_lt rfl rfl rfl) ?_
  refine F_val rfl rfl rfl (O_pickF rfl rfl rfl) ?_
  refine F_val rfl rfl rfl (O_move rfl rfl) ?_
  refine F_grp 3 [(16, .bool (decide ((n_1 < 0) ∨ (32 < n_1)))), (0, .pointer (some ⟨g_r_0, 0, none⟩)), (1, .int .i64 n_1)] ?_ ?_
  · rcases Decidable.em (n_1 < 0) with c1 | c1
    · refine F_know (i := 13) rfl (dec_t c1) ?_
      refine F_gskip rfl rfl rfl rfl rfl rfl rfl ?_
      refine F_gskip rfl rfl rfl rfl rfl rfl rfl ?_
      refine F_val rfl rfl rfl (O_pickT rfl rfl rfl) ?_
      refine F_know (i := 16) rfl (dec_or_t (q := 32 < n_1) c1) ?_
      exact F_grpE (fun a ha => Is.cons ha (Is.cons ha (Is.cons ha (Is.nil ha) rfl) rfl) rfl)
    · refine F_know (i := 13) rfl (dec_f c1) ?_
      refine F_gval rfl rfl rfl rfl rfl rfl (O_move rfl rfl) ?_
      refine F_gval rfl rfl rfl rfl rfl rfl (O_gt rfl rfl rfl) ?_
      refine F_val rfl rfl rfl (O_pickF rfl rfl rfl) ?_
      refine F_know (i := 16) rfl (dec_or_f (q := 32 < n_1) c1) ?_
      exact F_grpE (fun a ha => Is.cons ha (Is.cons ha (Is.cons ha (Is.nil ha) rfl) rfl) rfl)
  · skip
    refine F_nil ?_
    refine L_condP rfl (fun c2 => ?_) (fun c2 => ?_)
    · have H := of_pos H c2
      refine L_seq ?_
      refine L_region ?_
      refine F_val rfl rfl rfl (O_assign rfl rfl) ?_
      refine F_val rfl rfl rfl (O_assign rfl rfl) ?_
      refine F_nil ?_
      refine L_ret (fun a ha => (post_ret2 ha rfl rfl rfl ?_))
      obtain rfl := Option.some.inj H
      exact ⟨_, _, rfl, HS0.sel [0, 1] rfl⟩
    · have H := of_neg H c2
      refine L_skip ?_
      refine L_seq ?_
      refine L_seq ?_
      refine L_region ?_
      refine F_val rfl rfl rfl (O_move rfl rfl) ?_
      refine F_val rfl rfl rfl (O_move rfl rfl) ?_
      obtain ⟨z7, h6, H⟩ := of_bind H
      refine F_call (xs := [.tmp 18]) rfl rfl rfl rfl Try.func30 nm30 rfl rfl ((bits_Reader_Left.calls (HS0.give [] rfl (Lent.box HS0 (Lent.own HS0 (Lent.nil) (i := 1) rfl rfl ((HS0.cells_own (i := 1) rfl).self)) (i := 0) rfl rfl (HS0.cells_box (i := 0) rfl).self)) h6).mono (fun e w hc => ?_))
      obtain ⟨rfl, HSo⟩ := hc
      refine ⟨.int .i64 z7, rfl, ?_⟩
      have HS9 : Hp S0 w0 w [.box g_r_0 [.slice A_r_0_data r_0_data.length c_r_0_data, .int .i64 r_0_at] 102, .own A_r_0_data c_r_0_data (rowC (Eint .u8) r_0_data) 5 (Eint .u8).sz] := (HS0.back [] HSo rfl).sel [0, 1] rfl
      refine F_val rfl rfl rfl (O_gt rfl rfl rfl) ?_
      refine F_nil ?_
      refine L_condP rfl (fun c10 => ?_) (fun c10 => ?_)
      · have H := of_pos H c10
        refine L_seq ?_
        refine L_region ?_
        refine F_val rfl rfl rfl (O_assign rfl rfl) ?_
        refine F_val rfl rfl rfl (O_assign rfl rfl) ?_
        refine F_nil ?_
        refine L_ret (fun a ha => (post_ret2 ha rfl rfl rfl ?_))
        obtain rfl := Option.some.inj H
        exact ⟨_, _, rfl, HS9.sel [0, 1] rfl⟩
      · have H := of_neg H c10
        refine L_skip ?_
        refine L_seq ?_
        refine L_region ?_
        refine F_val rfl rfl rfl (O_move rfl rfl) ?_
        refine F_val rfl rfl rfl (O_move rfl rfl) ?_
        obtain ⟨z15, h14, H⟩ := of_bind H
        refine F_call (xs := [.tmp 21, .tmp 22]) rfl rfl rfl rfl Try.func57 nm57 rfl rfl ((bits_Reader_ahead.calls (HS9.give [] rfl (Lent.box HS9 (Lent.own HS9 (Lent.nil) (i := 1) rfl rfl ((HS9.cells_own (i := 1) rfl).self)) (i := 0) rfl rfl (HS9.cells_box (i := 0) rfl).self)) h14).mono (fun e w hc => ?_))
        obtain ⟨rfl, HSo⟩ := hc
        refine ⟨.int .u32 z15, rfl, ?_⟩
        have HS17 : Hp S0 w0 w [.box g_r_0 [.slice A_r_0_data r_0_data.length c_r_0_data, .int .i64 r_0_at] 102, .own A_r_0_data c_r_0_data (rowC (Eint .u8) r_0_data) 5 (Eint .u8).sz] := (HS9.back [] HSo rfl).sel [0, 1] rfl
        refine F_val rfl rfl rfl (O_assign rfl rfl) ?_
        refine F_nil ?_
        refine L_seq ?_
        refine L_region ?_
        refine F_val rfl rfl rfl (O_move rfl rfl) ?_
        refine F_val rfl rfl rfl (O_nilCheck rfl rfl) ?_
        refine F_val rfl rfl rfl (O_fieldB rfl rfl field102_1) ?_
        refine F_val rfl rfl rfl (O_loadB rfl rfl flat3 (HS17.cells_box (i := 0) rfl) rfl) ?_
        refine F_val rfl rfl rfl (O_move rfl rfl) ?_
        refine F_val rfl rfl rfl (O_add rfl rfl rfl) ?_
        refine F_val rfl rfl rfl (O_nilCheck rfl rfl) ?_
        refine F_val rfl rfl rfl (O_fieldB rfl rfl field102_1) ?_
        refine F_stB 0 ([.slice A_r_0_data r_0_data.length c_r_0_data, .int .i64 (IntKind.i64.wrap (r_0_at + n_1))]) rfl rfl rfl rfl rfl size3 HS17 rfl rfl rfl rfl rfl (fun w18 HS19 => ?_)
        have HS19 : Hp S0 w0 w18 [.box g_r_0 [.slice A_r_0_data r_0_data.length c_r_0_data, .int .i64 (IntKind.i64.wrap (r_0_at + n_1))] 102, .own A_r_0_data c_r_0_data (rowC (Eint .u8) r_0_data) 5 (Eint .u8).sz] := HS19
        refine F_nil ?_
        refine L_seq ?_
        refine L_region ?_
        refine F_val rfl rfl rfl (O_move rfl rfl) ?_
        refine F_val rfl rfl rfl (O_assign rfl rfl) ?_
        refine F_val rfl rfl rfl (O_assign rfl rfl) ?_
        refine F_nil ?_
        refine L_ret (fun a ha => (post_ret2 ha rfl rfl rfl ?_))
        obtain rfl := Option.some.inj H
        exact ⟨_, _, rfl, HS19.sel [0, 1] rfl⟩

/-! function 8: valise/valiselaw3.BitsMirror -/
theorem valiselaw3_BitsMirror.calls {S0 : Nat → Prop} {w0 : World} {v_0 : Int} {n_1 : Int} {r : Bool} (HS0 : Hp S0 w0 w0 []) (h : valiselaw3_BitsMirror.f v_0 n_1 = some r) :
    Calls Try.prog 8 ([.int .u32 v_0, .int .i64 n_1] : List Value).toArray w0 (fun e w => e = .returned (.bool r) ∧ Hp S0 w0 w []) := by
  have H : (((valiselaw3_width.f n_1).bind fun z5 => (valiselaw3_low.f v_0 z5).bind fun z12 => (bits_Reverse.f z12 z5).bind fun (z19, z20) => if z20 ≠ 0 then (some false) else ((bits_Reverse.f z19 z5).bind fun (z28, z29) => (bits_NewWriter.f).bind fun (z36, z37) => if ((z29 ≠ 0) ∨ (z28 ≠ z12)) ∧ true then (some false) else ((bits_Writer_Put.f z36 z37 z19 z5).bind fun (z52, z53, z54) => if z52 ≠ 0 then (some false) else ((bits_Writer_Bytes.f z53 z54).bind fun z64 => (bits_NewReader.f z64).bind fun z74 => onO z74 (some false) fun (z77, z78) => bnd (IntKind.i64.wrap (z5 - 1)) fun x86 => (valiselaw3_BitsMirror.l1 FU z77 z78 x86 z12).bind fun (yj88 : Sum (Bool) (Unit)) => onR yj88 (fun r => some r) fun () => some true)))) : Option (Bool)) = some r := h
  refine calls_start Try.func8 rfl rfl ?_
  refine L_seq ?_
  refine L_region ?_
  refine F_val rfl rfl rfl (O_assign rfl rfl) ?_
  refine F_nil ?_
  refine L_seq ?_
  refine L_region ?_
  refine F_val rfl rfl rfl (O_move rfl rfl) ?_
  obtain ⟨z5, h4, H⟩ := of_bind H
  refine F_call (xs := [.tmp 14]) rfl rfl rfl rfl Try.func27 nm27 rfl rfl ((valiselaw3_width.calls (HS0.give [] rfl (Lent.nil)) h4).mono (fun e w hc => ?_))
  obtain ⟨rfl, HSo⟩ := hc
  refine ⟨.int .i64 z5, rfl, ?_⟩
  have HS7 : Hp S0 w0 w [] := (HS0.back [] HSo rfl).sel [] rfl
  refine F_val rfl rfl rfl (O_assign rfl rfl) ?_
  refine F_nil ?_
  refine L_seq ?_
  refine L_region ?_
  refine F_val rfl rfl rfl (O_move rfl rfl) ?_
  refine F_val rfl rfl rfl (O_move rfl rfl) ?_
  obtain ⟨z12, h11, H⟩ := of_bind H
  refine F_call (xs := [.tmp 16, .tmp 17]) rfl rfl rfl rfl Try.func20 nm20 rfl rfl ((valiselaw3_low.calls (HS7.give [] rfl (Lent.nil)) h11).mono (fun e w hc => ?_))
  obtain ⟨rfl, HSo⟩ := hc
  refine ⟨.int .u32 z12, rfl, ?_⟩
  have HS14 : Hp S0 w0 w [] := (HS7.back [] HSo rfl).sel [] rfl
  refine F_val rfl rfl rfl (O_assign rfl rfl) ?_
  refine F_nil ?_
  refine L_seq ?_
  refine L_region ?_
  refine F_val rfl rfl rfl (O_move rfl rfl) ?_
  refine F_val rfl rfl rfl (O_move rfl rfl) ?_
  obtain ⟨⟨z19, z20⟩, h18, H⟩ := of_bind H
  refine F_call (xs := [.tmp 20, .tmp 21]) rfl rfl rfl rfl Try.func15 nm15 rfl rfl ((bits_Reverse.calls (HS14.give [] rfl (Lent.nil)) h18).mono (fun e w hc => ?_))
  obtain ⟨rfl, HSo⟩ := hc
  refine ⟨.tuple #[.int .u32 z19, .int .i64 z20], rfl, ?_⟩
  have HS22 : Hp S0 w0 w [] := (HS14.back [] HSo rfl).sel [] rfl
  refine F_val rfl rfl rfl (O_move rfl rfl) ?_
  refine F_val rfl rfl rfl (O_extract (v := .int .u32 z19) rfl rfl rfl) ?_
  refine F_val rfl rfl rfl (O_extract (v := .int .i64 z20) rfl rfl rfl) ?_
  refine F_val rfl rfl rfl (O_assign rfl rfl) ?_
  refine F_val rfl rfl rfl (O_assign rfl rfl) ?_
  refine F_nil ?_
  refine L_seq ?_
  refine L_seq ?_
  refine L_region ?_
  refine F_val rfl rfl rfl (O_move rfl rfl) ?_
  refine F_val rfl rfl rfl (O_ne rfl rfl rfl) ?_
  refine F_nil ?_
  refine L_condP rfl (fun c23 => ?_) (fun c23 => ?_)
  · have H := of_pos H c23
    refine L_seq ?_
    refine L_region ?_
    refine F_val rfl rfl rfl (O_assign rfl rfl) ?_
    refine F_nil ?_
    refine L_ret (fun a ha => (post_ret1 ha rfl rfl ?_))
    obtain rfl := Option.some.inj H
    exact ⟨rfl, HS22.sel [] rfl⟩
  · have H := of_neg H c23
    refine L_skip ?_
    refine L_seq ?_
    refine L_region ?_
    refine F_val rfl rfl rfl (O_move rfl rfl) ?_
    refine F_val rfl rfl rfl (O_move rfl rfl) ?_
    obtain ⟨⟨z28, z29⟩, h27, H⟩ := of_bind H
    refine F_call (xs := [.tmp 28, .tmp 29]) rfl rfl rfl rfl Try.func15 nm15 rfl rfl ((bits_Reverse.calls (HS22.give [] rfl (Lent.nil)) h27).mono (fun e w hc => ?_))
    obtain ⟨rfl, HSo⟩ := hc
    refine ⟨.tuple #[.int .u32 z28, .int .i64 z29], rfl, ?_⟩
    have HS31 : Hp S0 w0 w [] := (HS22.back [] HSo rfl).sel [] rfl
    refine F_val rfl rfl rfl (O_move rfl rfl) ?_
    refine F_val rfl rfl rfl (O_extract (v := .int .u32 z28) rfl rfl rfl) ?_
    refine F_val rfl rfl rfl (O_extract (v := .int .i64 z29) rfl rfl rfl) ?_
    refine F_val rfl rfl rfl (O_assign rfl rfl) ?_
    refine F_val rfl rfl rfl (O_assign rfl rfl) ?_
    refine F_nil ?_
    refine L_seq ?_
    refine L_region ?_
    obtain ⟨⟨z36, z37⟩, h35, H⟩ := of_bind H
    refine F_call (xs := []) rfl rfl rfl rfl Try.func18 nm18 rfl rfl ((bits_NewWriter.calls (HS31.give [] rfl (Lent.nil)) h35).mono (fun e w hc => ?_))
    obtain ⟨g40, A42, c43, rfl, HSo⟩ := hc
    refine ⟨.pointer (some ⟨g40, 0, none⟩), rfl, ?_⟩
    have HS39 : Hp S0 w0 w [.box g40 [.slice A42 z36.length c43, .int .i64 z37] 99, .own A42 c43 (rowC (Eint .u8) z36) 5 (Eint .u8).sz] := (HS31.back [] HSo rfl).sel [0, 1] rfl
    refine F_val rfl rfl rfl (O_assign rfl rfl) ?_
    refine F_nil ?_
    refine L_seq ?_
    refine L_seq ?_
    refine L_region ?_
    refine F_val rfl rfl rfl (O_move rfl rfl) ?_
    refine F_val rfl rfl rfl (O_ne rfl rfl rfl) ?_
    refine F_val rfl rfl rfl (O_move rfl rfl) ?_
    refine F_grp 4 [(40, .bool (decide ((z29 ≠ 0) ∨ (z28 ≠ z12)))), (0, .int .u32 z12), (1, .int .i64 z5), (5, .int .u32 z19), (9, .pointer (some ⟨g40, 0, none⟩))] ?_ ?_
    · rcases Decidable.em (z29 ≠ 0) with c45 | c45
      · refine F_know (i := 36) rfl (dec_t c45) ?_
        refine F_gskip rfl rfl rfl rfl rfl rfl rfl ?_
        refine F_gskip rfl rfl rfl rfl rfl rfl rfl ?_
        refine F_gskip rfl rfl rfl rfl rfl rfl rfl ?_
        refine F_val rfl rfl rfl (O_pickT rfl rfl rfl) ?_
        refine F_know (i := 40) rfl (dec_or_t (q := z28 ≠ z12) c45) ?_
        exact F_grpE (fun a ha => Is.cons ha (Is.cons ha (Is.cons ha (Is.cons ha (Is.cons ha (Is.nil ha) rfl) rfl) rfl) rfl) rfl)
      · refine F_know (i := 36) rfl (dec_f c45) ?_
        refine F_gval rfl rfl rfl rfl rfl rfl (O_move rfl rfl) ?_
        refine F_gval rfl rfl rfl rfl rfl rfl (O_move rfl rfl) ?_
        refine F_gval rfl rfl rfl rfl rfl rfl (O_ne rfl rfl rfl) ?_
        refine F_val rfl rfl rfl (O_pickF rfl rfl rfl) ?_
        refine F_know (i := 40) rfl (dec_or_f (q := z28 ≠ z12) c45) ?_
        exact F_grpE (fun a ha => Is.cons ha (Is.cons ha (Is.cons ha (Is.cons ha (Is.cons ha (Is.nil ha) rfl) rfl) rfl) rfl) rfl)
    · skip
      refine F_val rfl rfl rfl (O_move rfl rfl) ?_
      refine F_grp 3 [(44, .bool (decide (((z29 ≠ 0) ∨ (z28 ≠ z12)) ∧ true))), (0, .int .u32 z12), (1, .int .i64 z5), (5, .int .u32 z19), (9, .pointer (some ⟨g40, 0, none⟩))] ?_ ?_
      · rcases Decidable.em ((z29 ≠ 0) ∨ (z28 ≠ z12)) with c46 | c46
        · refine F_know (i := 41) rfl (dec_t c46) ?_
          refine F_gskip rfl rfl rfl rfl rfl rfl rfl ?_
          refine F_gskip rfl rfl rfl rfl rfl rfl rfl ?_
          refine F_val rfl rfl rfl (O_pickT rfl rfl rfl) ?_
          refine F_know (i := 44) rfl (dec_and_t (q := true) c46) ?_
          exact F_grpE (fun a ha => Is.cons ha (Is.cons ha (Is.cons ha (Is.cons ha (Is.cons ha (Is.nil ha) rfl) rfl) rfl) rfl) rfl)
        · refine F_know (i := 41) rfl (dec_f c46) ?_
          refine F_gval rfl rfl rfl rfl rfl rfl (O_move rfl rfl) ?_
          refine F_gval rfl rfl rfl rfl rfl rfl (O_peq rfl rfl rfl Try.underlying31) ?_
          refine F_val rfl rfl rfl (O_pickF rfl rfl rfl) ?_
          refine F_know (i := 44) rfl (dec_and_f (q := true) c46) ?_
          exact F_grpE (fun a ha => Is.cons ha (Is.cons ha (Is.cons ha (Is.cons ha (Is.cons ha (Is.nil ha) rfl) rfl) rfl) rfl) rfl)
      · skip
        refine F_val rfl rfl rfl (O_move rfl rfl) ?_
        rcases Decidable.em (((z29 ≠ 0) ∨ (z28 ≠ z12)) ∧ true) with c47 | c47
        · have H := of_pos H c47
          refine F_know (i := 45) rfl (dec_t c47) ?_
          refine F_gskip rfl rfl rfl rfl rfl rfl rfl ?_
          refine F_gskip rfl rfl rfl rfl rfl rfl rfl ?_
          refine F_gskip rfl rfl rfl rfl rfl rfl rfl ?_
          refine F_gskip rfl rfl rfl rfl rfl rfl rfl ?_
          refine F_gskip rfl rfl rfl rfl rfl rfl rfl ?_
          refine F_val rfl rfl rfl (O_pickT rfl rfl rfl) ?_
          refine F_nil ?_
          refine L_cond rfl (fun _ => ?_) (fun hx => by cases hx)
          refine L_seq ?_
          refine L_region ?_
          refine F_val rfl rfl rfl (O_assign rfl rfl) ?_
          refine F_nil ?_
          refine L_ret (fun a ha => (post_ret1 ha rfl rfl ?_))
          obtain rfl := Option.some.inj H
          exact ⟨rfl, HS39.sel [] rfl⟩
        · have H := of_neg H c47
          refine F_know (i := 45) rfl (dec_f c47) ?_
          refine F_gval rfl rfl rfl rfl rfl rfl (O_move rfl rfl) ?_
          refine F_gval rfl rfl rfl rfl rfl rfl (O_move rfl rfl) ?_
          refine F_gval rfl rfl rfl rfl rfl rfl (O_move rfl rfl) ?_
          obtain ⟨⟨z52, z53, z54⟩, h51, H⟩ := of_bind H
          refine F_gcall (xs := [.tmp 46, .tmp 47, .tmp 48]) rfl rfl rfl rfl rfl rfl rfl Try.func19 nm19 rfl rfl ((bits_Writer_Put.calls (HS39.give [0, 1] rfl (Lent.nil)) h51).mono (fun e w hc => ?_))
          obtain ⟨A57, c58, rfl, HSo⟩ := hc
          refine ⟨.int .i64 z52, rfl, ?_⟩
          have HS56 : Hp S0 w0 w [.box g40 [.slice A57 z53.length c58, .int .i64 z54] 99, .own A57 c58 (rowC (Eint .u8) z53) 5 (Eint .u8).sz] := (HS39.back [0, 1] HSo rfl).sel [2, 3] rfl
          refine F_gval rfl rfl rfl rfl rfl rfl (O_ne rfl rfl rfl) ?_
          refine F_val rfl rfl rfl (O_pickF rfl rfl rfl) ?_
          refine F_nil ?_
          refine L_condP rfl (fun c59 => ?_) (fun c59 => ?_)
          · have H := of_pos H c59
            refine L_seq ?_
            refine L_region ?_
            refine F_val rfl rfl rfl (O_assign rfl rfl) ?_
            refine F_nil ?_
            refine L_ret (fun a ha => (post_ret1 ha rfl rfl ?_))
            obtain rfl := Option.some.inj H
            exact ⟨rfl, HS56.sel [] rfl⟩
          · have H := of_neg H c59
            refine L_skip ?_
            refine L_seq ?_
            refine L_region ?_
            refine F_val rfl rfl rfl (O_move rfl rfl) ?_
            obtain ⟨z64, h63, H⟩ := of_bind H
            refine F_call (xs := [.tmp 52]) rfl rfl rfl rfl Try.func21 nm21 rfl rfl ((bits_Writer_Bytes.calls (HS56.give [] rfl (Lent.box HS56 (Lent.own HS56 (Lent.nil) (i := 1) rfl rfl ((HS56.cells_own (i := 1) rfl).self)) (i := 0) rfl rfl (HS56.cells_box (i := 0) rfl).self)) h63).mono (fun e w hc => ?_))
            obtain ⟨A67, c68, rfl, HSo⟩ := hc
            refine ⟨.slice A67 z64.length c68, rfl, ?_⟩
            have HS66 : Hp S0 w0 w [.box g40 [.slice A57 z53.length c58, .int .i64 z54] 99, .own A57 c58 (rowC (Eint .u8) z53) 5 (Eint .u8).sz, .own A67 c68 (rowC (Eint .u8) z64) 5 (Eint .u8).sz] := (HS56.back [] HSo rfl).sel [0, 1, 2] rfl
            obtain ⟨z74, h73, H⟩ := of_bind H
            rcases z74 with _ | z74
            · refine F_call (xs := [.tmp 53]) rfl rfl rfl rfl Try.func25 nm25 rfl rfl ((bits_NewReader.calls (HS66.give [] rfl (Lent.own HS66 (Lent.nil) (i := 2) rfl rfl ((HS66.cells_own (i := 2) rfl).self))) (HS66.own_capE (i := 2) rfl (by decide)) h73).mono (fun e w hc => ?_))
              have H := (onO_none _ _).symm.trans H
              obtain ⟨rfl, HSo⟩ := hc
              refine ⟨.pointer none, rfl, ?_⟩
              have HS76 : Hp S0 w0 w [.box g40 [.slice A57 z53.length c58, .int .i64 z54] 99, .own A57 c58 (rowC (Eint .u8) z53) 5 (Eint .u8).sz, .own A67 c68 (rowC (Eint .u8) z64) 5 (Eint .u8).sz] := (HS66.back [] HSo rfl).sel [0, 1, 2] rfl
              refine F_val rfl rfl rfl (O_assign rfl rfl) ?_
              refine F_nil ?_
              refine L_seq ?_
              refine L_seq ?_
              refine L_region ?_
              refine F_val rfl rfl rfl (O_move rfl rfl) ?_
              refine F_val rfl rfl rfl (O_peq rfl rfl rfl Try.underlying42) ?_
              refine F_nil ?_
              refine L_cond rfl (fun _ => ?_) (fun hx => by cases hx)
              refine L_seq ?_
              refine L_region ?_
              refine F_val rfl rfl rfl (O_assign rfl rfl) ?_
              refine F_nil ?_
              refine L_ret (fun a ha => (post_ret1 ha rfl rfl ?_))
              obtain rfl := Option.some.inj H
              exact ⟨rfl, HS76.sel [] rfl⟩
            · refine F_call (xs := [.tmp 53]) rfl rfl rfl rfl Try.func25 nm25 rfl rfl ((bits_NewReader.calls (HS66.give [] rfl (Lent.own HS66 (Lent.nil) (i := 2) rfl rfl ((HS66.cells_own (i := 2) rfl).self))) (HS66.own_capE (i := 2) rfl (by decide)) h73).mono (fun e w hc => ?_))
              obtain ⟨z77, z78⟩ := z74
              have H := (onO_some _ _ _).symm.trans H
              obtain ⟨g81, A83, c84, rfl, HSo⟩ := hc
              refine ⟨.pointer (some ⟨g81, 0, none⟩), rfl, ?_⟩
              have HS80 : Hp S0 w0 w [.box g40 [.slice A57 z53.length c58, .int .i64 z54] 99, .own A57 c58 (rowC (Eint .u8) z53) 5 (Eint .u8).sz, .own A67 c68 (rowC (Eint .u8) z64) 5 (Eint .u8).sz, .box g81 [.slice A83 z77.length c84, .int .i64 z78] 102, .own A83 c84 (rowC (Eint .u8) z77) 5 (Eint .u8).sz] := (HS66.back [] HSo rfl).sel [0, 1, 2, 3, 4] rfl
              refine F_val rfl rfl rfl (O_assign rfl rfl) ?_
              refine F_nil ?_
              refine L_seq ?_
              refine L_seq ?_
              refine L_region ?_
              refine F_val rfl rfl rfl (O_move rfl rfl) ?_
              refine F_val rfl rfl rfl (O_peq rfl rfl rfl Try.underlying42) ?_
              refine F_nil ?_
              refine L_cond rfl (fun hx => by cases hx) (fun _ => ?_)
              refine L_skip ?_
              refine L_seq ?_
              refine L_seq ?_
              refine L_region ?_
              refine F_val rfl rfl rfl (O_move rfl rfl) ?_
              refine F_val rfl rfl rfl (O_sub rfl rfl rfl) ?_
              obtain ⟨x86, h87, H⟩ := of_bnd H
              refine F_val rfl rfl rfl (O_assign' rfl rfl (congrArg (Value.int .i64) h87)) ?_
              refine F_nil ?_
              obtain ⟨yj88, Hyj88, H⟩ := of_bind H
              refine L_join (fun a w => yj88 = Sum.inr () ∧ Is Try.f8.ntmps a [] ∧ Hp S0 w0 w []) (fun Qj88 hNj88 hOj88 => ?_) (fun a w hR => ?_)
              · have HOj88 := H
                have H := Hyj88
                refine L_blk (fun Qb166 hNb166 hXb166 hOb166 => ?_)
                refine L_lp (fun k a w => ∃ (l217 : List Int), ∃ (y218 : Int), ∃ (i_219 : Int), ∃ (A215 : Option Addr), ∃ (c216 : Nat), Is Try.f8.ntmps a [(0, .int .u32 z12), (10, .pointer (some ⟨g81, 0, none⟩)), (11, .int .i64 i_219)] ∧ Hp S0 w0 w [.box g81 [.slice A215 l217.length c216, .int .i64 y218] 102, .own A215 c216 (rowC (Eint .u8) l217) 5 (Eint .u8).sz] ∧ valiselaw3_BitsMirror.l1 k l217 y218 i_219 z12 = some yj88) FU (fun a ha => ⟨_, _, _, _, _, Is.cons ha (Is.cons ha (Is.cons ha (Is.nil ha) rfl) rfl) rfl, HS80.sel [3, 4] rfl, H⟩) (fun kp214 a w220 hI Qp214 hNp214 hOp214 => ?_)
                obtain ⟨l217, y218, i_219, A215, c216, ha, HS221, HAp214⟩ := hI
                cases kp214 with
                | zero => cases (show (none : Option _) = some _ from HAp214)
                | succ kp214 =>
                  have H := (valiselaw3_BitsMirror.l1.eq_2 ..).symm.trans HAp214
                  refine wpLF_app ?_ ha
                  refine L_seq ?_
                  refine L_seq ?_
                  refine L_region ?_
                  refine F_val rfl rfl rfl (O_move rfl rfl) ?_
                  refine F_val rfl rfl rfl (O_ge rfl rfl rfl) ?_
                  refine F_nil ?_
                  refine L_condP rfl (fun c222 => ?_) (fun c222 => ?_)
                  · have H := of_pos H c222
                    refine L_skip ?_
                    refine L_seq ?_
                    refine L_blk (fun Q223 hN223 hX223 hO223 => ?_)
                    refine L_seq ?_
                    refine L_region ?_
                    refine F_val rfl rfl rfl (O_move rfl rfl) ?_
                    obtain ⟨⟨z228, z229, z230, z231⟩, h227, H⟩ := of_bind H
                    refine F_call (xs := [.tmp 64, .const (.int .i64 1)]) rfl rfl rfl rfl Try.func31 nm31 rfl rfl ((bits_Reader_Take.calls (HS221.give [0, 1] rfl (Lent.nil)) h227).mono (fun e w hc => ?_))
                    obtain ⟨A234, c235, rfl, HSo⟩ := hc
                    refine ⟨.tuple #[.int .u32 z228, .int .i64 z229], rfl, ?_⟩
                    have HS233 : Hp S0 w0 w [.box g81 [.slice A234 z230.length c235, .int .i64 z231] 102, .own A234 c235 (rowC (Eint .u8) z230) 5 (Eint .u8).sz] := (HS221.back [0, 1] HSo rfl).sel [2, 3] rfl
                    refine F_val rfl rfl rfl (O_move rfl rfl) ?_
                    refine F_val rfl rfl rfl (O_extract (v := .int .u32 z228) rfl rfl rfl) ?_
                    refine F_val rfl rfl rfl (O_extract (v := .int .i64 z229) rfl rfl rfl) ?_
                    refine F_val rfl rfl rfl (O_assign rfl rfl) ?_
                    refine F_val rfl rfl rfl (O_assign rfl rfl) ?_
                    refine F_nil ?_
                    refine L_seq ?_
                    refine L_region ?_
                    refine F_val rfl rfl rfl (O_move rfl rfl) ?_
                    refine F_val rfl rfl rfl (O_ne rfl rfl rfl) ?_
                    refine F_val rfl rfl rfl (O_move rfl rfl) ?_
                    obtain ⟨b237, Hb237, H⟩ := of_bind H
                    refine F_grp 8 [(78, .bool b237), (0, .int .u32 z12), (10, .pointer (some ⟨g81, 0, none⟩)), (11, .int .i64 i_219)] ?_ ?_
                    · rcases Decidable.em (z229 ≠ 0) with c238 | c238
                      · refine F_know (i := 70) rfl (dec_t c238) ?_
                        have H := of_pos Hb237 c238
                        refine F_gskip rfl rfl rfl rfl rfl rfl rfl ?_
                        refine F_gskip rfl rfl rfl rfl rfl rfl rfl ?_
                        refine F_gskip rfl rfl rfl rfl rfl rfl rfl ?_
                        refine F_gskip rfl rfl rfl rfl rfl rfl rfl ?_
                        refine F_gskip rfl rfl rfl rfl rfl rfl rfl ?_
                        refine F_gskip rfl rfl rfl rfl rfl rfl rfl ?_
                        refine F_gskip rfl rfl rfl rfl rfl rfl rfl ?_
                        refine F_val rfl rfl rfl (O_pickT rfl rfl rfl) ?_
                        refine F_know (i := 78) rfl (congrArg Value.bool (Option.some.inj H)) ?_
                        exact F_grpE (fun a ha => Is.cons ha (Is.cons ha (Is.cons ha (Is.cons ha (Is.nil ha) rfl) rfl) rfl) rfl)
                      · refine F_know (i := 70) rfl (dec_f c238) ?_
                        have H := of_neg Hb237 c238
                        refine F_gval rfl rfl rfl rfl rfl rfl (O_move rfl rfl) ?_
                        refine F_gval rfl rfl rfl rfl rfl rfl (O_move rfl rfl) ?_
                        refine F_gval rfl rfl rfl rfl rfl rfl (O_move rfl rfl) ?_
                        refine F_gval rfl rfl rfl rfl rfl rfl (O_conv rfl rfl ⟨_, Try.underlying3⟩ Try.underlying75) ?_
                        obtain ⟨g239, H⟩ := of_gd H
                        refine F_gval rfl rfl rfl rfl rfl rfl (O_shr rfl rfl rfl g239) ?_
                        refine F_gval rfl rfl rfl rfl rfl rfl (O_and rfl rfl rfl) ?_
                        refine F_gval rfl rfl rfl rfl rfl rfl (O_ne rfl rfl rfl) ?_
                        refine F_val rfl rfl rfl (O_pickF rfl rfl rfl) ?_
                        refine F_know (i := 78) rfl (congrArg Value.bool (Option.some.inj H)) ?_
                        exact F_grpE (fun a ha => Is.cons ha (Is.cons ha (Is.cons ha (Is.cons ha (Is.nil ha) rfl) rfl) rfl) rfl)
                    · skip
                      refine F_nil ?_
                      refine L_cond rfl (fun c240 => ?_) (fun c240 => ?_)
                      · have H := of_pos H c240
                        refine L_seq ?_
                        refine L_region ?_
                        refine F_val rfl rfl rfl (O_assign rfl rfl) ?_
                        refine F_nil ?_
                        refine L_ret (fun a ha => (hO223 .ret a _ rfl (hOp214 .ret a _ rfl (hOb166 .ret a _ rfl (hOj88 .ret a _ rfl (post_ret1 ha rfl rfl ?_))))))
                        obtain rfl := Option.some.inj H
                        obtain rfl := Option.some.inj (show (some false : Option (Bool)) = some _ from HOj88)
                        exact ⟨rfl, HS233.sel [] rfl⟩
                      · have H := of_neg H (by rw [c240]; exact Bool.false_ne_true)
                        refine L_skip ?_
                        refine L_endB hN223 ?_
                        refine L_region ?_
                        refine F_val rfl rfl rfl (O_move rfl rfl) ?_
                        refine F_val rfl rfl rfl (O_sub rfl rfl rfl) ?_
                        obtain ⟨x241, h242, H⟩ := of_bnd H
                        refine F_val rfl rfl rfl (O_assign' rfl rfl (congrArg (Value.int .i64) h242)) ?_
                        refine F_nil ?_
                        refine L_nil (fun a ha => hNp214 _ a _ (Nat.lt_succ_self _) ⟨_, _, _, _, _, Is.cons ha (Is.cons ha (Is.cons ha (Is.nil ha) rfl) rfl) rfl, HS233.sel [0, 1] rfl, H⟩)
                  · have H := of_neg H c222
                    refine L_exitB (fun a w h => hOp214 (.exit 0) a w rfl (hXb166 a w h)) ?_
                    refine L_nil (fun a ha => hNj88 a _ ⟨(Option.some.inj H).symm, Is.nil ha, HS221.sel [] rfl⟩)
              · obtain ⟨rfl, ha, HS244⟩ := hR
                refine wpLF_app ?_ ha
                have H := (onR_inr _ _ _).symm.trans H
                refine L_seq ?_
                refine L_region ?_
                refine F_val rfl rfl rfl (O_assign rfl rfl) ?_
                refine F_nil ?_
                refine L_ret (fun a ha => (post_ret1 ha rfl rfl ?_))
                obtain rfl := Option.some.inj H
                exact ⟨rfl, HS244.sel [] rfl⟩

end Go.Proofs.Ytmbcoaiaeeckiaa
