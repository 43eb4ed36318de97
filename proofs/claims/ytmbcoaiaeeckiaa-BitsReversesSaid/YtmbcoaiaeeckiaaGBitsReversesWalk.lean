import Derived.Test.YtmbcoaiaeeckiaaChecked
import Derived.Test.YtmbcoaiaeeckiaaGBitsReversesPure
set_option linter.unusedVariables false
set_option linter.unusedSimpArgs false
set_option maxRecDepth 10000
namespace Go.Proofs.Ytmbcoaiaeeckiaa
open Go Go.V Go.V.Pu
theorem mix : Try.prog.follows .mixedOrders = true := by kernel_rfl
theorem nm54 : (Try.f54.name == "runtime.NumGoroutine") = false := by kernel_rfl
theorem nm55 : (Try.f55.name == "runtime.NumGoroutine") = false := by kernel_rfl
theorem nm15 : (Try.f15.name == "runtime.NumGoroutine") = false := by kernel_rfl
theorem nm16 : (Try.f16.name == "runtime.NumGoroutine") = false := by kernel_rfl
theorem nm17 : (Try.f17.name == "runtime.NumGoroutine") = false := by kernel_rfl
/-! function 15: valise/bits.Reverse -/
theorem bits_Reverse.calls {S0 : Nat → Prop} {w0 : World} {v_0 : Int} {n_1 : Int} {r : Int × Int} (HS0 : Hp S0 w0 w0 []) (h : bits_Reverse.f v_0 n_1 = some r) :
    Calls Try.prog 15 ([.int .u32 v_0, .int .i64 n_1] : List Value).toArray w0 (fun e w => e = .returned (.tuple #[.int .u32 r.1, .int .i64 r.2]) ∧ Hp S0 w0 w []) := by
  have H : ((if (n_1 < 0) ∨ (32 < n_1) then (some true) else (gd (¬ (IntKind.u64.wrap n_1) < 0) (some (decide (shr .u64 (IntKind.u64.wrap v_0) (IntKind.u64.wrap n_1) ≠ 0))))).bind fun b3 => if b3 = true then (some (0, 1)) else ((bits_Reverse.l1 FU v_0 0 0 n_1).bind fun out_36 => some (out_36, 0))) = some r := h
  refine calls_start Try.func15 rfl rfl ?_
  refine L_seq ?_
  refine L_region ?_
  refine F_val rfl rfl rfl (O_assign rfl rfl) ?_
  refine F_val rfl rfl rfl (O_assign rfl rfl) ?_
  refine F_nil ?_
  refine L_seq ?_
  refine L_seq ?_
  refine L_region ?_
  refine F_val rfl rfl rfl (O_move rfl rfl) ?_
  refine F_val rfl rfl rfl (O_lt rfl rfl rfl) ?_
  refine F_val rfl rfl rfl (O_move rfl rfl) ?_
  refine F_grp 3 [(12, .bool (decide ((n_1 < 0) ∨ (32 < n_1)))), (0, .int .u32 v_0), (1, .int .i64 n_1)] ?_ ?_
  · rcases Decidable.em (n_1 < 0) with c1 | c1
    · refine F_know (i := 9) rfl (dec_t c1) ?_
      refine F_gskip rfl rfl rfl rfl rfl rfl rfl ?_
      refine F_gskip rfl rfl rfl rfl rfl rfl rfl ?_
      refine F_val rfl rfl rfl (O_pickT rfl rfl rfl) ?_
      refine F_know (i := 12) rfl (dec_or_t (q := 32 < n_1) c1) ?_
      exact F_grpE (fun a ha => Is.cons ha (Is.cons ha (Is.cons ha (Is.nil ha) rfl) rfl) rfl)
    · refine F_know (i := 9) rfl (dec_f c1) ?_
      refine F_gval rfl rfl rfl rfl rfl rfl (O_move rfl rfl) ?_
      refine F_gval rfl rfl rfl rfl rfl rfl (O_gt rfl rfl rfl) ?_
      refine F_val rfl rfl rfl (O_pickF rfl rfl rfl) ?_
      refine F_know (i := 12) rfl (dec_or_f (q := 32 < n_1) c1) ?_
      exact F_grpE (fun a ha => Is.cons ha (Is.cons ha (Is.cons ha (Is.nil ha) rfl) rfl) rfl)
  · skip
    refine F_val rfl rfl rfl (O_move rfl rfl) ?_
    obtain ⟨b3, Hb3, H⟩ := of_bind H
    refine F_grp 7 [(20, .bool b3), (0, .int .u32 v_0), (1, .int .i64 n_1)] ?_ ?_
    · rcases Decidable.em ((n_1 < 0) ∨ (32 < n_1)) with c4 | c4
      · refine F_know (i := 13) rfl (dec_t c4) ?_
        have H := of_pos Hb3 c4
        refine F_gskip rfl rfl rfl rfl rfl rfl rfl ?_
        refine F_gskip rfl rfl rfl rfl rfl rfl rfl ?_
        refine F_gskip rfl rfl rfl rfl rfl rfl rfl ?_
        refine F_gskip rfl rfl rfl rfl rfl rfl rfl ?_
        refine F_gskip rfl rfl rfl rfl rfl rfl rfl ?_
        refine F_gskip rfl rfl rfl rfl rfl rfl rfl ?_
        refine F_val rfl rfl rfl (O_pickT rfl rfl rfl) ?_
        refine F_know (i := 20) rfl (congrArg Value.bool (Option.some.inj H)) ?_
        exact F_grpE (fun a ha => Is.cons ha (Is.cons ha (Is.cons ha (Is.nil ha) rfl) rfl) rfl)
      · refine F_know (i := 13) rfl (dec_f c4) ?_
        have H := of_neg Hb3 c4
        refine F_gval rfl rfl rfl rfl rfl rfl (O_move rfl rfl) ?_
        refine F_gval rfl rfl rfl rfl rfl rfl (O_conv rfl rfl ⟨_, Try.underlying22⟩ Try.underlying87) ?_
        refine F_gval rfl rfl rfl rfl rfl rfl (O_move rfl rfl) ?_
        refine F_gval rfl rfl rfl rfl rfl rfl (O_conv rfl rfl ⟨_, Try.underlying3⟩ Try.underlying75) ?_
        obtain ⟨g5, H⟩ := of_gd H
        refine F_gval rfl rfl rfl rfl rfl rfl (O_shr rfl rfl rfl g5) ?_
        refine F_gval rfl rfl rfl rfl rfl rfl (O_ne rfl rfl rfl) ?_
        refine F_val rfl rfl rfl (O_pickF rfl rfl rfl) ?_
        refine F_know (i := 20) rfl (congrArg Value.bool (Option.some.inj H)) ?_
        exact F_grpE (fun a ha => Is.cons ha (Is.cons ha (Is.cons ha (Is.nil ha) rfl) rfl) rfl)
    · skip
      refine F_nil ?_
      refine L_cond rfl (fun c6 => ?_) (fun c6 => ?_)
      · have H := of_pos H c6
        refine L_seq ?_
        refine L_region ?_
        refine F_val rfl rfl rfl (O_assign rfl rfl) ?_
        refine F_val rfl rfl rfl (O_assign rfl rfl) ?_
        refine F_nil ?_
        refine L_ret (fun a ha => (post_ret2 ha rfl rfl rfl ?_))
        obtain rfl := Option.some.inj H
        exact ⟨rfl, HS0.sel [] rfl⟩
      · have H := of_neg H (by rw [c6]; exact Bool.false_ne_true)
        refine L_skip ?_
        refine L_seq ?_
        refine L_region ?_
        refine F_val rfl rfl rfl (O_assign rfl rfl) ?_
        refine F_nil ?_
        refine L_seq ?_
        refine L_seq ?_
        refine L_region ?_
        refine F_val rfl rfl rfl (O_move rfl rfl) ?_
        refine F_val rfl rfl rfl (O_move rfl rfl) ?_
        refine F_nil ?_
        obtain ⟨yj7, Hyj7, H⟩ := of_bind H
        refine L_join (fun a w => ∃ (out_36 : Int), yj7 = out_36 ∧ Is Try.f15.ntmps a [(6, .int .u32 out_36)] ∧ Hp S0 w0 w []) (fun Qj7 hNj7 hOj7 => ?_) (fun a w hR => ?_)
        · skip
          have H := Hyj7
          refine L_blk (fun Qb37 hNb37 hXb37 hOb37 => ?_)
          refine L_lp (fun k a w => ∃ (v_54 : Int), ∃ (out_55 : Int), ∃ (t56 : Int), Is Try.f15.ntmps a [(0, .int .u32 v_54), (6, .int .u32 out_55), (21, .int .i64 n_1), (22, .int .i64 t56)] ∧ Hp S0 w0 w [] ∧ bits_Reverse.l1 k v_54 out_55 t56 n_1 = some yj7) FU (fun a ha => ⟨_, _, _, Is.cons ha (Is.cons ha (Is.cons ha (Is.cons ha (Is.nil ha) rfl) rfl) rfl) rfl, HS0.sel [] rfl, H⟩) (fun kp53 a w57 hI Qp53 hNp53 hOp53 => ?_)
          obtain ⟨v_54, out_55, t56, ha, HS58, HAp53⟩ := hI
          cases kp53 with
          | zero => cases (show (none : Option _) = some _ from HAp53)
          | succ kp53 =>
            have H := (bits_Reverse.l1.eq_2 ..).symm.trans HAp53
            refine wpLF_app ?_ ha
            refine L_seq ?_
            refine L_region ?_
            refine F_val rfl rfl rfl (O_lt rfl rfl rfl) ?_
            refine F_nil ?_
            refine L_seq ?_
            refine L_condP rfl (fun c59 => ?_) (fun c59 => ?_)
            · have H := of_pos H c59
              refine L_skip ?_
              refine L_seq ?_
              refine L_blk (fun Q60 hN60 hX60 hO60 => ?_)
              refine L_seq ?_
              refine L_region ?_
              refine F_val rfl rfl rfl (O_move rfl rfl) ?_
              refine F_val rfl rfl rfl (O_shl rfl rfl rfl (by decide)) ?_
              refine F_val rfl rfl rfl (O_move rfl rfl) ?_
              refine F_val rfl rfl rfl (O_and rfl rfl rfl) ?_
              refine F_val rfl rfl rfl (O_or rfl rfl rfl) ?_
              obtain ⟨x61, h62, H⟩ := of_bnd H
              refine F_val rfl rfl rfl (O_assign' rfl rfl (congrArg (Value.int .u32) h62)) ?_
              refine F_nil ?_
              refine L_region ?_
              refine F_val rfl rfl rfl (O_move rfl rfl) ?_
              refine F_val rfl rfl rfl (O_shr rfl rfl rfl (by decide)) ?_
              obtain ⟨x63, h64, H⟩ := of_bnd H
              refine F_val rfl rfl rfl (O_assign' rfl rfl (congrArg (Value.int .u32) h64)) ?_
              refine F_nil ?_
              refine L_endB hN60 ?_
              refine L_region ?_
              refine F_val rfl rfl rfl (O_add rfl rfl rfl) ?_
              refine F_val rfl rfl rfl (O_move rfl rfl) ?_
              refine F_nil ?_
              refine L_nil (fun a ha => hNp53 _ a _ (Nat.lt_succ_self _) ⟨_, _, _, Is.cons ha (Is.cons ha (Is.cons ha (Is.cons ha (Is.nil ha) rfl) rfl) rfl) rfl, HS58.sel [] rfl, H⟩)
            · have H := of_neg H c59
              refine L_exitB (fun a w h => hOp53 (.exit 0) a w rfl (hXb37 a w h)) ?_
              refine L_nil (fun a ha => hNj7 a _ ⟨_, (Option.some.inj H).symm, Is.cons ha (Is.nil ha) rfl, HS58.sel [] rfl⟩)
        · obtain ⟨out_36, rfl, ha, HS66⟩ := hR
          refine wpLF_app ?_ ha
          refine L_seq ?_
          refine L_region ?_
          refine F_val rfl rfl rfl (O_move rfl rfl) ?_
          refine F_val rfl rfl rfl (O_assign rfl rfl) ?_
          refine F_val rfl rfl rfl (O_assign rfl rfl) ?_
          refine F_nil ?_
          refine L_ret (fun a ha => (post_ret2 ha rfl rfl rfl ?_))
          obtain rfl := Option.some.inj H
          exact ⟨rfl, HS66.sel [] rfl⟩

/-! function 54: valise/valiseref3.below -/
theorem valiseref3_below.calls {S0 : Nat → Prop} {w0 : World} {v_0 : Int} {n_1 : Int} {r : Bool} (HS0 : Hp S0 w0 w0 []) (h : valiseref3_below.f v_0 n_1 = some r) :
    Calls Try.prog 54 ([.int .u32 v_0, .int .i64 n_1] : List Value).toArray w0 (fun e w => e = .returned (.bool r) ∧ Hp S0 w0 w []) := by
  have H : (gd (¬ (IntKind.u64.wrap n_1) < 0) (some (decide (IntKind.u64.wrap v_0 < shl .u64 1 (IntKind.u64.wrap n_1))))) = some r := h
  refine calls_start Try.func54 rfl rfl ?_
  refine L_seq ?_
  refine L_region ?_
  refine F_val rfl rfl rfl (O_assign rfl rfl) ?_
  refine F_nil ?_
  refine L_seq ?_
  refine L_region ?_
  refine F_val rfl rfl rfl (O_move rfl rfl) ?_
  refine F_val rfl rfl rfl (O_conv rfl rfl ⟨_, Try.underlying22⟩ Try.underlying87) ?_
  refine F_val rfl rfl rfl (O_move rfl rfl) ?_
  refine F_val rfl rfl rfl (O_conv rfl rfl ⟨_, Try.underlying3⟩ Try.underlying75) ?_
  obtain ⟨g1, H⟩ := of_gd H
  refine F_val rfl rfl rfl (O_shl rfl rfl rfl g1) ?_
  refine F_val rfl rfl rfl (O_lt rfl rfl rfl) ?_
  refine F_val rfl rfl rfl (O_assign rfl rfl) ?_
  refine F_nil ?_
  refine L_ret (fun a ha => (post_ret1 ha rfl rfl ?_))
  obtain rfl := Option.some.inj H
  exact ⟨rfl, HS0.sel [] rfl⟩

/-! function 55: valise/valiseref3.bit -/
theorem valiseref3_bit.calls {S0 : Nat → Prop} {w0 : World} {v_0 : Int} {i_1 : Int} {r : Int} (HS0 : Hp S0 w0 w0 []) (h : valiseref3_bit.f v_0 i_1 = some r) :
    Calls Try.prog 55 ([.int .u32 v_0, .int .i64 i_1] : List Value).toArray w0 (fun e w => e = .returned (.int .u8 r) ∧ Hp S0 w0 w []) := by
  have H : (gd (¬ (IntKind.u64.wrap i_1) < 0) (some (IntKind.u8.wrap (band .u32 (shr .u32 v_0 (IntKind.u64.wrap i_1)) 1)))) = some r := h
  refine calls_start Try.func55 rfl rfl ?_
  refine L_seq ?_
  refine L_region ?_
  refine F_val rfl rfl rfl (O_assign rfl rfl) ?_
  refine F_nil ?_
  refine L_seq ?_
  refine L_region ?_
  refine F_val rfl rfl rfl (O_move rfl rfl) ?_
  refine F_val rfl rfl rfl (O_move rfl rfl) ?_
  refine F_val rfl rfl rfl (O_conv rfl rfl ⟨_, Try.underlying3⟩ Try.underlying75) ?_
  obtain ⟨g1, H⟩ := of_gd H
  refine F_val rfl rfl rfl (O_shr rfl rfl rfl g1) ?_
  refine F_val rfl rfl rfl (O_and rfl rfl rfl) ?_
  refine F_val rfl rfl rfl (O_conv rfl rfl ⟨_, Try.underlying22⟩ Try.underlying5) ?_
  refine F_val rfl rfl rfl (O_assign rfl rfl) ?_
  refine F_nil ?_
  refine L_ret (fun a ha => (post_ret1 ha rfl rfl ?_))
  obtain rfl := Option.some.inj H
  exact ⟨rfl, HS0.sel [] rfl⟩

/-! function 16: valise/valiseref3.Reverse -/
theorem valiseref3_Reverse.calls {S0 : Nat → Prop} {w0 : World} {v_0 : Int} {n_1 : Int} {r : Int × Int} (HS0 : Hp S0 w0 w0 []) (h : valiseref3_Reverse.f v_0 n_1 = some r) :
    Calls Try.prog 16 ([.int .u32 v_0, .int .i64 n_1] : List Value).toArray w0 (fun e w => e = .returned (.tuple #[.int .u32 r.1, .int .i64 r.2]) ∧ Hp S0 w0 w []) := by
  have H : (if (n_1 < 0) ∨ (32 < n_1) then (some (0, 1)) else ((valiseref3_below.f v_0 n_1).bind fun z7 => if (!z7) = true then (some (0, 1)) else ((valiseref3_Reverse.l1 FU 0 0 v_0 n_1).bind fun out_62 => some (out_62, 0)))) = some r := h
  refine calls_start Try.func16 rfl rfl ?_
  refine L_seq ?_
  refine L_region ?_
  refine F_val rfl rfl rfl (O_assign rfl rfl) ?_
  refine F_val rfl rfl rfl (O_assign rfl rfl) ?_
  refine F_nil ?_
  refine L_seq ?_
  refine L_seq ?_
  refine L_region ?_
  refine F_val rfl rfl rfl (O_move rfl rfl) ?_
  refine F_val rfl rfl rfl (O_lt rfl rfl rfl) ?_
  refine F_val rfl rfl rfl (O_move rfl rfl) ?_
  refine F_grp 3 [(15, .bool (decide ((n_1 < 0) ∨ (32 < n_1)))), (0, .int .u32 v_0), (1, .int .i64 n_1)] ?_ ?_
  · rcases Decidable.em (n_1 < 0) with c1 | c1
    · refine F_know (i := 12) rfl (dec_t c1) ?_
      refine F_gskip rfl rfl rfl rfl rfl rfl rfl ?_
      refine F_gskip rfl rfl rfl rfl rfl rfl rfl ?_
      refine F_val rfl rfl rfl (O_pickT rfl rfl rfl) ?_
      refine F_know (i := 15) rfl (dec_or_t (q := 32 < n_1) c1) ?_
      exact F_grpE (fun a ha => Is.cons ha (Is.cons ha (Is.cons ha (Is.nil ha) rfl) rfl) rfl)
    · refine F_know (i := 12) rfl (dec_f c1) ?_
      refine F_gval rfl rfl rfl rfl rfl rfl (O_move rfl rfl) ?_
      refine F_gval rfl rfl rfl rfl rfl rfl (O_gt rfl rfl rfl) ?_
      refine F_val rfl rfl rfl (O_pickF rfl rfl rfl) ?_
      refine F_know (i := 15) rfl (dec_or_f (q := 32 < n_1) c1) ?_
      exact F_grpE (fun a ha => Is.cons ha (Is.cons ha (Is.cons ha (Is.nil ha) rfl) rfl) rfl)
  · skip
    refine F_nil ?_
    refine L_condP rfl (fun c2 => ?_) (fun c2 => ?_)
    · have H := of_pos H c2
      refine L_seq ?_
      refine L_region ?_
      refine F_val rfl rfl rfl (O_assign rfl rfl) ?_
      refine F_val rfl rfl rfl (O_assign rfl rfl) ?_
      refine F_nil ?_
      refine L_ret (fun a ha => (post_ret2 ha rfl rfl rfl ?_))
      obtain rfl := Option.some.inj H
      exact ⟨rfl, HS0.sel [] rfl⟩
    · have H := of_neg H c2
      refine L_skip ?_
      refine L_seq ?_
      refine L_region ?_
      refine F_val rfl rfl rfl (O_move rfl rfl) ?_
      refine F_val rfl rfl rfl (O_move rfl rfl) ?_
      obtain ⟨z7, h6, H⟩ := of_bind H
      refine F_call (xs := [.tmp 16, .tmp 17]) rfl rfl rfl rfl Try.func54 nm54 rfl rfl ((valiseref3_below.calls (HS0.give [] rfl (Lent.nil)) h6).mono (fun e w hc => ?_))
      obtain ⟨rfl, HSo⟩ := hc
      refine ⟨.bool z7, rfl, ?_⟩
      have HS9 : Hp S0 w0 w [] := (HS0.back [] HSo rfl).sel [] rfl
      refine F_val rfl rfl rfl (O_assign rfl rfl) ?_
      refine F_nil ?_
      refine L_seq ?_
      refine L_seq ?_
      refine L_region ?_
      refine F_val rfl rfl rfl (O_move rfl rfl) ?_
      refine F_val rfl rfl rfl (O_notb rfl rfl) ?_
      refine F_nil ?_
      refine L_cond rfl (fun c10 => ?_) (fun c10 => ?_)
      · have H := of_pos H c10
        refine L_seq ?_
        refine L_region ?_
        refine F_val rfl rfl rfl (O_assign rfl rfl) ?_
        refine F_val rfl rfl rfl (O_assign rfl rfl) ?_
        refine F_nil ?_
        refine L_ret (fun a ha => (post_ret2 ha rfl rfl rfl ?_))
        obtain rfl := Option.some.inj H
        exact ⟨rfl, HS9.sel [] rfl⟩
      · have H := of_neg H (by rw [c10]; exact Bool.false_ne_true)
        refine L_skip ?_
        refine L_seq ?_
        refine L_region ?_
        refine F_val rfl rfl rfl (O_assign rfl rfl) ?_
        refine F_nil ?_
        refine L_seq ?_
        refine L_seq ?_
        refine L_region ?_
        refine F_val rfl rfl rfl (O_assign rfl rfl) ?_
        refine F_nil ?_
        obtain ⟨yj11, Hyj11, H⟩ := of_bind H
        refine L_join (fun a w => ∃ (out_62 : Int), yj11 = out_62 ∧ Is Try.f16.ntmps a [(7, .int .u32 out_62)] ∧ Hp S0 w0 w []) (fun Qj11 hNj11 hOj11 => ?_) (fun a w hR => ?_)
        · skip
          have H := Hyj11
          refine L_blk (fun Qb63 hNb63 hXb63 hOb63 => ?_)
          refine L_lp (fun k a w => ∃ (out_95 : Int), ∃ (i_96 : Int), Is Try.f16.ntmps a [(0, .int .u32 v_0), (1, .int .i64 n_1), (7, .int .u32 out_95), (8, .int .i64 i_96)] ∧ Hp S0 w0 w [] ∧ valiseref3_Reverse.l1 k out_95 i_96 v_0 n_1 = some yj11) FU (fun a ha => ⟨_, _, Is.cons ha (Is.cons ha (Is.cons ha (Is.cons ha (Is.nil ha) rfl) rfl) rfl) rfl, HS9.sel [] rfl, H⟩) (fun kp94 a w97 hI Qp94 hNp94 hOp94 => ?_)
          obtain ⟨out_95, i_96, ha, HS98, HAp94⟩ := hI
          cases kp94 with
          | zero => cases (show (none : Option _) = some _ from HAp94)
          | succ kp94 =>
            have H := (valiseref3_Reverse.l1.eq_2 ..).symm.trans HAp94
            refine wpLF_app ?_ ha
            refine L_seq ?_
            refine L_seq ?_
            refine L_region ?_
            refine F_val rfl rfl rfl (O_move rfl rfl) ?_
            refine F_val rfl rfl rfl (O_move rfl rfl) ?_
            refine F_val rfl rfl rfl (O_lt rfl rfl rfl) ?_
            refine F_nil ?_
            refine L_condP rfl (fun c99 => ?_) (fun c99 => ?_)
            · have H := of_pos H c99
              refine L_skip ?_
              refine L_seq ?_
              refine L_blk (fun Q100 hN100 hX100 hO100 => ?_)
              refine L_seq ?_
              refine L_region ?_
              refine F_val rfl rfl rfl (O_move rfl rfl) ?_
              refine F_val rfl rfl rfl (O_move rfl rfl) ?_
              refine F_val rfl rfl rfl (O_sub rfl rfl rfl) ?_
              refine F_val rfl rfl rfl (O_move rfl rfl) ?_
              refine F_val rfl rfl rfl (O_sub rfl rfl rfl) ?_
              obtain ⟨z105, h104, H⟩ := of_bind H
              refine F_call (xs := [.tmp 26, .tmp 30]) rfl rfl rfl rfl Try.func55 nm55 rfl rfl ((valiseref3_bit.calls (HS98.give [] rfl (Lent.nil)) h104).mono (fun e w hc => ?_))
              obtain ⟨rfl, HSo⟩ := hc
              refine ⟨.int .u8 z105, rfl, ?_⟩
              have HS107 : Hp S0 w0 w [] := (HS98.back [] HSo rfl).sel [] rfl
              refine F_val rfl rfl rfl (O_assign rfl rfl) ?_
              refine F_nil ?_
              refine L_region ?_
              refine F_val rfl rfl rfl (O_move rfl rfl) ?_
              refine F_val rfl rfl rfl (O_move rfl rfl) ?_
              refine F_val rfl rfl rfl (O_conv rfl rfl ⟨_, Try.underlying5⟩ Try.underlying22) ?_
              refine F_val rfl rfl rfl (O_move rfl rfl) ?_
              refine F_val rfl rfl rfl (O_conv rfl rfl ⟨_, Try.underlying3⟩ Try.underlying75) ?_
              obtain ⟨g108, H⟩ := of_gd H
              refine F_val rfl rfl rfl (O_shl rfl rfl rfl g108) ?_
              refine F_val rfl rfl rfl (O_add rfl rfl rfl) ?_
              obtain ⟨x109, h110, H⟩ := of_bnd H
              refine F_val rfl rfl rfl (O_assign' rfl rfl (congrArg (Value.int .u32) h110)) ?_
              refine F_nil ?_
              refine L_endB hN100 ?_
              refine L_region ?_
              refine F_val rfl rfl rfl (O_move rfl rfl) ?_
              refine F_val rfl rfl rfl (O_add rfl rfl rfl) ?_
              obtain ⟨x111, h112, H⟩ := of_bnd H
              refine F_val rfl rfl rfl (O_assign' rfl rfl (congrArg (Value.int .i64) h112)) ?_
              refine F_nil ?_
              refine L_nil (fun a ha => hNp94 _ a _ (Nat.lt_succ_self _) ⟨_, _, Is.cons ha (Is.cons ha (Is.cons ha (Is.cons ha (Is.nil ha) rfl) rfl) rfl) rfl, HS107.sel [] rfl, H⟩)
            · have H := of_neg H c99
              refine L_exitB (fun a w h => hOp94 (.exit 0) a w rfl (hXb63 a w h)) ?_
              refine L_nil (fun a ha => hNj11 a _ ⟨_, (Option.some.inj H).symm, Is.cons ha (Is.nil ha) rfl, HS98.sel [] rfl⟩)
        · obtain ⟨out_62, rfl, ha, HS114⟩ := hR
          refine wpLF_app ?_ ha
          refine L_seq ?_
          refine L_region ?_
          refine F_val rfl rfl rfl (O_move rfl rfl) ?_
          refine F_val rfl rfl rfl (O_assign rfl rfl) ?_
          refine F_val rfl rfl rfl (O_assign rfl rfl) ?_
          refine F_nil ?_
          refine L_ret (fun a ha => (post_ret2 ha rfl rfl rfl ?_))
          obtain rfl := Option.some.inj H
          exact ⟨rfl, HS114.sel [] rfl⟩

/-! function 17: valise/valiselaw3.num -/
theorem valiselaw3_num.calls {S0 : Nat → Prop} {w0 : World} {e_0 : Int} {r : Int} (HS0 : Hp S0 w0 w0 []) (h : valiselaw3_num.f e_0 = some r) :
    Calls Try.prog 17 ([.int .i64 e_0] : List Value).toArray w0 (fun e w => e = .returned (.int .i64 r) ∧ Hp S0 w0 w []) := by
  have H : (some e_0) = some r := h
  refine calls_start Try.func17 rfl rfl ?_
  refine L_seq ?_
  refine L_region ?_
  refine F_val rfl rfl rfl (O_assign rfl rfl) ?_
  refine F_nil ?_
  refine L_seq ?_
  refine L_region ?_
  refine F_val rfl rfl rfl (O_move rfl rfl) ?_
  refine F_val rfl rfl rfl (O_assign rfl rfl) ?_
  refine F_nil ?_
  refine L_ret (fun a ha => (post_ret1 ha rfl rfl ?_))
  obtain rfl := Option.some.inj H
  exact ⟨rfl, HS0.sel [] rfl⟩

/-! function 3: valise/valiselaw3.BitsReverses -/
theorem valiselaw3_BitsReverses.calls {S0 : Nat → Prop} {w0 : World} {v_0 : Int} {n_1 : Int} {r : Bool} (HS0 : Hp S0 w0 w0 []) (h : valiselaw3_BitsReverses.f v_0 n_1 = some r) :
    Calls Try.prog 3 ([.int .u32 v_0, .int .i64 n_1] : List Value).toArray w0 (fun e w => e = .returned (.bool r) ∧ Hp S0 w0 w []) := by
  have H : ((bits_Reverse.f v_0 n_1).bind fun (z5, z6) => (valiseref3_Reverse.f v_0 n_1).bind fun (z13, z14) => if z5 = z13 then ((valiselaw3_num.f z6).bind fun z22 => some (decide (z22 = z14))) else (some false)) = some r := h
  refine calls_start Try.func3 rfl rfl ?_
  refine L_seq ?_
  refine L_region ?_
  refine F_val rfl rfl rfl (O_assign rfl rfl) ?_
  refine F_nil ?_
  refine L_seq ?_
  refine L_region ?_
  refine F_val rfl rfl rfl (O_move rfl rfl) ?_
  refine F_val rfl rfl rfl (O_move rfl rfl) ?_
  obtain ⟨⟨z5, z6⟩, h4, H⟩ := of_bind H
  refine F_call (xs := [.tmp 10, .tmp 11]) rfl rfl rfl rfl Try.func15 nm15 rfl rfl ((bits_Reverse.calls (HS0.give [] rfl (Lent.nil)) h4).mono (fun e w hc => ?_))
  obtain ⟨rfl, HSo⟩ := hc
  refine ⟨.tuple #[.int .u32 z5, .int .i64 z6], rfl, ?_⟩
  have HS8 : Hp S0 w0 w [] := (HS0.back [] HSo rfl).sel [] rfl
  refine F_val rfl rfl rfl (O_move rfl rfl) ?_
  refine F_val rfl rfl rfl (O_extract (v := .int .u32 z5) rfl rfl rfl) ?_
  refine F_val rfl rfl rfl (O_extract (v := .int .i64 z6) rfl rfl rfl) ?_
  refine F_val rfl rfl rfl (O_assign rfl rfl) ?_
  refine F_val rfl rfl rfl (O_assign rfl rfl) ?_
  refine F_nil ?_
  refine L_seq ?_
  refine L_region ?_
  refine F_val rfl rfl rfl (O_move rfl rfl) ?_
  refine F_val rfl rfl rfl (O_move rfl rfl) ?_
  obtain ⟨⟨z13, z14⟩, h12, H⟩ := of_bind H
  refine F_call (xs := [.tmp 16, .tmp 17]) rfl rfl rfl rfl Try.func16 nm16 rfl rfl ((valiseref3_Reverse.calls (HS8.give [] rfl (Lent.nil)) h12).mono (fun e w hc => ?_))
  obtain ⟨rfl, HSo⟩ := hc
  refine ⟨.tuple #[.int .u32 z13, .int .i64 z14], rfl, ?_⟩
  have HS16 : Hp S0 w0 w [] := (HS8.back [] HSo rfl).sel [] rfl
  refine F_val rfl rfl rfl (O_move rfl rfl) ?_
  refine F_val rfl rfl rfl (O_extract (v := .int .u32 z13) rfl rfl rfl) ?_
  refine F_val rfl rfl rfl (O_extract (v := .int .i64 z14) rfl rfl rfl) ?_
  refine F_val rfl rfl rfl (O_assign rfl rfl) ?_
  refine F_val rfl rfl rfl (O_assign rfl rfl) ?_
  refine F_nil ?_
  refine L_seq ?_
  refine L_region ?_
  refine F_val rfl rfl rfl (O_move rfl rfl) ?_
  refine F_val rfl rfl rfl (O_move rfl rfl) ?_
  refine F_val rfl rfl rfl (O_eq rfl rfl rfl) ?_
  refine F_val rfl rfl rfl (O_move rfl rfl) ?_
  rcases Decidable.em (z5 = z13) with c17 | c17
  · have H := of_pos H c17
    refine F_know (i := 24) rfl (dec_t c17) ?_
    refine F_gval rfl rfl rfl rfl rfl rfl (O_move rfl rfl) ?_
    obtain ⟨z22, h21, H⟩ := of_bind H
    refine F_gcall (xs := [.tmp 25]) rfl rfl rfl rfl rfl rfl rfl Try.func17 nm17 rfl rfl ((valiselaw3_num.calls (HS16.give [] rfl (Lent.nil)) h21).mono (fun e w hc => ?_))
    obtain ⟨rfl, HSo⟩ := hc
    refine ⟨.int .i64 z22, rfl, ?_⟩
    have HS24 : Hp S0 w0 w [] := (HS16.back [] HSo rfl).sel [] rfl
    refine F_gval rfl rfl rfl rfl rfl rfl (O_move rfl rfl) ?_
    refine F_gval rfl rfl rfl rfl rfl rfl (O_eq rfl rfl rfl) ?_
    refine F_val rfl rfl rfl (O_pickT rfl rfl rfl) ?_
    refine F_val rfl rfl rfl (O_assign rfl rfl) ?_
    refine F_nil ?_
    refine L_ret (fun a ha => (post_ret1 ha rfl rfl ?_))
    obtain rfl := Option.some.inj H
    exact ⟨rfl, HS24.sel [] rfl⟩
  · have H := of_neg H c17
    refine F_know (i := 24) rfl (dec_f c17) ?_
    refine F_gskip rfl rfl rfl rfl rfl rfl rfl ?_
    refine F_gskip rfl rfl rfl rfl rfl rfl rfl ?_
    refine F_gskip rfl rfl rfl rfl rfl rfl rfl ?_
    refine F_gskip rfl rfl rfl rfl rfl rfl rfl ?_
    refine F_val rfl rfl rfl (O_pickF rfl rfl rfl) ?_
    refine F_val rfl rfl rfl (O_assign rfl rfl) ?_
    refine F_nil ?_
    refine L_ret (fun a ha => (post_ret1 ha rfl rfl ?_))
    obtain rfl := Option.some.inj H
    exact ⟨rfl, HS16.sel [] rfl⟩

end Go.Proofs.Ytmbcoaiaeeckiaa
