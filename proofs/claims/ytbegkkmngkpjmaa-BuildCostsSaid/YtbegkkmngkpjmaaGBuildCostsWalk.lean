import Derived.Test.YtbegkkmngkpjmaaChecked
import Derived.Test.YtbegkkmngkpjmaaGBuildCostsPure
set_option linter.unusedVariables false
set_option linter.unusedSimpArgs false
set_option maxRecDepth 10000
namespace Go.Proofs.Ytbegkkmngkpjmaa
open Go Go.V Go.V.Pu
theorem mix : Try.prog.follows .mixedOrders = true := by kernel_rfl
theorem size3 : (Try.prog.info? 3).map (·.size) = some 1 := by kernel_rfl
theorem flat3 : Flat Try.prog 3 := Flat.of Try.underlying3 rfl
theorem info3 : (Try.prog.info? 3).map (fun i => (i.zero, i.size, i.bytes)) = some (some (.int .i64 0), 1, 8) := by kernel_rfl
theorem nm24 : (Try.f24.name == "runtime.NumGoroutine") = false := by kernel_rfl
theorem nm15 : (Try.f15.name == "runtime.NumGoroutine") = false := by kernel_rfl
theorem nm35 : (Try.f35.name == "runtime.NumGoroutine") = false := by kernel_rfl
theorem nm16 : (Try.f16.name == "runtime.NumGoroutine") = false := by kernel_rfl
theorem nm36 : (Try.f36.name == "runtime.NumGoroutine") = false := by kernel_rfl
theorem nm17 : (Try.f17.name == "runtime.NumGoroutine") = false := by kernel_rfl
theorem nm18 : (Try.f18.name == "runtime.NumGoroutine") = false := by kernel_rfl
theorem nm19 : (Try.f19.name == "runtime.NumGoroutine") = false := by kernel_rfl
/-! function 24: valise/valiselaw6.copied -/
theorem valiselaw6_copied.calls {S0 : Nat → Prop} {w0 : World} {A_a_0 : Option Addr} {c_a_0 : Nat} {l_a_0 : List Int} {r : List Int} (HS0 : Hp S0 w0 w0 [.rd A_a_0 (rowC (Eint .i64) l_a_0)]) (hc_a_0 : l_a_0.length ≤ c_a_0) (h : valiselaw6_copied.f l_a_0 = some r) :
    Calls Try.prog 24 ([.slice A_a_0 l_a_0.length c_a_0] : List Value).toArray w0 (fun e w => ∃ (A1 : Option Addr), ∃ (c1 : Nat), e = .returned (.slice A1 r.length c1) ∧ Hp S0 w0 w [.own A1 c1 (rowC (Eint .i64) r) 3 (Eint .i64).sz]) := by
  have H : (((valiselaw6_copied.l1 FU ([] : List Int) 0 l_a_0).bind fun l72 => some l72) : Option (List Int)) = some r := h
  refine calls_start Try.func24 rfl rfl ?_
  refine L_seq ?_
  refine L_region ?_
  refine F_val rfl rfl rfl (O_assign rfl rfl) ?_
  refine F_nil ?_
  refine L_seq ?_
  refine L_region ?_
  refine F_val rfl rfl rfl (O_assign rfl rfl) ?_
  have HS1 := HS0.addNil 3 (Eint .i64).sz
  have HS1 : Hp S0 w0 w0 [.rd A_a_0 (rowC (Eint .i64) l_a_0), .own none 0 (rowC (Eint .i64) ([] : List Int)) 3 (Eint .i64).sz] := HS1
  refine F_nil ?_
  refine L_seq ?_
  refine L_seq ?_
  refine L_region ?_
  refine F_val rfl rfl rfl (O_assign rfl rfl) ?_
  refine F_nil ?_
  obtain ⟨yj3, Hyj3, H⟩ := of_bind H
  refine L_join (fun a w => ∃ (l72 : List Int), ∃ (A70 : Option Addr), ∃ (c71 : Nat), yj3 = l72 ∧ Is Try.f24.ntmps a [(3, .slice A70 l72.length c71)] ∧ Hp S0 w0 w [.rd A_a_0 (rowC (Eint .i64) l_a_0), .own A70 c71 (rowC (Eint .i64) l72) 3 (Eint .i64).sz]) (fun Qj3 hNj3 hOj3 => ?_) (fun a w hR => ?_)
  · skip
    have H := Hyj3
    refine L_blk (fun Qb73 hNb73 hXb73 hOb73 => ?_)
    refine L_lp (fun k a w => ∃ (l117 : List Int), ∃ (i_118 : Int), ∃ (A115 : Option Addr), ∃ (c116 : Nat), Is Try.f24.ntmps a [(0, .slice A_a_0 l_a_0.length c_a_0), (3, .slice A115 l117.length c116), (4, .int .i64 i_118)] ∧ Hp S0 w0 w [.rd A_a_0 (rowC (Eint .i64) l_a_0), .own A115 c116 (rowC (Eint .i64) l117) 3 (Eint .i64).sz] ∧ valiselaw6_copied.l1 k l117 i_118 l_a_0 = some yj3) FU (fun a ha => ⟨_, _, _, _, Is.cons ha (Is.cons ha (Is.cons ha (Is.nil ha) rfl) rfl) rfl, HS1.sel [0, 1] rfl, H⟩) (fun kp114 a w119 hI Qp114 hNp114 hOp114 => ?_)
    obtain ⟨l117, i_118, A115, c116, ha, HS120, HAp114⟩ := hI
    cases kp114 with
    | zero => cases (show (none : Option _) = some _ from HAp114)
    | succ kp114 =>
      have H := (valiselaw6_copied.l1.eq_2 ..).symm.trans HAp114
      refine wpLF_app ?_ ha
      refine L_seq ?_
      refine L_seq ?_
      refine L_region ?_
      refine F_val rfl rfl rfl (O_move rfl rfl) ?_
      refine F_val rfl rfl rfl (O_move rfl rfl) ?_
      refine F_val rfl rfl rfl (O_len rfl rfl Try.underlying22) ?_
      refine F_val rfl rfl rfl (O_lt rfl rfl rfl) ?_
      refine F_nil ?_
      refine L_condP rfl (fun c121 => ?_) (fun c121 => ?_)
      · have H := of_pos H c121
        refine L_skip ?_
        refine L_seq ?_
        refine L_blk (fun Q122 hN122 hX122 hO122 => ?_)
        refine L_region ?_
        refine F_val rfl rfl rfl (O_move rfl rfl) ?_
        refine F_val rfl rfl rfl (O_move rfl rfl) ?_
        refine F_val rfl rfl rfl (O_move rfl rfl) ?_
        obtain ⟨⟨g123, g124⟩, H⟩ := of_gd H
        refine F_val rfl rfl rfl (O_idx rfl rfl rfl Try.underlying22 size3 g123 g124 (Cells.isA (HS120.cells_rd (i := 0) rfl) (rowC_ne (E := (Eint .i64)) g123 g124 (by decide)))) ?_
        refine F_val rfl rfl rfl (O_loadC rfl rfl flat3 (HS120.cells_rd (i := 0) rfl) (int_cell g123 g124)) ?_
        refine F_litE (E := (Eint .i64)) (e := 3) [(0, .int .i64 (rd l_a_0 i_118))] [rd l_a_0 i_118] rfl rfl rfl rfl rfl rfl rfl (by decide) (fun w => by kernel_rfl) HS120 (fun w125 A127 c128 HS126 => ?_)
        have HS126 : Hp S0 w0 w125 [.rd A_a_0 (rowC (Eint .i64) l_a_0), .own A115 c116 (rowC (Eint .i64) l117) 3 (Eint .i64).sz, .own A127 c128 (rowC (Eint .i64) [rd l_a_0 i_118]) 3 (Eint .i64).sz] := HS126
        obtain ⟨l132, h133, H⟩ := of_bnd H
        obtain ⟨g134, H⟩ := of_gd H
        refine F_appE (E := (Eint .i64)) (xs := l117) (ys := [rd l_a_0 i_118]) (i := 1) rfl rfl rfl rfl Try.underlying22 info3 rfl (by decide) (by decide) rfl rfl HS126 rfl (HS126.cells_own (i := 2) rfl) h133 g134 (fun w130 A135 c136 HS131 => ?_)
        have HS131 : Hp S0 w0 w130 [.rd A_a_0 (rowC (Eint .i64) l_a_0), .own A135 c136 (rowC (Eint .i64) l132) 3 (Eint .i64).sz, .own A127 c128 (rowC (Eint .i64) [rd l_a_0 i_118]) 3 (Eint .i64).sz] := HS131
        refine F_val rfl rfl rfl (O_assign rfl rfl) ?_
        refine F_nil ?_
        refine L_endB hN122 ?_
        refine L_region ?_
        refine F_val rfl rfl rfl (O_move rfl rfl) ?_
        refine F_val rfl rfl rfl (O_add rfl rfl rfl) ?_
        obtain ⟨x137, h138, H⟩ := of_bnd H
        refine F_val rfl rfl rfl (O_assign' rfl rfl (congrArg (Value.int .i64) h138)) ?_
        refine F_nil ?_
        refine L_nil (fun a ha => hNp114 _ a _ (Nat.lt_succ_self _) ⟨_, _, _, _, Is.cons ha (Is.cons ha (Is.cons ha (Is.nil ha) rfl) rfl) rfl, HS131.sel [0, 1] rfl, H⟩)
      · have H := of_neg H c121
        refine L_exitB (fun a w h => hOp114 (.exit 0) a w rfl (hXb73 a w h)) ?_
        refine L_nil (fun a ha => hNj3 a _ ⟨_, _, _, (Option.some.inj H).symm, Is.cons ha (Is.nil ha) rfl, HS120.sel [0, 1] rfl⟩)
  · obtain ⟨l72, A70, c71, ej, ha, HS140⟩ := hR
    obtain rfl := ej.symm
    refine wpLF_app ?_ ha
    refine L_seq ?_
    refine L_region ?_
    refine F_val rfl rfl rfl (O_move rfl rfl) ?_
    refine F_val rfl rfl rfl (O_assign rfl rfl) ?_
    refine F_nil ?_
    refine L_ret (fun a ha => (post_ret1 ha rfl rfl ?_))
    obtain rfl := Option.some.inj H
    exact ⟨_, _, rfl, HS140.sel [1] rfl⟩

/-! function 15: valise/valiselaw6.lent -/
theorem valiselaw6_lent.calls {S0 : Nat → Prop} {w0 : World} {A_a_0 : Option Addr} {c_a_0 : Nat} {l_a_0 : List Int} {r : (List Int × Nat)} (HS0 : Hp S0 w0 w0 [.rd A_a_0 (rowC (Eint .i64) l_a_0)]) (hc_a_0 : l_a_0.length ≤ c_a_0) (h : valiselaw6_lent.f l_a_0 = some r) :
    Calls Try.prog 15 ([.slice A_a_0 l_a_0.length c_a_0] : List Value).toArray w0 (fun e w => ∃ (A1 : Option Addr), ∃ (c1 : Nat), e = .returned (.slice A1 (r.1.take r.2).length c1) ∧ Hp S0 w0 w [.own A1 c1 (rowC (Eint .i64) r.1) 3 (Eint .i64).sz]) := by
  have H : (((valiselaw6_copied.f l_a_0).bind fun z5 => (valiselaw6_lent.l1 FU z5 0 ).bind fun l74 => gd ((0 : Int) ≤ (l_a_0.length : Int) ∧ (l_a_0.length : Int) ≤ (l74.length : Int)) (some (l74, ((l_a_0.length : Int) : Int).toNat))) : Option ((List Int × Nat))) = some r := h
  refine calls_start Try.func15 rfl rfl ?_
  refine L_seq ?_
  refine L_region ?_
  refine F_val rfl rfl rfl (O_assign rfl rfl) ?_
  refine F_nil ?_
  refine L_seq ?_
  refine L_region ?_
  refine F_val rfl rfl rfl (O_move rfl rfl) ?_
  obtain ⟨z5, h4, H⟩ := of_bind H
  refine F_call (xs := [.tmp 5]) rfl rfl rfl rfl Try.func24 nm24 rfl rfl ((valiselaw6_copied.calls (HS0.give [] rfl (Lent.rd HS0 (Lent.nil) (i := 0) rfl ((HS0.cells_rd (i := 0) rfl).self))) hc_a_0 h4).mono (fun e w hc => ?_))
  obtain ⟨A8, c9, rfl, HSo⟩ := hc
  refine ⟨.slice A8 z5.length c9, rfl, ?_⟩
  have HS7 : Hp S0 w0 w [.rd A_a_0 (rowC (Eint .i64) l_a_0), .own A8 c9 (rowC (Eint .i64) z5) 3 (Eint .i64).sz] := (HS0.back [] HSo rfl).sel [0, 1] rfl
  refine F_val rfl rfl rfl (O_assign rfl rfl) ?_
  refine F_nil ?_
  refine L_seq ?_
  refine L_seq ?_
  refine L_region ?_
  refine F_val rfl rfl rfl (O_assign rfl rfl) ?_
  refine F_nil ?_
  obtain ⟨yj11, Hyj11, H⟩ := of_bind H
  refine L_join (fun a w => ∃ (l74 : List Int), ∃ (A72 : Option Addr), ∃ (c73 : Nat), yj11 = l74 ∧ Is Try.f15.ntmps a [(0, .slice A_a_0 l_a_0.length c_a_0), (3, .slice A72 l74.length c73)] ∧ Hp S0 w0 w [.rd A_a_0 (rowC (Eint .i64) l_a_0), .own A72 c73 (rowC (Eint .i64) l74) 3 (Eint .i64).sz]) (fun Qj11 hNj11 hOj11 => ?_) (fun a w hR => ?_)
  · skip
    have H := Hyj11
    refine L_blk (fun Qb75 hNb75 hXb75 hOb75 => ?_)
    refine L_lp (fun k a w => ∃ (l115 : List Int), ∃ (i_116 : Int), ∃ (A113 : Option Addr), ∃ (c114 : Nat), Is Try.f15.ntmps a [(0, .slice A_a_0 l_a_0.length c_a_0), (3, .slice A113 l115.length c114), (4, .int .i64 i_116)] ∧ Hp S0 w0 w [.rd A_a_0 (rowC (Eint .i64) l_a_0), .own A113 c114 (rowC (Eint .i64) l115) 3 (Eint .i64).sz] ∧ valiselaw6_lent.l1 k l115 i_116  = some yj11) FU (fun a ha => ⟨_, _, _, _, Is.cons ha (Is.cons ha (Is.cons ha (Is.nil ha) rfl) rfl) rfl, HS7.sel [0, 1] rfl, H⟩) (fun kp112 a w117 hI Qp112 hNp112 hOp112 => ?_)
    obtain ⟨l115, i_116, A113, c114, ha, HS118, HAp112⟩ := hI
    cases kp112 with
    | zero => cases (show (none : Option _) = some _ from HAp112)
    | succ kp112 =>
      have H := (valiselaw6_lent.l1.eq_2 ..).symm.trans HAp112
      refine wpLF_app ?_ ha
      refine L_seq ?_
      refine L_seq ?_
      refine L_region ?_
      refine F_val rfl rfl rfl (O_move rfl rfl) ?_
      refine F_val rfl rfl rfl (O_lt rfl rfl rfl) ?_
      refine F_nil ?_
      refine L_condP rfl (fun c119 => ?_) (fun c119 => ?_)
      · have H := of_pos H c119
        refine L_skip ?_
        refine L_seq ?_
        refine L_blk (fun Q120 hN120 hX120 hO120 => ?_)
        refine L_region ?_
        refine F_val rfl rfl rfl (O_move rfl rfl) ?_
        refine F_litE (E := (Eint .i64)) (e := 3) [(0, .int .i64 (-77))] [(-77)] rfl rfl rfl rfl rfl rfl rfl (by decide) (fun w => by kernel_rfl) HS118 (fun w121 A123 c124 HS122 => ?_)
        have HS122 : Hp S0 w0 w121 [.rd A_a_0 (rowC (Eint .i64) l_a_0), .own A113 c114 (rowC (Eint .i64) l115) 3 (Eint .i64).sz, .own A123 c124 (rowC (Eint .i64) [(-77)]) 3 (Eint .i64).sz] := HS122
        obtain ⟨l128, h129, H⟩ := of_bnd H
        obtain ⟨g130, H⟩ := of_gd H
        refine F_appE (E := (Eint .i64)) (xs := l115) (ys := [(-77)]) (i := 1) rfl rfl rfl rfl Try.underlying22 info3 rfl (by decide) (by decide) rfl rfl HS122 rfl (HS122.cells_own (i := 2) rfl) h129 g130 (fun w126 A131 c132 HS127 => ?_)
        have HS127 : Hp S0 w0 w126 [.rd A_a_0 (rowC (Eint .i64) l_a_0), .own A131 c132 (rowC (Eint .i64) l128) 3 (Eint .i64).sz, .own A123 c124 (rowC (Eint .i64) [(-77)]) 3 (Eint .i64).sz] := HS127
        refine F_val rfl rfl rfl (O_assign rfl rfl) ?_
        refine F_nil ?_
        refine L_endB hN120 ?_
        refine L_region ?_
        refine F_val rfl rfl rfl (O_move rfl rfl) ?_
        refine F_val rfl rfl rfl (O_add rfl rfl rfl) ?_
        obtain ⟨x133, h134, H⟩ := of_bnd H
        refine F_val rfl rfl rfl (O_assign' rfl rfl (congrArg (Value.int .i64) h134)) ?_
        refine F_nil ?_
        refine L_nil (fun a ha => hNp112 _ a _ (Nat.lt_succ_self _) ⟨_, _, _, _, Is.cons ha (Is.cons ha (Is.cons ha (Is.nil ha) rfl) rfl) rfl, HS127.sel [0, 1] rfl, H⟩)
      · have H := of_neg H c119
        refine L_exitB (fun a w h => hOp112 (.exit 0) a w rfl (hXb75 a w h)) ?_
        refine L_nil (fun a ha => hNj11 a _ ⟨_, _, _, (Option.some.inj H).symm, Is.cons ha (Is.cons ha (Is.nil ha) rfl) rfl, HS118.sel [0, 1] rfl⟩)
  · obtain ⟨l74, A72, c73, ej, ha, HS136⟩ := hR
    obtain rfl := ej.symm
    refine wpLF_app ?_ ha
    refine L_seq ?_
    refine L_region ?_
    refine F_val rfl rfl rfl (O_move rfl rfl) ?_
    refine F_val rfl rfl rfl (O_move rfl rfl) ?_
    refine F_val rfl rfl rfl (O_len rfl rfl Try.underlying22) ?_
    obtain ⟨⟨g137, g138⟩, H⟩ := of_gd H
    refine F_val rfl rfl rfl (O_toE l74 rfl rfl rfl Try.underlying22 size3 g137 g138 (HS136.own_capE (i := 1) rfl (by decide))) ?_
    refine F_val rfl rfl rfl (O_assign rfl rfl) ?_
    refine F_nil ?_
    refine L_ret (fun a ha => (post_ret1 ha rfl rfl ?_))
    obtain rfl := Option.some.inj H
    exact ⟨_, _, rfl, HS136.sel [1] rfl⟩

/-! function 35: valise/build.used -/
theorem build_used.calls {S0 : Nat → Prop} {w0 : World} {A_freq_0 : Option Addr} {c_freq_0 : Nat} {l_freq_0 : List Int} {r : List Int × Int} (HS0 : Hp S0 w0 w0 [.rd A_freq_0 (rowC (Eint .i64) l_freq_0)]) (hc_freq_0 : l_freq_0.length ≤ c_freq_0) (h : build_used.f l_freq_0 = some r) :
    Calls Try.prog 35 ([.slice A_freq_0 l_freq_0.length c_freq_0] : List Value).toArray w0 (fun e w => ∃ (A1 : Option Addr), ∃ (c1 : Nat), e = .returned (.tuple #[.slice A1 r.1.length c1, .int .i64 r.2]) ∧ Hp S0 w0 w [.own A1 c1 (rowC (Eint .i64) r.1) 3 (Eint .i64).sz]) := by
  have H : ((if 288 < (l_freq_0.length : Int) then (some (([] : List Int), 1)) else ((build_used.l1 FU ([] : List Int) 0 l_freq_0).bind fun (yj6 : Sum (List Int × Int) (List Int)) => onR yj6 (fun r => some r) fun l147 => some (l147, 0))) : Option (List Int × Int)) = some r := h
  refine calls_start Try.func35 rfl rfl ?_
  refine L_seq ?_
  refine L_region ?_
  refine F_val rfl rfl rfl (O_assign rfl rfl) ?_
  refine F_val rfl rfl rfl (O_assign rfl rfl) ?_
  refine F_nil ?_
  refine L_seq ?_
  refine L_seq ?_
  refine L_region ?_
  refine F_val rfl rfl rfl (O_move rfl rfl) ?_
  refine F_val rfl rfl rfl (O_len rfl rfl Try.underlying22) ?_
  refine F_val rfl rfl rfl (O_gt rfl rfl rfl) ?_
  refine F_nil ?_
  refine L_condP rfl (fun c1 => ?_) (fun c1 => ?_)
  · have H := of_pos H c1
    refine L_seq ?_
    refine L_region ?_
    refine F_val rfl rfl rfl (O_assign rfl rfl) ?_
    refine F_val rfl rfl rfl (O_assign rfl rfl) ?_
    refine F_nil ?_
    have HS2 := HS0.addNil 3 (Eint .i64).sz
    refine L_ret (fun a ha => (post_ret2 ha rfl rfl rfl ?_))
    obtain rfl := Option.some.inj H
    exact ⟨_, _, rfl, HS2.sel [1] rfl⟩
  · have H := of_neg H c1
    refine L_skip ?_
    refine L_seq ?_
    refine L_region ?_
    refine F_val rfl rfl rfl (O_assign rfl rfl) ?_
    have HS4 := HS0.addNil 3 (Eint .i64).sz
    have HS4 : Hp S0 w0 w0 [.rd A_freq_0 (rowC (Eint .i64) l_freq_0), .own none 0 (rowC (Eint .i64) ([] : List Int)) 3 (Eint .i64).sz] := HS4
    refine F_nil ?_
    refine L_seq ?_
    refine L_seq ?_
    refine L_region ?_
    refine F_val rfl rfl rfl (O_move rfl rfl) ?_
    refine F_val rfl rfl rfl (O_len rfl rfl Try.underlying22) ?_
    refine F_val rfl rfl rfl (O_move rfl rfl) ?_
    refine F_nil ?_
    obtain ⟨yj6, Hyj6, H⟩ := of_bind H
    refine L_join (fun a w => ∃ (l147 : List Int), ∃ (A145 : Option Addr), ∃ (c146 : Nat), yj6 = Sum.inr l147 ∧ Is Try.f35.ntmps a [(4, .slice A145 l147.length c146)] ∧ Hp S0 w0 w [.rd A_freq_0 (rowC (Eint .i64) l_freq_0), .own A145 c146 (rowC (Eint .i64) l147) 3 (Eint .i64).sz]) (fun Qj6 hNj6 hOj6 => ?_) (fun a w hR => ?_)
    · have HOj6 := H
      have H := Hyj6
      refine L_blk (fun Qb148 hNb148 hXb148 hOb148 => ?_)
      refine L_lp (fun k a w => ∃ (l240 : List Int), ∃ (t241 : Int), ∃ (A238 : Option Addr), ∃ (c239 : Nat), Is Try.f35.ntmps a [(4, .slice A238 l240.length c239), (10, .slice A_freq_0 l_freq_0.length c_freq_0), (11, .int .i64 (l_freq_0.length : Int)), (12, .int .i64 t241)] ∧ Hp S0 w0 w [.rd A_freq_0 (rowC (Eint .i64) l_freq_0), .own A238 c239 (rowC (Eint .i64) l240) 3 (Eint .i64).sz] ∧ build_used.l1 k l240 t241 l_freq_0 = some yj6) FU (fun a ha => ⟨_, _, _, _, Is.cons ha (Is.cons ha (Is.cons ha (Is.cons ha (Is.nil ha) rfl) rfl) rfl) rfl, HS4.sel [0, 1] rfl, H⟩) (fun kp237 a w242 hI Qp237 hNp237 hOp237 => ?_)
      obtain ⟨l240, t241, A238, c239, ha, HS243, HAp237⟩ := hI
      cases kp237 with
      | zero => cases (show (none : Option _) = some _ from HAp237)
      | succ kp237 =>
        have H := (build_used.l1.eq_2 ..).symm.trans HAp237
        refine wpLF_app ?_ ha
        refine L_seq ?_
        refine L_region ?_
        refine F_val rfl rfl rfl (O_lt rfl rfl rfl) ?_
        refine F_nil ?_
        refine L_seq ?_
        refine L_condP rfl (fun c244 => ?_) (fun c244 => ?_)
        · have H := of_pos H c244
          refine L_skip ?_
          refine L_seq ?_
          refine L_blk (fun Q245 hN245 hX245 hO245 => ?_)
          refine L_seq ?_
          refine L_region ?_
          refine F_val rfl rfl rfl (O_move rfl rfl) ?_
          obtain ⟨⟨g246, g247⟩, H⟩ := of_gd H
          refine F_val rfl rfl rfl (O_idx rfl rfl rfl Try.underlying22 size3 g246 g247 (Cells.isA (HS243.cells_rd (i := 0) rfl) (rowC_ne (E := (Eint .i64)) g246 g247 (by decide)))) ?_
          refine F_val rfl rfl rfl (O_loadC rfl rfl flat3 (HS243.cells_rd (i := 0) rfl) (int_cell g246 g247)) ?_
          refine F_val rfl rfl rfl (O_assign rfl rfl) ?_
          obtain ⟨x248, h249, H⟩ := of_bnd H
          refine F_val rfl rfl rfl (O_assign' rfl rfl (congrArg (Value.int .i64) h249)) ?_
          refine F_nil ?_
          refine L_seq ?_
          refine L_seq ?_
          refine L_region ?_
          refine F_val rfl rfl rfl (O_move rfl rfl) ?_
          refine F_val rfl rfl rfl (O_lt rfl rfl rfl) ?_
          refine F_val rfl rfl rfl (O_move rfl rfl) ?_
          refine F_grp 3 [(22, .bool (decide ((x248 < 0) ∨ (4294967296 < x248)))), (4, .slice A238 l240.length c239), (5, .int .i64 t241), (6, .int .i64 x248), (10, .slice A_freq_0 l_freq_0.length c_freq_0), (11, .int .i64 (l_freq_0.length : Int)), (12, .int .i64 t241)] ?_ ?_
          · rcases Decidable.em (x248 < 0) with c250 | c250
            · refine F_know (i := 19) rfl (dec_t c250) ?_
              refine F_gskip rfl rfl rfl rfl rfl rfl rfl ?_
              refine F_gskip rfl rfl rfl rfl rfl rfl rfl ?_
              refine F_val rfl rfl rfl (O_pickT rfl rfl rfl) ?_
              refine F_know (i := 22) rfl (dec_or_t (q := 4294967296 < x248) c250) ?_
              exact F_grpE (fun a ha => Is.cons ha (Is.cons ha (Is.cons ha (Is.cons ha (Is.cons ha (Is.cons ha (Is.cons ha (Is.nil ha) rfl) rfl) rfl) rfl) rfl) rfl) rfl)
            · refine F_know (i := 19) rfl (dec_f c250) ?_
              refine F_gval rfl rfl rfl rfl rfl rfl (O_move rfl rfl) ?_
              refine F_gval rfl rfl rfl rfl rfl rfl (O_gt rfl rfl rfl) ?_
              refine F_val rfl rfl rfl (O_pickF rfl rfl rfl) ?_
              refine F_know (i := 22) rfl (dec_or_f (q := 4294967296 < x248) c250) ?_
              exact F_grpE (fun a ha => Is.cons ha (Is.cons ha (Is.cons ha (Is.cons ha (Is.cons ha (Is.cons ha (Is.cons ha (Is.nil ha) rfl) rfl) rfl) rfl) rfl) rfl) rfl)
          · skip
            refine F_nil ?_
            refine L_condP rfl (fun c251 => ?_) (fun c251 => ?_)
            · have H := of_pos H c251
              refine L_seq ?_
              refine L_region ?_
              refine F_val rfl rfl rfl (O_assign rfl rfl) ?_
              refine F_val rfl rfl rfl (O_assign rfl rfl) ?_
              refine F_nil ?_
              have HS252 := HS243.addNil 3 (Eint .i64).sz
              refine L_ret (fun a ha => (hO245 .ret a _ rfl (hOp237 .ret a _ rfl (hOb148 .ret a _ rfl (hOj6 .ret a _ rfl (post_ret2 ha rfl rfl rfl ?_))))))
              obtain rfl := Option.some.inj H
              obtain rfl := Option.some.inj (show (some (([] : List Int), 61) : Option (List Int × Int)) = some _ from HOj6)
              exact ⟨_, _, rfl, HS252.sel [2] rfl⟩
            · have H := of_neg H c251
              refine L_skip ?_
              refine L_seq ?_
              refine L_region ?_
              refine F_val rfl rfl rfl (O_move rfl rfl) ?_
              refine F_val rfl rfl rfl (O_gt rfl rfl rfl) ?_
              refine F_nil ?_
              obtain ⟨yj254, Hyj254, H⟩ := of_bind H
              refine L_join (fun a w => ∃ (l270 : List Int), ∃ (A268 : Option Addr), ∃ (c269 : Nat), yj254 = l270 ∧ Is Try.f35.ntmps a [(4, .slice A268 l270.length c269), (10, .slice A_freq_0 l_freq_0.length c_freq_0), (11, .int .i64 (l_freq_0.length : Int)), (12, .int .i64 t241)] ∧ Hp S0 w0 w [.rd A_freq_0 (rowC (Eint .i64) l_freq_0), .own A268 c269 (rowC (Eint .i64) l270) 3 (Eint .i64).sz]) (fun Qj254 hNj254 hOj254 => ?_) (fun a w hR => ?_)
              · skip
                have H := Hyj254
                refine L_condP rfl (fun c271 => ?_) (fun c271 => ?_)
                · have H := of_pos H c271
                  refine L_region ?_
                  refine F_val rfl rfl rfl (O_move rfl rfl) ?_
                  refine F_val rfl rfl rfl (O_move rfl rfl) ?_
                  refine F_litE (E := (Eint .i64)) (e := 3) [(0, .int .i64 t241)] [t241] rfl rfl rfl rfl rfl rfl rfl (by decide) (fun w => by kernel_rfl) HS243 (fun w272 A274 c275 HS273 => ?_)
                  have HS273 : Hp S0 w0 w272 [.rd A_freq_0 (rowC (Eint .i64) l_freq_0), .own A238 c239 (rowC (Eint .i64) l240) 3 (Eint .i64).sz, .own A274 c275 (rowC (Eint .i64) [t241]) 3 (Eint .i64).sz] := HS273
                  obtain ⟨l279, h280, H⟩ := of_bnd H
                  obtain ⟨g281, H⟩ := of_gd H
                  refine F_appE (E := (Eint .i64)) (xs := l240) (ys := [t241]) (i := 1) rfl rfl rfl rfl Try.underlying22 info3 rfl (by decide) (by decide) rfl rfl HS273 rfl (HS273.cells_own (i := 2) rfl) h280 g281 (fun w277 A282 c283 HS278 => ?_)
                  have HS278 : Hp S0 w0 w277 [.rd A_freq_0 (rowC (Eint .i64) l_freq_0), .own A282 c283 (rowC (Eint .i64) l279) 3 (Eint .i64).sz, .own A274 c275 (rowC (Eint .i64) [t241]) 3 (Eint .i64).sz] := HS278
                  refine F_val rfl rfl rfl (O_assign rfl rfl) ?_
                  refine F_nil ?_
                  refine L_nil (fun a ha => hNj254 a _ ⟨_, _, _, (Option.some.inj H).symm, Is.cons ha (Is.cons ha (Is.cons ha (Is.cons ha (Is.nil ha) rfl) rfl) rfl) rfl, HS278.sel [0, 1] rfl⟩)
                · have H := of_neg H c271
                  refine L_skip ?_
                  refine L_nil (fun a ha => hNj254 a _ ⟨_, _, _, (Option.some.inj H).symm, Is.cons ha (Is.cons ha (Is.cons ha (Is.cons ha (Is.nil ha) rfl) rfl) rfl) rfl, HS243.sel [0, 1] rfl⟩)
              · obtain ⟨l270, A268, c269, ej, ha, HS285⟩ := hR
                obtain rfl := ej.symm
                refine wpLF_app ?_ ha
                refine L_endB hN245 ?_
                refine L_region ?_
                refine F_val rfl rfl rfl (O_add rfl rfl rfl) ?_
                refine F_val rfl rfl rfl (O_move rfl rfl) ?_
                refine F_nil ?_
                refine L_nil (fun a ha => hNp237 _ a _ (Nat.lt_succ_self _) ⟨_, _, _, _, Is.cons ha (Is.cons ha (Is.cons ha (Is.cons ha (Is.nil ha) rfl) rfl) rfl) rfl, HS285.sel [0, 1] rfl, H⟩)
        · have H := of_neg H c244
          refine L_exitB (fun a w h => hOp237 (.exit 0) a w rfl (hXb148 a w h)) ?_
          refine L_nil (fun a ha => hNj6 a _ ⟨_, _, _, (Option.some.inj H).symm, Is.cons ha (Is.nil ha) rfl, HS243.sel [0, 1] rfl⟩)
    · obtain ⟨l147, A145, c146, rfl, ha, HS287⟩ := hR
      refine wpLF_app ?_ ha
      have H := (onR_inr _ _ _).symm.trans H
      refine L_seq ?_
      refine L_region ?_
      refine F_val rfl rfl rfl (O_move rfl rfl) ?_
      refine F_val rfl rfl rfl (O_assign rfl rfl) ?_
      refine F_val rfl rfl rfl (O_assign rfl rfl) ?_
      refine F_nil ?_
      refine L_ret (fun a ha => (post_ret2 ha rfl rfl rfl ?_))
      obtain rfl := Option.some.inj H
      exact ⟨_, _, rfl, HS287.sel [1] rfl⟩

/-! function 16: valise/build.Cost -/
theorem build_Cost.calls {S0 : Nat → Prop} {w0 : World} {A_freq_0 : Option Addr} {c_freq_0 : Nat} {A_lens_1 : Option Addr} {c_lens_1 : Nat} {l_freq_0 : List Int} {l_lens_1 : List Int} {r : Int × Int} (HS0 : Hp S0 w0 w0 [.rd A_freq_0 (rowC (Eint .i64) l_freq_0), .rd A_lens_1 (rowC (Eint .i64) l_lens_1)]) (hc_freq_0 : l_freq_0.length ≤ c_freq_0) (hc_lens_1 : l_lens_1.length ≤ c_lens_1) (h : build_Cost.f l_freq_0 l_lens_1 = some r) :
    Calls Try.prog 16 ([.slice A_freq_0 l_freq_0.length c_freq_0, .slice A_lens_1 l_lens_1.length c_lens_1] : List Value).toArray w0 (fun e w => e = .returned (.tuple #[.int .i64 r.1, .int .i64 r.2]) ∧ Hp S0 w0 w []) := by
  have H : ((if (288 < (l_freq_0.length : Int)) ∨ ((l_lens_1.length : Int) ≠ (l_freq_0.length : Int)) then (some (0, 1)) else ((build_Cost.l1 FU 0 l_lens_1).bind fun (yj3 : Sum (Int × Int) (Unit)) => onR yj3 (fun r => some r) fun () => (build_used.f l_freq_0).bind fun (z70, z71) => if z71 ≠ 0 then (some (0, z71)) else ((build_Cost.l3 FU 0 0 l_freq_0 l_lens_1).bind fun sum_117 => some (sum_117, 0)))) : Option (Int × Int)) = some r := h
  refine calls_start Try.func16 rfl rfl ?_
  refine L_seq ?_
  refine L_region ?_
  refine F_val rfl rfl rfl (O_assign rfl rfl) ?_
  refine F_val rfl rfl rfl (O_assign rfl rfl) ?_
  refine F_nil ?_
  refine L_seq ?_
  refine L_seq ?_
  refine L_region ?_
  refine F_val rfl rfl rfl (O_move rfl rfl) ?_
  refine F_val rfl rfl rfl (O_len rfl rfl Try.underlying22) ?_
  refine F_val rfl rfl rfl (O_gt rfl rfl rfl) ?_
  refine F_val rfl rfl rfl (O_move rfl rfl) ?_
  refine F_grp 6 [(22, .bool (decide ((288 < (l_freq_0.length : Int)) ∨ ((l_lens_1.length : Int) ≠ (l_freq_0.length : Int))))), (0, .slice A_freq_0 l_freq_0.length c_freq_0), (1, .slice A_lens_1 l_lens_1.length c_lens_1)] ?_ ?_
  · rcases Decidable.em (288 < (l_freq_0.length : Int)) with c1 | c1
    · refine F_know (i := 16) rfl (dec_t c1) ?_
      refine F_gskip rfl rfl rfl rfl rfl rfl rfl ?_
      refine F_gskip rfl rfl rfl rfl rfl rfl rfl ?_
      refine F_gskip rfl rfl rfl rfl rfl rfl rfl ?_
      refine F_gskip rfl rfl rfl rfl rfl rfl rfl ?_
      refine F_gskip rfl rfl rfl rfl rfl rfl rfl ?_
      refine F_val rfl rfl rfl (O_pickT rfl rfl rfl) ?_
      refine F_know (i := 22) rfl (dec_or_t (q := (l_lens_1.length : Int) ≠ (l_freq_0.length : Int)) c1) ?_
      exact F_grpE (fun a ha => Is.cons ha (Is.cons ha (Is.cons ha (Is.nil ha) rfl) rfl) rfl)
    · refine F_know (i := 16) rfl (dec_f c1) ?_
      refine F_gval rfl rfl rfl rfl rfl rfl (O_move rfl rfl) ?_
      refine F_gval rfl rfl rfl rfl rfl rfl (O_len rfl rfl Try.underlying22) ?_
      refine F_gval rfl rfl rfl rfl rfl rfl (O_move rfl rfl) ?_
      refine F_gval rfl rfl rfl rfl rfl rfl (O_len rfl rfl Try.underlying22) ?_
      refine F_gval rfl rfl rfl rfl rfl rfl (O_ne rfl rfl rfl) ?_
      refine F_val rfl rfl rfl (O_pickF rfl rfl rfl) ?_
      refine F_know (i := 22) rfl (dec_or_f (q := (l_lens_1.length : Int) ≠ (l_freq_0.length : Int)) c1) ?_
      exact F_grpE (fun a ha => Is.cons ha (Is.cons ha (Is.cons ha (Is.nil ha) rfl) rfl) rfl)
  · skip
    refine F_nil ?_
    refine L_condP rfl (fun c2 => ?_) (fun c2 => ?_)
    · have H := of_pos H c2
      refine L_seq ?_
      refine L_region ?_
      refine F_val rfl rfl rfl (O_assign rfl rfl) ?_
      refine F_val rfl rfl rfl (O_assign rfl rfl) ?_
      refine F_nil ?_
      refine L_ret (fun a ha => (post_ret2 ha rfl rfl rfl ?_))
      obtain rfl := Option.some.inj H
      exact ⟨rfl, HS0.sel [] rfl⟩
    · have H := of_neg H c2
      refine L_skip ?_
      refine L_seq ?_
      refine L_seq ?_
      refine L_region ?_
      refine F_val rfl rfl rfl (O_move rfl rfl) ?_
      refine F_val rfl rfl rfl (O_len rfl rfl Try.underlying22) ?_
      refine F_val rfl rfl rfl (O_move rfl rfl) ?_
      refine F_nil ?_
      obtain ⟨yj3, Hyj3, H⟩ := of_bind H
      refine L_join (fun a w => yj3 = Sum.inr () ∧ Is Try.f16.ntmps a [(0, .slice A_freq_0 l_freq_0.length c_freq_0), (1, .slice A_lens_1 l_lens_1.length c_lens_1)] ∧ Hp S0 w0 w [.rd A_freq_0 (rowC (Eint .i64) l_freq_0), .rd A_lens_1 (rowC (Eint .i64) l_lens_1)]) (fun Qj3 hNj3 hOj3 => ?_) (fun a w hR => ?_)
      · have HOj3 := H
        have H := Hyj3
        refine L_blk (fun Qb34 hNb34 hXb34 hOb34 => ?_)
        refine L_lp (fun k a w => ∃ (t53 : Int), Is Try.f16.ntmps a [(0, .slice A_freq_0 l_freq_0.length c_freq_0), (1, .slice A_lens_1 l_lens_1.length c_lens_1), (23, .slice A_lens_1 l_lens_1.length c_lens_1), (24, .int .i64 (l_lens_1.length : Int)), (25, .int .i64 t53)] ∧ Hp S0 w0 w [.rd A_freq_0 (rowC (Eint .i64) l_freq_0), .rd A_lens_1 (rowC (Eint .i64) l_lens_1)] ∧ build_Cost.l1 k t53 l_lens_1 = some yj3) FU (fun a ha => ⟨_, Is.cons ha (Is.cons ha (Is.cons ha (Is.cons ha (Is.cons ha (Is.nil ha) rfl) rfl) rfl) rfl) rfl, HS0.sel [0, 1] rfl, H⟩) (fun kp52 a w54 hI Qp52 hNp52 hOp52 => ?_)
        obtain ⟨t53, ha, HS55, HAp52⟩ := hI
        cases kp52 with
        | zero => cases (show (none : Option _) = some _ from HAp52)
        | succ kp52 =>
          have H := (build_Cost.l1.eq_2 ..).symm.trans HAp52
          refine wpLF_app ?_ ha
          refine L_seq ?_
          refine L_region ?_
          refine F_val rfl rfl rfl (O_lt rfl rfl rfl) ?_
          refine F_nil ?_
          refine L_seq ?_
          refine L_condP rfl (fun c56 => ?_) (fun c56 => ?_)
          · have H := of_pos H c56
            refine L_skip ?_
            refine L_seq ?_
            refine L_blk (fun Q57 hN57 hX57 hO57 => ?_)
            refine L_seq ?_
            refine L_region ?_
            obtain ⟨⟨g58, g59⟩, H⟩ := of_gd H
            refine F_val rfl rfl rfl (O_idx rfl rfl rfl Try.underlying22 size3 g58 g59 (Cells.isA (HS55.cells_rd (i := 1) rfl) (rowC_ne (E := (Eint .i64)) g58 g59 (by decide)))) ?_
            refine F_val rfl rfl rfl (O_loadC rfl rfl flat3 (HS55.cells_rd (i := 1) rfl) (int_cell g58 g59)) ?_
            obtain ⟨x60, h61, H⟩ := of_bnd H
            refine F_val rfl rfl rfl (O_assign' rfl rfl (congrArg (Value.int .i64) h61)) ?_
            refine F_nil ?_
            refine L_seq ?_
            refine L_region ?_
            refine F_val rfl rfl rfl (O_move rfl rfl) ?_
            refine F_val rfl rfl rfl (O_lt rfl rfl rfl) ?_
            refine F_val rfl rfl rfl (O_move rfl rfl) ?_
            refine F_grp 3 [(34, .bool (decide ((x60 < 0) ∨ (288 < x60)))), (0, .slice A_freq_0 l_freq_0.length c_freq_0), (1, .slice A_lens_1 l_lens_1.length c_lens_1), (23, .slice A_lens_1 l_lens_1.length c_lens_1), (24, .int .i64 (l_lens_1.length : Int)), (25, .int .i64 t53)] ?_ ?_
            · rcases Decidable.em (x60 < 0) with c62 | c62
              · refine F_know (i := 31) rfl (dec_t c62) ?_
                refine F_gskip rfl rfl rfl rfl rfl rfl rfl ?_
                refine F_gskip rfl rfl rfl rfl rfl rfl rfl ?_
                refine F_val rfl rfl rfl (O_pickT rfl rfl rfl) ?_
                refine F_know (i := 34) rfl (dec_or_t (q := 288 < x60) c62) ?_
                exact F_grpE (fun a ha => Is.cons ha (Is.cons ha (Is.cons ha (Is.cons ha (Is.cons ha (Is.cons ha (Is.nil ha) rfl) rfl) rfl) rfl) rfl) rfl)
              · refine F_know (i := 31) rfl (dec_f c62) ?_
                refine F_gval rfl rfl rfl rfl rfl rfl (O_move rfl rfl) ?_
                refine F_gval rfl rfl rfl rfl rfl rfl (O_gt rfl rfl rfl) ?_
                refine F_val rfl rfl rfl (O_pickF rfl rfl rfl) ?_
                refine F_know (i := 34) rfl (dec_or_f (q := 288 < x60) c62) ?_
                exact F_grpE (fun a ha => Is.cons ha (Is.cons ha (Is.cons ha (Is.cons ha (Is.cons ha (Is.cons ha (Is.nil ha) rfl) rfl) rfl) rfl) rfl) rfl)
            · skip
              refine F_nil ?_
              refine L_condP rfl (fun c63 => ?_) (fun c63 => ?_)
              · have H := of_pos H c63
                refine L_seq ?_
                refine L_region ?_
                refine F_val rfl rfl rfl (O_assign rfl rfl) ?_
                refine F_val rfl rfl rfl (O_assign rfl rfl) ?_
                refine F_nil ?_
                refine L_ret (fun a ha => (hO57 .ret a _ rfl (hOp52 .ret a _ rfl (hOb34 .ret a _ rfl (hOj3 .ret a _ rfl (post_ret2 ha rfl rfl rfl ?_))))))
                obtain rfl := Option.some.inj H
                obtain rfl := Option.some.inj (show (some (0, 1) : Option (Int × Int)) = some _ from HOj3)
                exact ⟨rfl, HS55.sel [] rfl⟩
              · have H := of_neg H c63
                refine L_skip ?_
                refine L_endB hN57 ?_
                refine L_region ?_
                refine F_val rfl rfl rfl (O_add rfl rfl rfl) ?_
                refine F_val rfl rfl rfl (O_move rfl rfl) ?_
                refine F_nil ?_
                refine L_nil (fun a ha => hNp52 _ a _ (Nat.lt_succ_self _) ⟨_, Is.cons ha (Is.cons ha (Is.cons ha (Is.cons ha (Is.cons ha (Is.nil ha) rfl) rfl) rfl) rfl) rfl, HS55.sel [0, 1] rfl, H⟩)
          · have H := of_neg H c56
            refine L_exitB (fun a w h => hOp52 (.exit 0) a w rfl (hXb34 a w h)) ?_
            refine L_nil (fun a ha => hNj3 a _ ⟨(Option.some.inj H).symm, Is.cons ha (Is.cons ha (Is.nil ha) rfl) rfl, HS55.sel [0, 1] rfl⟩)
      · obtain ⟨rfl, ha, HS65⟩ := hR
        refine wpLF_app ?_ ha
        have H := (onR_inr _ _ _).symm.trans H
        refine L_seq ?_
        refine L_seq ?_
        refine L_region ?_
        refine F_val rfl rfl rfl (O_move rfl rfl) ?_
        obtain ⟨⟨z70, z71⟩, h69, H⟩ := of_bind H
        refine F_call (xs := [.tmp 37]) rfl rfl rfl rfl Try.func35 nm35 rfl rfl ((build_used.calls (HS65.give [] rfl (Lent.rd HS65 (Lent.nil) (i := 0) rfl ((HS65.cells_rd (i := 0) rfl).self))) hc_freq_0 h69).mono (fun e w hc => ?_))
        obtain ⟨A74, c75, rfl, HSo⟩ := hc
        refine ⟨.tuple #[.slice A74 z70.length c75, .int .i64 z71], rfl, ?_⟩
        have HS73 : Hp S0 w0 w [.rd A_freq_0 (rowC (Eint .i64) l_freq_0), .rd A_lens_1 (rowC (Eint .i64) l_lens_1), .own A74 c75 (rowC (Eint .i64) z70) 3 (Eint .i64).sz] := (HS65.back [] HSo rfl).sel [0, 1, 2] rfl
        refine F_val rfl rfl rfl (O_move rfl rfl) ?_
        refine F_val rfl rfl rfl (O_extract (v := .slice A74 z70.length c75) rfl rfl rfl) ?_
        refine F_val rfl rfl rfl (O_extract (v := .int .i64 z71) rfl rfl rfl) ?_
        refine F_val rfl rfl rfl (O_assign rfl rfl) ?_
        refine F_val rfl rfl rfl (O_assign rfl rfl) ?_
        refine F_nil ?_
        refine L_seq ?_
        refine L_region ?_
        refine F_val rfl rfl rfl (O_move rfl rfl) ?_
        refine F_val rfl rfl rfl (O_ne rfl rfl rfl) ?_
        refine F_nil ?_
        refine L_condP rfl (fun c77 => ?_) (fun c77 => ?_)
        · have H := of_pos H c77
          refine L_seq ?_
          refine L_region ?_
          refine F_val rfl rfl rfl (O_move rfl rfl) ?_
          refine F_val rfl rfl rfl (O_assign rfl rfl) ?_
          refine F_val rfl rfl rfl (O_assign rfl rfl) ?_
          refine F_nil ?_
          refine L_ret (fun a ha => (post_ret2 ha rfl rfl rfl ?_))
          obtain rfl := Option.some.inj H
          exact ⟨rfl, HS73.sel [] rfl⟩
        · have H := of_neg H c77
          refine L_skip ?_
          refine L_seq ?_
          refine L_region ?_
          refine F_val rfl rfl rfl (O_assign rfl rfl) ?_
          refine F_nil ?_
          refine L_seq ?_
          refine L_seq ?_
          refine L_region ?_
          refine F_val rfl rfl rfl (O_move rfl rfl) ?_
          refine F_val rfl rfl rfl (O_len rfl rfl Try.underlying22) ?_
          refine F_val rfl rfl rfl (O_move rfl rfl) ?_
          refine F_nil ?_
          obtain ⟨yj78, Hyj78, H⟩ := of_bind H
          refine L_join (fun a w => ∃ (sum_117 : Int), yj78 = sum_117 ∧ Is Try.f16.ntmps a [(10, .int .i64 sum_117)] ∧ Hp S0 w0 w [.rd A_freq_0 (rowC (Eint .i64) l_freq_0), .rd A_lens_1 (rowC (Eint .i64) l_lens_1)]) (fun Qj78 hNj78 hOj78 => ?_) (fun a w hR => ?_)
          · skip
            have H := Hyj78
            refine L_blk (fun Qb118 hNb118 hXb118 hOb118 => ?_)
            refine L_lp (fun k a w => ∃ (sum_142 : Int), ∃ (t143 : Int), Is Try.f16.ntmps a [(1, .slice A_lens_1 l_lens_1.length c_lens_1), (10, .int .i64 sum_142), (44, .slice A_freq_0 l_freq_0.length c_freq_0), (45, .int .i64 (l_freq_0.length : Int)), (46, .int .i64 t143)] ∧ Hp S0 w0 w [.rd A_freq_0 (rowC (Eint .i64) l_freq_0), .rd A_lens_1 (rowC (Eint .i64) l_lens_1)] ∧ build_Cost.l3 k sum_142 t143 l_freq_0 l_lens_1 = some yj78) FU (fun a ha => ⟨_, _, Is.cons ha (Is.cons ha (Is.cons ha (Is.cons ha (Is.cons ha (Is.nil ha) rfl) rfl) rfl) rfl) rfl, HS73.sel [0, 1] rfl, H⟩) (fun kp141 a w144 hI Qp141 hNp141 hOp141 => ?_)
            obtain ⟨sum_142, t143, ha, HS145, HAp141⟩ := hI
            cases kp141 with
            | zero => cases (show (none : Option _) = some _ from HAp141)
            | succ kp141 =>
              have H := (build_Cost.l3.eq_2 ..).symm.trans HAp141
              refine wpLF_app ?_ ha
              refine L_seq ?_
              refine L_region ?_
              refine F_val rfl rfl rfl (O_lt rfl rfl rfl) ?_
              refine F_nil ?_
              refine L_seq ?_
              refine L_condP rfl (fun c146 => ?_) (fun c146 => ?_)
              · have H := of_pos H c146
                refine L_skip ?_
                refine L_seq ?_
                refine L_blk (fun Q147 hN147 hX147 hO147 => ?_)
                refine L_seq ?_
                refine L_region ?_
                refine F_val rfl rfl rfl (O_move rfl rfl) ?_
                obtain ⟨⟨g148, g149⟩, H⟩ := of_gd H
                refine F_val rfl rfl rfl (O_idx rfl rfl rfl Try.underlying22 size3 g148 g149 (Cells.isA (HS145.cells_rd (i := 0) rfl) (rowC_ne (E := (Eint .i64)) g148 g149 (by decide)))) ?_
                refine F_val rfl rfl rfl (O_loadC rfl rfl flat3 (HS145.cells_rd (i := 0) rfl) (int_cell g148 g149)) ?_
                refine F_val rfl rfl rfl (O_assign rfl rfl) ?_
                obtain ⟨x150, h151, H⟩ := of_bnd H
                refine F_val rfl rfl rfl (O_assign' rfl rfl (congrArg (Value.int .i64) h151)) ?_
                refine F_nil ?_
                refine L_region ?_
                refine F_val rfl rfl rfl (O_move rfl rfl) ?_
                refine F_val rfl rfl rfl (O_move rfl rfl) ?_
                refine F_val rfl rfl rfl (O_move rfl rfl) ?_
                refine F_val rfl rfl rfl (O_move rfl rfl) ?_
                obtain ⟨⟨g152, g153⟩, H⟩ := of_gd H
                refine F_val rfl rfl rfl (O_idx rfl rfl rfl Try.underlying22 size3 g152 g153 (Cells.isA (HS145.cells_rd (i := 1) rfl) (rowC_ne (E := (Eint .i64)) g152 g153 (by decide)))) ?_
                refine F_val rfl rfl rfl (O_loadC rfl rfl flat3 (HS145.cells_rd (i := 1) rfl) (int_cell g152 g153)) ?_
                refine F_val rfl rfl rfl (O_mul rfl rfl rfl) ?_
                refine F_val rfl rfl rfl (O_add rfl rfl rfl) ?_
                obtain ⟨x154, h155, H⟩ := of_bnd H
                refine F_val rfl rfl rfl (O_assign' rfl rfl (congrArg (Value.int .i64) h155)) ?_
                refine F_nil ?_
                refine L_endB hN147 ?_
                refine L_region ?_
                refine F_val rfl rfl rfl (O_add rfl rfl rfl) ?_
                refine F_val rfl rfl rfl (O_move rfl rfl) ?_
                refine F_nil ?_
                refine L_nil (fun a ha => hNp141 _ a _ (Nat.lt_succ_self _) ⟨_, _, Is.cons ha (Is.cons ha (Is.cons ha (Is.cons ha (Is.cons ha (Is.nil ha) rfl) rfl) rfl) rfl) rfl, HS145.sel [0, 1] rfl, H⟩)
              · have H := of_neg H c146
                refine L_exitB (fun a w h => hOp141 (.exit 2) a w rfl (hXb118 a w h)) ?_
                refine L_nil (fun a ha => hNj78 a _ ⟨_, (Option.some.inj H).symm, Is.cons ha (Is.nil ha) rfl, HS145.sel [0, 1] rfl⟩)
          · obtain ⟨sum_117, ej, ha, HS157⟩ := hR
            obtain rfl := ej.symm
            refine wpLF_app ?_ ha
            refine L_seq ?_
            refine L_region ?_
            refine F_val rfl rfl rfl (O_move rfl rfl) ?_
            refine F_val rfl rfl rfl (O_assign rfl rfl) ?_
            refine F_val rfl rfl rfl (O_assign rfl rfl) ?_
            refine F_nil ?_
            refine L_ret (fun a ha => (post_ret2 ha rfl rfl rfl ?_))
            obtain rfl := Option.some.inj H
            exact ⟨rfl, HS157.sel [] rfl⟩

/-! function 36: valise/valiseref6.weighs -/
theorem valiseref6_weighs.calls {S0 : Nat → Prop} {w0 : World} {A_freq_0 : Option Addr} {c_freq_0 : Nat} {l_freq_0 : List Int} {r : Bool} (HS0 : Hp S0 w0 w0 [.rd A_freq_0 (rowC (Eint .i64) l_freq_0)]) (hc_freq_0 : l_freq_0.length ≤ c_freq_0) (h : valiseref6_weighs.f l_freq_0 = some r) :
    Calls Try.prog 36 ([.slice A_freq_0 l_freq_0.length c_freq_0] : List Value).toArray w0 (fun e w => e = .returned (.bool r) ∧ Hp S0 w0 w []) := by
  have H : (((valiseref6_weighs.l1 FU 0 l_freq_0).bind fun (yj1 : Sum (Bool) (Unit)) => onR yj1 (fun r => some r) fun () => some true) : Option (Bool)) = some r := h
  refine calls_start Try.func36 rfl rfl ?_
  refine L_seq ?_
  refine L_region ?_
  refine F_val rfl rfl rfl (O_assign rfl rfl) ?_
  refine F_nil ?_
  refine L_seq ?_
  refine L_seq ?_
  refine L_region ?_
  refine F_val rfl rfl rfl (O_assign rfl rfl) ?_
  refine F_nil ?_
  obtain ⟨yj1, Hyj1, H⟩ := of_bind H
  refine L_join (fun a w => yj1 = Sum.inr () ∧ Is Try.f36.ntmps a [] ∧ Hp S0 w0 w [.rd A_freq_0 (rowC (Eint .i64) l_freq_0)]) (fun Qj1 hNj1 hOj1 => ?_) (fun a w hR => ?_)
  · have HOj1 := H
    have H := Hyj1
    refine L_blk (fun Qb32 hNb32 hXb32 hOb32 => ?_)
    refine L_lp (fun k a w => ∃ (s_51 : Int), Is Try.f36.ntmps a [(0, .slice A_freq_0 l_freq_0.length c_freq_0), (3, .int .i64 s_51)] ∧ Hp S0 w0 w [.rd A_freq_0 (rowC (Eint .i64) l_freq_0)] ∧ valiseref6_weighs.l1 k s_51 l_freq_0 = some yj1) FU (fun a ha => ⟨_, Is.cons ha (Is.cons ha (Is.nil ha) rfl) rfl, HS0.sel [0] rfl, H⟩) (fun kp50 a w52 hI Qp50 hNp50 hOp50 => ?_)
    obtain ⟨s_51, ha, HS53, HAp50⟩ := hI
    cases kp50 with
    | zero => cases (show (none : Option _) = some _ from HAp50)
    | succ kp50 =>
      have H := (valiseref6_weighs.l1.eq_2 ..).symm.trans HAp50
      refine wpLF_app ?_ ha
      refine L_seq ?_
      refine L_seq ?_
      refine L_region ?_
      refine F_val rfl rfl rfl (O_move rfl rfl) ?_
      refine F_val rfl rfl rfl (O_move rfl rfl) ?_
      refine F_val rfl rfl rfl (O_len rfl rfl Try.underlying22) ?_
      refine F_val rfl rfl rfl (O_lt rfl rfl rfl) ?_
      refine F_nil ?_
      refine L_condP rfl (fun c54 => ?_) (fun c54 => ?_)
      · have H := of_pos H c54
        refine L_skip ?_
        refine L_seq ?_
        refine L_blk (fun Q55 hN55 hX55 hO55 => ?_)
        refine L_seq ?_
        refine L_region ?_
        refine F_val rfl rfl rfl (O_move rfl rfl) ?_
        refine F_val rfl rfl rfl (O_move rfl rfl) ?_
        obtain ⟨⟨g56, g57⟩, H⟩ := of_gd H
        refine F_val rfl rfl rfl (O_idx rfl rfl rfl Try.underlying22 size3 g56 g57 (Cells.isA (HS53.cells_rd (i := 0) rfl) (rowC_ne (E := (Eint .i64)) g56 g57 (by decide)))) ?_
        refine F_val rfl rfl rfl (O_loadC rfl rfl flat3 (HS53.cells_rd (i := 0) rfl) (int_cell g56 g57)) ?_
        refine F_val rfl rfl rfl (O_lt rfl rfl rfl) ?_
        refine F_val rfl rfl rfl (O_move rfl rfl) ?_
        refine F_grp 6 [(21, .bool (decide ((rd l_freq_0 s_51 < 0) ∨ (4294967296 < rd l_freq_0 s_51)))), (0, .slice A_freq_0 l_freq_0.length c_freq_0), (3, .int .i64 s_51)] ?_ ?_
        · rcases Decidable.em (rd l_freq_0 s_51 < 0) with c58 | c58
          · refine F_know (i := 15) rfl (dec_t c58) ?_
            refine F_gskip rfl rfl rfl rfl rfl rfl rfl ?_
            refine F_gskip rfl rfl rfl rfl rfl rfl rfl ?_
            refine F_gskip rfl rfl rfl rfl rfl rfl rfl ?_
            refine F_gskip rfl rfl rfl rfl rfl rfl rfl ?_
            refine F_gskip rfl rfl rfl rfl rfl rfl rfl ?_
            refine F_val rfl rfl rfl (O_pickT rfl rfl rfl) ?_
            refine F_know (i := 21) rfl (dec_or_t (q := 4294967296 < rd l_freq_0 s_51) c58) ?_
            exact F_grpE (fun a ha => Is.cons ha (Is.cons ha (Is.cons ha (Is.nil ha) rfl) rfl) rfl)
          · refine F_know (i := 15) rfl (dec_f c58) ?_
            refine F_gval rfl rfl rfl rfl rfl rfl (O_move rfl rfl) ?_
            refine F_gval rfl rfl rfl rfl rfl rfl (O_move rfl rfl) ?_
            refine F_gval rfl rfl rfl rfl rfl rfl (O_idx rfl rfl rfl Try.underlying22 size3 g56 g57 (Cells.isA (HS53.cells_rd (i := 0) rfl) (rowC_ne (E := (Eint .i64)) g56 g57 (by decide)))) ?_
            refine F_gval rfl rfl rfl rfl rfl rfl (O_loadC rfl rfl flat3 (HS53.cells_rd (i := 0) rfl) (int_cell g56 g57)) ?_
            refine F_gval rfl rfl rfl rfl rfl rfl (O_gt rfl rfl rfl) ?_
            refine F_val rfl rfl rfl (O_pickF rfl rfl rfl) ?_
            refine F_know (i := 21) rfl (dec_or_f (q := 4294967296 < rd l_freq_0 s_51) c58) ?_
            exact F_grpE (fun a ha => Is.cons ha (Is.cons ha (Is.cons ha (Is.nil ha) rfl) rfl) rfl)
        · skip
          refine F_nil ?_
          refine L_condP rfl (fun c59 => ?_) (fun c59 => ?_)
          · have H := of_pos H c59
            refine L_seq ?_
            refine L_region ?_
            refine F_val rfl rfl rfl (O_assign rfl rfl) ?_
            refine F_nil ?_
            refine L_ret (fun a ha => (hO55 .ret a _ rfl (hOp50 .ret a _ rfl (hOb32 .ret a _ rfl (hOj1 .ret a _ rfl (post_ret1 ha rfl rfl ?_))))))
            obtain rfl := Option.some.inj H
            obtain rfl := Option.some.inj (show (some false : Option (Bool)) = some _ from HOj1)
            exact ⟨rfl, HS53.sel [] rfl⟩
          · have H := of_neg H c59
            refine L_skip ?_
            refine L_endB hN55 ?_
            refine L_region ?_
            refine F_val rfl rfl rfl (O_move rfl rfl) ?_
            refine F_val rfl rfl rfl (O_add rfl rfl rfl) ?_
            obtain ⟨x60, h61, H⟩ := of_bnd H
            refine F_val rfl rfl rfl (O_assign' rfl rfl (congrArg (Value.int .i64) h61)) ?_
            refine F_nil ?_
            refine L_nil (fun a ha => hNp50 _ a _ (Nat.lt_succ_self _) ⟨_, Is.cons ha (Is.cons ha (Is.nil ha) rfl) rfl, HS53.sel [0] rfl, H⟩)
      · have H := of_neg H c54
        refine L_exitB (fun a w h => hOp50 (.exit 0) a w rfl (hXb32 a w h)) ?_
        refine L_nil (fun a ha => hNj1 a _ ⟨(Option.some.inj H).symm, Is.nil ha, HS53.sel [0] rfl⟩)
  · obtain ⟨rfl, ha, HS63⟩ := hR
    refine wpLF_app ?_ ha
    have H := (onR_inr _ _ _).symm.trans H
    refine L_seq ?_
    refine L_region ?_
    refine F_val rfl rfl rfl (O_assign rfl rfl) ?_
    refine F_nil ?_
    refine L_ret (fun a ha => (post_ret1 ha rfl rfl ?_))
    obtain rfl := Option.some.inj H
    exact ⟨rfl, HS63.sel [] rfl⟩

/-! function 17: valise/valiseref6.Cost -/
theorem valiseref6_Cost.calls {S0 : Nat → Prop} {w0 : World} {A_freq_0 : Option Addr} {c_freq_0 : Nat} {A_lens_1 : Option Addr} {c_lens_1 : Nat} {l_freq_0 : List Int} {l_lens_1 : List Int} {r : Int × Int} (HS0 : Hp S0 w0 w0 [.rd A_freq_0 (rowC (Eint .i64) l_freq_0), .rd A_lens_1 (rowC (Eint .i64) l_lens_1)]) (hc_freq_0 : l_freq_0.length ≤ c_freq_0) (hc_lens_1 : l_lens_1.length ≤ c_lens_1) (h : valiseref6_Cost.f l_freq_0 l_lens_1 = some r) :
    Calls Try.prog 17 ([.slice A_freq_0 l_freq_0.length c_freq_0, .slice A_lens_1 l_lens_1.length c_lens_1] : List Value).toArray w0 (fun e w => e = .returned (.tuple #[.int .i64 r.1, .int .i64 r.2]) ∧ Hp S0 w0 w []) := by
  have H : ((if (288 < (l_freq_0.length : Int)) ∨ ((l_lens_1.length : Int) ≠ (l_freq_0.length : Int)) then (some (0, 1)) else ((valiseref6_Cost.l1 FU 0 l_lens_1).bind fun (yj3 : Sum (Int × Int) (Unit)) => onR yj3 (fun r => some r) fun () => (valiseref6_weighs.f l_freq_0).bind fun z70 => if (!z70) = true then (some (0, 61)) else ((valiseref6_Cost.l3 FU 0 0 l_freq_0 l_lens_1).bind fun n_122 => some (n_122, 0)))) : Option (Int × Int)) = some r := h
  refine calls_start Try.func17 rfl rfl ?_
  refine L_seq ?_
  refine L_region ?_
  refine F_val rfl rfl rfl (O_assign rfl rfl) ?_
  refine F_val rfl rfl rfl (O_assign rfl rfl) ?_
  refine F_nil ?_
  refine L_seq ?_
  refine L_seq ?_
  refine L_region ?_
  refine F_val rfl rfl rfl (O_move rfl rfl) ?_
  refine F_val rfl rfl rfl (O_len rfl rfl Try.underlying22) ?_
  refine F_val rfl rfl rfl (O_gt rfl rfl rfl) ?_
  refine F_val rfl rfl rfl (O_move rfl rfl) ?_
  refine F_grp 6 [(19, .bool (decide ((288 < (l_freq_0.length : Int)) ∨ ((l_lens_1.length : Int) ≠ (l_freq_0.length : Int))))), (0, .slice A_freq_0 l_freq_0.length c_freq_0), (1, .slice A_lens_1 l_lens_1.length c_lens_1)] ?_ ?_
  · rcases Decidable.em (288 < (l_freq_0.length : Int)) with c1 | c1
    · refine F_know (i := 13) rfl (dec_t c1) ?_
      refine F_gskip rfl rfl rfl rfl rfl rfl rfl ?_
      refine F_gskip rfl rfl rfl rfl rfl rfl rfl ?_
      refine F_gskip rfl rfl rfl rfl rfl rfl rfl ?_
      refine F_gskip rfl rfl rfl rfl rfl rfl rfl ?_
      refine F_gskip rfl rfl rfl rfl rfl rfl rfl ?_
      refine F_val rfl rfl rfl (O_pickT rfl rfl rfl) ?_
      refine F_know (i := 19) rfl (dec_or_t (q := (l_lens_1.length : Int) ≠ (l_freq_0.length : Int)) c1) ?_
      exact F_grpE (fun a ha => Is.cons ha (Is.cons ha (Is.cons ha (Is.nil ha) rfl) rfl) rfl)
    · refine F_know (i := 13) rfl (dec_f c1) ?_
      refine F_gval rfl rfl rfl rfl rfl rfl (O_move rfl rfl) ?_
      refine F_gval rfl rfl rfl rfl rfl rfl (O_len rfl rfl Try.underlying22) ?_
      refine F_gval rfl rfl rfl rfl rfl rfl (O_move rfl rfl) ?_
      refine F_gval rfl rfl rfl rfl rfl rfl (O_len rfl rfl Try.underlying22) ?_
      refine F_gval rfl rfl rfl rfl rfl rfl (O_ne rfl rfl rfl) ?_
      refine F_val rfl rfl rfl (O_pickF rfl rfl rfl) ?_
      refine F_know (i := 19) rfl (dec_or_f (q := (l_lens_1.length : Int) ≠ (l_freq_0.length : Int)) c1) ?_
      exact F_grpE (fun a ha => Is.cons ha (Is.cons ha (Is.cons ha (Is.nil ha) rfl) rfl) rfl)
  · skip
    refine F_nil ?_
    refine L_condP rfl (fun c2 => ?_) (fun c2 => ?_)
    · have H := of_pos H c2
      refine L_seq ?_
      refine L_region ?_
      refine F_val rfl rfl rfl (O_assign rfl rfl) ?_
      refine F_val rfl rfl rfl (O_assign rfl rfl) ?_
      refine F_nil ?_
      refine L_ret (fun a ha => (post_ret2 ha rfl rfl rfl ?_))
      obtain rfl := Option.some.inj H
      exact ⟨rfl, HS0.sel [] rfl⟩
    · have H := of_neg H c2
      refine L_skip ?_
      refine L_seq ?_
      refine L_seq ?_
      refine L_region ?_
      refine F_val rfl rfl rfl (O_assign rfl rfl) ?_
      refine F_nil ?_
      obtain ⟨yj3, Hyj3, H⟩ := of_bind H
      refine L_join (fun a w => yj3 = Sum.inr () ∧ Is Try.f17.ntmps a [(0, .slice A_freq_0 l_freq_0.length c_freq_0), (1, .slice A_lens_1 l_lens_1.length c_lens_1)] ∧ Hp S0 w0 w [.rd A_freq_0 (rowC (Eint .i64) l_freq_0), .rd A_lens_1 (rowC (Eint .i64) l_lens_1)]) (fun Qj3 hNj3 hOj3 => ?_) (fun a w hR => ?_)
      · have HOj3 := H
        have H := Hyj3
        refine L_blk (fun Qb34 hNb34 hXb34 hOb34 => ?_)
        refine L_lp (fun k a w => ∃ (s_53 : Int), Is Try.f17.ntmps a [(0, .slice A_freq_0 l_freq_0.length c_freq_0), (1, .slice A_lens_1 l_lens_1.length c_lens_1), (6, .int .i64 s_53)] ∧ Hp S0 w0 w [.rd A_freq_0 (rowC (Eint .i64) l_freq_0), .rd A_lens_1 (rowC (Eint .i64) l_lens_1)] ∧ valiseref6_Cost.l1 k s_53 l_lens_1 = some yj3) FU (fun a ha => ⟨_, Is.cons ha (Is.cons ha (Is.cons ha (Is.nil ha) rfl) rfl) rfl, HS0.sel [0, 1] rfl, H⟩) (fun kp52 a w54 hI Qp52 hNp52 hOp52 => ?_)
        obtain ⟨s_53, ha, HS55, HAp52⟩ := hI
        cases kp52 with
        | zero => cases (show (none : Option _) = some _ from HAp52)
        | succ kp52 =>
          have H := (valiseref6_Cost.l1.eq_2 ..).symm.trans HAp52
          refine wpLF_app ?_ ha
          refine L_seq ?_
          refine L_seq ?_
          refine L_region ?_
          refine F_val rfl rfl rfl (O_move rfl rfl) ?_
          refine F_val rfl rfl rfl (O_move rfl rfl) ?_
          refine F_val rfl rfl rfl (O_len rfl rfl Try.underlying22) ?_
          refine F_val rfl rfl rfl (O_lt rfl rfl rfl) ?_
          refine F_nil ?_
          refine L_condP rfl (fun c56 => ?_) (fun c56 => ?_)
          · have H := of_pos H c56
            refine L_skip ?_
            refine L_seq ?_
            refine L_blk (fun Q57 hN57 hX57 hO57 => ?_)
            refine L_seq ?_
            refine L_region ?_
            refine F_val rfl rfl rfl (O_move rfl rfl) ?_
            refine F_val rfl rfl rfl (O_move rfl rfl) ?_
            obtain ⟨⟨g58, g59⟩, H⟩ := of_gd H
            refine F_val rfl rfl rfl (O_idx rfl rfl rfl Try.underlying22 size3 g58 g59 (Cells.isA (HS55.cells_rd (i := 1) rfl) (rowC_ne (E := (Eint .i64)) g58 g59 (by decide)))) ?_
            refine F_val rfl rfl rfl (O_loadC rfl rfl flat3 (HS55.cells_rd (i := 1) rfl) (int_cell g58 g59)) ?_
            refine F_val rfl rfl rfl (O_lt rfl rfl rfl) ?_
            refine F_val rfl rfl rfl (O_move rfl rfl) ?_
            refine F_grp 6 [(37, .bool (decide ((rd l_lens_1 s_53 < 0) ∨ (288 < rd l_lens_1 s_53)))), (0, .slice A_freq_0 l_freq_0.length c_freq_0), (1, .slice A_lens_1 l_lens_1.length c_lens_1), (6, .int .i64 s_53)] ?_ ?_
            · rcases Decidable.em (rd l_lens_1 s_53 < 0) with c60 | c60
              · refine F_know (i := 31) rfl (dec_t c60) ?_
                refine F_gskip rfl rfl rfl rfl rfl rfl rfl ?_
                refine F_gskip rfl rfl rfl rfl rfl rfl rfl ?_
                refine F_gskip rfl rfl rfl rfl rfl rfl rfl ?_
                refine F_gskip rfl rfl rfl rfl rfl rfl rfl ?_
                refine F_gskip rfl rfl rfl rfl rfl rfl rfl ?_
                refine F_val rfl rfl rfl (O_pickT rfl rfl rfl) ?_
                refine F_know (i := 37) rfl (dec_or_t (q := 288 < rd l_lens_1 s_53) c60) ?_
                exact F_grpE (fun a ha => Is.cons ha (Is.cons ha (Is.cons ha (Is.cons ha (Is.nil ha) rfl) rfl) rfl) rfl)
              · refine F_know (i := 31) rfl (dec_f c60) ?_
                refine F_gval rfl rfl rfl rfl rfl rfl (O_move rfl rfl) ?_
                refine F_gval rfl rfl rfl rfl rfl rfl (O_move rfl rfl) ?_
                refine F_gval rfl rfl rfl rfl rfl rfl (O_idx rfl rfl rfl Try.underlying22 size3 g58 g59 (Cells.isA (HS55.cells_rd (i := 1) rfl) (rowC_ne (E := (Eint .i64)) g58 g59 (by decide)))) ?_
                refine F_gval rfl rfl rfl rfl rfl rfl (O_loadC rfl rfl flat3 (HS55.cells_rd (i := 1) rfl) (int_cell g58 g59)) ?_
                refine F_gval rfl rfl rfl rfl rfl rfl (O_gt rfl rfl rfl) ?_
                refine F_val rfl rfl rfl (O_pickF rfl rfl rfl) ?_
                refine F_know (i := 37) rfl (dec_or_f (q := 288 < rd l_lens_1 s_53) c60) ?_
                exact F_grpE (fun a ha => Is.cons ha (Is.cons ha (Is.cons ha (Is.cons ha (Is.nil ha) rfl) rfl) rfl) rfl)
            · skip
              refine F_nil ?_
              refine L_condP rfl (fun c61 => ?_) (fun c61 => ?_)
              · have H := of_pos H c61
                refine L_seq ?_
                refine L_region ?_
                refine F_val rfl rfl rfl (O_assign rfl rfl) ?_
                refine F_val rfl rfl rfl (O_assign rfl rfl) ?_
                refine F_nil ?_
                refine L_ret (fun a ha => (hO57 .ret a _ rfl (hOp52 .ret a _ rfl (hOb34 .ret a _ rfl (hOj3 .ret a _ rfl (post_ret2 ha rfl rfl rfl ?_))))))
                obtain rfl := Option.some.inj H
                obtain rfl := Option.some.inj (show (some (0, 1) : Option (Int × Int)) = some _ from HOj3)
                exact ⟨rfl, HS55.sel [] rfl⟩
              · have H := of_neg H c61
                refine L_skip ?_
                refine L_endB hN57 ?_
                refine L_region ?_
                refine F_val rfl rfl rfl (O_move rfl rfl) ?_
                refine F_val rfl rfl rfl (O_add rfl rfl rfl) ?_
                obtain ⟨x62, h63, H⟩ := of_bnd H
                refine F_val rfl rfl rfl (O_assign' rfl rfl (congrArg (Value.int .i64) h63)) ?_
                refine F_nil ?_
                refine L_nil (fun a ha => hNp52 _ a _ (Nat.lt_succ_self _) ⟨_, Is.cons ha (Is.cons ha (Is.cons ha (Is.nil ha) rfl) rfl) rfl, HS55.sel [0, 1] rfl, H⟩)
          · have H := of_neg H c56
            refine L_exitB (fun a w h => hOp52 (.exit 0) a w rfl (hXb34 a w h)) ?_
            refine L_nil (fun a ha => hNj3 a _ ⟨(Option.some.inj H).symm, Is.cons ha (Is.cons ha (Is.nil ha) rfl) rfl, HS55.sel [0, 1] rfl⟩)
      · obtain ⟨rfl, ha, HS65⟩ := hR
        refine wpLF_app ?_ ha
        have H := (onR_inr _ _ _).symm.trans H
        refine L_seq ?_
        refine L_region ?_
        refine F_val rfl rfl rfl (O_move rfl rfl) ?_
        obtain ⟨z70, h69, H⟩ := of_bind H
        refine F_call (xs := [.tmp 38]) rfl rfl rfl rfl Try.func36 nm36 rfl rfl ((valiseref6_weighs.calls (HS65.give [] rfl (Lent.rd HS65 (Lent.nil) (i := 0) rfl ((HS65.cells_rd (i := 0) rfl).self))) hc_freq_0 h69).mono (fun e w hc => ?_))
        obtain ⟨rfl, HSo⟩ := hc
        refine ⟨.bool z70, rfl, ?_⟩
        have HS72 : Hp S0 w0 w [.rd A_freq_0 (rowC (Eint .i64) l_freq_0), .rd A_lens_1 (rowC (Eint .i64) l_lens_1)] := (HS65.back [] HSo rfl).sel [0, 1] rfl
        refine F_val rfl rfl rfl (O_assign rfl rfl) ?_
        refine F_nil ?_
        refine L_seq ?_
        refine L_seq ?_
        refine L_region ?_
        refine F_val rfl rfl rfl (O_move rfl rfl) ?_
        refine F_val rfl rfl rfl (O_notb rfl rfl) ?_
        refine F_nil ?_
        refine L_cond rfl (fun c73 => ?_) (fun c73 => ?_)
        · have H := of_pos H c73
          refine L_seq ?_
          refine L_region ?_
          refine F_val rfl rfl rfl (O_assign rfl rfl) ?_
          refine F_val rfl rfl rfl (O_assign rfl rfl) ?_
          refine F_nil ?_
          refine L_ret (fun a ha => (post_ret2 ha rfl rfl rfl ?_))
          obtain rfl := Option.some.inj H
          exact ⟨rfl, HS72.sel [] rfl⟩
        · have H := of_neg H (by rw [c73]; exact Bool.false_ne_true)
          refine L_skip ?_
          refine L_seq ?_
          refine L_region ?_
          refine F_val rfl rfl rfl (O_assign rfl rfl) ?_
          refine F_nil ?_
          refine L_seq ?_
          refine L_seq ?_
          refine L_region ?_
          refine F_val rfl rfl rfl (O_assign rfl rfl) ?_
          refine F_nil ?_
          obtain ⟨yj74, Hyj74, H⟩ := of_bind H
          refine L_join (fun a w => ∃ (n_122 : Int), yj74 = n_122 ∧ Is Try.f17.ntmps a [(8, .int .i64 n_122)] ∧ Hp S0 w0 w [.rd A_freq_0 (rowC (Eint .i64) l_freq_0), .rd A_lens_1 (rowC (Eint .i64) l_lens_1)]) (fun Qj74 hNj74 hOj74 => ?_) (fun a w hR => ?_)
          · skip
            have H := Hyj74
            refine L_blk (fun Qb123 hNb123 hXb123 hOb123 => ?_)
            refine L_lp (fun k a w => ∃ (n_153 : Int), ∃ (s_154 : Int), Is Try.f17.ntmps a [(0, .slice A_freq_0 l_freq_0.length c_freq_0), (1, .slice A_lens_1 l_lens_1.length c_lens_1), (8, .int .i64 n_153), (9, .int .i64 s_154)] ∧ Hp S0 w0 w [.rd A_freq_0 (rowC (Eint .i64) l_freq_0), .rd A_lens_1 (rowC (Eint .i64) l_lens_1)] ∧ valiseref6_Cost.l3 k n_153 s_154 l_freq_0 l_lens_1 = some yj74) FU (fun a ha => ⟨_, _, Is.cons ha (Is.cons ha (Is.cons ha (Is.cons ha (Is.nil ha) rfl) rfl) rfl) rfl, HS72.sel [0, 1] rfl, H⟩) (fun kp152 a w155 hI Qp152 hNp152 hOp152 => ?_)
            obtain ⟨n_153, s_154, ha, HS156, HAp152⟩ := hI
            cases kp152 with
            | zero => cases (show (none : Option _) = some _ from HAp152)
            | succ kp152 =>
              have H := (valiseref6_Cost.l3.eq_2 ..).symm.trans HAp152
              refine wpLF_app ?_ ha
              refine L_seq ?_
              refine L_seq ?_
              refine L_region ?_
              refine F_val rfl rfl rfl (O_move rfl rfl) ?_
              refine F_val rfl rfl rfl (O_move rfl rfl) ?_
              refine F_val rfl rfl rfl (O_len rfl rfl Try.underlying22) ?_
              refine F_val rfl rfl rfl (O_lt rfl rfl rfl) ?_
              refine F_nil ?_
              refine L_condP rfl (fun c157 => ?_) (fun c157 => ?_)
              · have H := of_pos H c157
                refine L_skip ?_
                refine L_seq ?_
                refine L_blk (fun Q158 hN158 hX158 hO158 => ?_)
                refine L_quiet mix (by kernel_rfl) ?_
                refine Q_val rfl rfl rfl (fun wq hq => O_move rfl rfl) ?_
                refine Q_val rfl rfl rfl (fun wq hq => O_move rfl rfl) ?_
                refine Q_val rfl rfl rfl (fun wq hq => O_move rfl rfl) ?_
                obtain ⟨⟨g159, g160⟩, H⟩ := of_gd H
                refine Q_val rfl rfl rfl (fun wq hq => O_idx rfl rfl rfl Try.underlying22 size3 g159 g160 (Cells.isA ((HS156.keep hq).cells_rd (i := 0) rfl) (rowC_ne (E := (Eint .i64)) g159 g160 (by decide)))) ?_
                refine Q_val rfl rfl rfl (fun wq hq => O_loadC rfl rfl flat3 ((HS156.keep hq).cells_rd (i := 0) rfl) (int_cell g159 g160)) ?_
                refine Q_val rfl rfl rfl (fun wq hq => O_move rfl rfl) ?_
                refine Q_val rfl rfl rfl (fun wq hq => O_move rfl rfl) ?_
                obtain ⟨⟨g161, g162⟩, H⟩ := of_gd H
                refine Q_val rfl rfl rfl (fun wq hq => O_idx rfl rfl rfl Try.underlying22 size3 g161 g162 (Cells.isA ((HS156.keep hq).cells_rd (i := 1) rfl) (rowC_ne (E := (Eint .i64)) g161 g162 (by decide)))) ?_
                refine Q_val rfl rfl rfl (fun wq hq => O_loadC rfl rfl flat3 ((HS156.keep hq).cells_rd (i := 1) rfl) (int_cell g161 g162)) ?_
                refine Q_val rfl rfl rfl (fun wq hq => O_mul rfl rfl rfl) ?_
                refine Q_val rfl rfl rfl (fun wq hq => O_add rfl rfl rfl) ?_
                obtain ⟨x163, h164, H⟩ := of_bnd H
                refine Q_val rfl rfl rfl (fun wq hq => O_assign' rfl rfl (congrArg (Value.int .i64) h164)) ?_
                refine Q_nil (fun w165 hw166 => ?_)
                have HS167 := HS156.keep hw166
                refine L_endB hN158 ?_
                refine L_region ?_
                refine F_val rfl rfl rfl (O_move rfl rfl) ?_
                refine F_val rfl rfl rfl (O_add rfl rfl rfl) ?_
                obtain ⟨x168, h169, H⟩ := of_bnd H
                refine F_val rfl rfl rfl (O_assign' rfl rfl (congrArg (Value.int .i64) h169)) ?_
                refine F_nil ?_
                refine L_nil (fun a ha => hNp152 _ a _ (Nat.lt_succ_self _) ⟨_, _, Is.cons ha (Is.cons ha (Is.cons ha (Is.cons ha (Is.nil ha) rfl) rfl) rfl) rfl, HS167.sel [0, 1] rfl, H⟩)
              · have H := of_neg H c157
                refine L_exitB (fun a w h => hOp152 (.exit 2) a w rfl (hXb123 a w h)) ?_
                refine L_nil (fun a ha => hNj74 a _ ⟨_, (Option.some.inj H).symm, Is.cons ha (Is.nil ha) rfl, HS156.sel [0, 1] rfl⟩)
          · obtain ⟨n_122, ej, ha, HS171⟩ := hR
            obtain rfl := ej.symm
            refine wpLF_app ?_ ha
            refine L_seq ?_
            refine L_region ?_
            refine F_val rfl rfl rfl (O_move rfl rfl) ?_
            refine F_val rfl rfl rfl (O_assign rfl rfl) ?_
            refine F_val rfl rfl rfl (O_assign rfl rfl) ?_
            refine F_nil ?_
            refine L_ret (fun a ha => (post_ret2 ha rfl rfl rfl ?_))
            obtain rfl := Option.some.inj H
            exact ⟨rfl, HS171.sel [] rfl⟩

/-! function 18: valise/valiselaw6.num -/
theorem valiselaw6_num.calls {S0 : Nat → Prop} {w0 : World} {e_0 : Int} {r : Int} (HS0 : Hp S0 w0 w0 []) (h : valiselaw6_num.f e_0 = some r) :
    Calls Try.prog 18 ([.int .i64 e_0] : List Value).toArray w0 (fun e w => e = .returned (.int .i64 r) ∧ Hp S0 w0 w []) := by
  have H : ((some e_0) : Option (Int)) = some r := h
  refine calls_start Try.func18 rfl rfl ?_
  refine L_seq ?_
  refine L_region ?_
  refine F_val rfl rfl rfl (O_assign rfl rfl) ?_
  refine F_nil ?_
  refine L_seq ?_
  refine L_region ?_
  refine F_val rfl rfl rfl (O_move rfl rfl) ?_
  refine F_val rfl rfl rfl (O_assign rfl rfl) ?_
  refine F_nil ?_
  refine L_ret (fun a ha => (post_ret1 ha rfl rfl ?_))
  obtain rfl := Option.some.inj H
  exact ⟨rfl, HS0.sel [] rfl⟩

/-! function 19: valise/valiselaw6.still -/
theorem valiselaw6_still.calls {S0 : Nat → Prop} {w0 : World} {A_given_0 : Option Addr} {c_given_0 : Nat} {A_a_1 : Option Addr} {c_a_1 : Nat} {l_given_0 : List Int} {m_given_0 : Nat} {l_a_1 : List Int} {r : Bool} (HS0 : Hp S0 w0 w0 [.rd A_given_0 (rowC (Eint .i64) l_given_0), .rd A_a_1 (rowC (Eint .i64) l_a_1)]) (hc_given_0 : l_given_0.length ≤ c_given_0) (hc_a_1 : l_a_1.length ≤ c_a_1) (h : valiselaw6_still.f l_given_0 m_given_0 l_a_1 = some r) :
    Calls Try.prog 19 ([.slice A_given_0 (l_given_0.take m_given_0).length c_given_0, .slice A_a_1 l_a_1.length c_a_1] : List Value).toArray w0 (fun e w => e = .returned (.bool r) ∧ Hp S0 w0 w []) := by
  have H : ((if ((l_given_0.take m_given_0).length : Int) ≠ (l_a_1.length : Int) then (some false) else (gd ((0 : Int) ≤ (IntKind.i64.wrap ((l_a_1.length : Int) + 8)) ∧ (IntKind.i64.wrap ((l_a_1.length : Int) + 8)) ≤ (l_given_0.length : Int)) ((valiselaw6_still.l1 FU 0 l_given_0 l_a_1).bind fun (yj4 : Sum (Bool) (Unit)) => onR yj4 (fun r => some r) fun () => some true))) : Option (Bool)) = some r := h
  refine calls_start Try.func19 rfl rfl ?_
  refine L_seq ?_
  refine L_region ?_
  refine F_val rfl rfl rfl (O_assign rfl rfl) ?_
  refine F_nil ?_
  refine L_seq ?_
  refine L_seq ?_
  refine L_region ?_
  refine F_val rfl rfl rfl (O_move rfl rfl) ?_
  refine F_val rfl rfl rfl (O_len rfl rfl Try.underlying22) ?_
  refine F_val rfl rfl rfl (O_move rfl rfl) ?_
  refine F_val rfl rfl rfl (O_len rfl rfl Try.underlying22) ?_
  refine F_val rfl rfl rfl (O_ne rfl rfl rfl) ?_
  refine F_nil ?_
  refine L_condP rfl (fun c1 => ?_) (fun c1 => ?_)
  · have H := of_pos H c1
    refine L_seq ?_
    refine L_region ?_
    refine F_val rfl rfl rfl (O_assign rfl rfl) ?_
    refine F_nil ?_
    refine L_ret (fun a ha => (post_ret1 ha rfl rfl ?_))
    obtain rfl := Option.some.inj H
    exact ⟨rfl, HS0.sel [] rfl⟩
  · have H := of_neg H c1
    refine L_skip ?_
    refine L_seq ?_
    refine L_region ?_
    refine F_val rfl rfl rfl (O_move rfl rfl) ?_
    refine F_val rfl rfl rfl (O_move rfl rfl) ?_
    refine F_val rfl rfl rfl (O_len rfl rfl Try.underlying22) ?_
    refine F_val rfl rfl rfl (O_add rfl rfl rfl) ?_
    obtain ⟨⟨g2, g3⟩, H⟩ := of_gd H
    refine F_val rfl rfl rfl (O_toE l_given_0 rfl rfl rfl Try.underlying22 size3 g2 g3 hc_given_0) ?_
    refine F_val rfl rfl rfl (O_assign rfl rfl) ?_
    refine F_nil ?_
    refine L_seq ?_
    refine L_seq ?_
    refine L_region ?_
    refine F_val rfl rfl rfl (O_assign rfl rfl) ?_
    refine F_nil ?_
    obtain ⟨yj4, Hyj4, H⟩ := of_bind H
    refine L_join (fun a w => yj4 = Sum.inr () ∧ Is Try.f19.ntmps a [] ∧ Hp S0 w0 w [.rd A_given_0 (rowC (Eint .i64) l_given_0), .rd A_a_1 (rowC (Eint .i64) l_a_1)]) (fun Qj4 hNj4 hOj4 => ?_) (fun a w hR => ?_)
    · have HOj4 := H
      have H := Hyj4
      refine L_blk (fun Qb107 hNb107 hXb107 hOb107 => ?_)
      refine L_lp (fun k a w => ∃ (i_174 : Int), Is Try.f19.ntmps a [(1, .slice A_a_1 l_a_1.length c_a_1), (5, .slice A_given_0 (l_given_0.take (IntKind.i64.wrap ((l_a_1.length : Int) + 8) : Int).toNat).length c_given_0), (6, .int .i64 i_174)] ∧ Hp S0 w0 w [.rd A_given_0 (rowC (Eint .i64) l_given_0), .rd A_a_1 (rowC (Eint .i64) l_a_1)] ∧ valiselaw6_still.l1 k i_174 l_given_0 l_a_1 = some yj4) FU (fun a ha => ⟨_, Is.cons ha (Is.cons ha (Is.cons ha (Is.nil ha) rfl) rfl) rfl, HS0.sel [0, 1] rfl, H⟩) (fun kp173 a w175 hI Qp173 hNp173 hOp173 => ?_)
      obtain ⟨i_174, ha, HS176, HAp173⟩ := hI
      cases kp173 with
      | zero => cases (show (none : Option _) = some _ from HAp173)
      | succ kp173 =>
        have H := (valiselaw6_still.l1.eq_2 ..).symm.trans HAp173
        refine wpLF_app ?_ ha
        refine L_seq ?_
        refine L_seq ?_
        refine L_region ?_
        refine F_val rfl rfl rfl (O_move rfl rfl) ?_
        refine F_val rfl rfl rfl (O_move rfl rfl) ?_
        refine F_val rfl rfl rfl (O_len rfl rfl Try.underlying22) ?_
        refine F_val rfl rfl rfl (O_lt rfl rfl rfl) ?_
        refine F_nil ?_
        refine L_condP rfl (fun c177 => ?_) (fun c177 => ?_)
        · have H := of_pos H c177
          refine L_skip ?_
          refine L_seq ?_
          refine L_blk (fun Q178 hN178 hX178 hO178 => ?_)
          refine L_seq ?_
          refine L_quiet mix (by kernel_rfl) ?_
          refine Q_val rfl rfl rfl (fun wq hq => O_move rfl rfl) ?_
          refine Q_val rfl rfl rfl (fun wq hq => O_move rfl rfl) ?_
          refine Q_val rfl rfl rfl (fun wq hq => O_len rfl rfl Try.underlying22) ?_
          refine Q_val rfl rfl rfl (fun wq hq => O_lt rfl rfl rfl) ?_
          refine Q_val rfl rfl rfl (fun wq hq => O_move rfl rfl) ?_
          obtain ⟨b183, Hb183, H⟩ := of_bind H
          refine Q_grp 10 [(37, .bool b183), (1, .slice A_a_1 l_a_1.length c_a_1), (5, .slice A_given_0 (l_given_0.take (IntKind.i64.wrap ((l_a_1.length : Int) + 8) : Int).toNat).length c_given_0), (6, .int .i64 i_174)] ?_ ?_
          · rcases Decidable.em (i_174 < (l_a_1.length : Int)) with c184 | c184
            · refine Q_know (i := 27) rfl (dec_t c184) ?_
              have H := of_pos Hb183 c184
              refine Q_gval rfl rfl rfl rfl rfl rfl (fun wq hq => O_move rfl rfl) ?_
              refine Q_gval rfl rfl rfl rfl rfl rfl (fun wq hq => O_move rfl rfl) ?_
              obtain ⟨⟨g185, g186⟩, H⟩ := of_gd H
              refine Q_gval rfl rfl rfl rfl rfl rfl (fun wq hq => O_idx rfl rfl rfl Try.underlying22 size3 g185 g186 (Cells.isA (Cells.sub ((HS176.keep hq).cells_rd (i := 0) rfl) (Cells.take ((HS176.keep hq).cells_rd (i := 0) rfl) (IntKind.i64.wrap ((l_a_1.length : Int) + 8) : Int).toNat)) (rowC_ne (E := (Eint .i64)) g185 g186 (by decide)))) ?_
              refine Q_gval rfl rfl rfl rfl rfl rfl (fun wq hq => O_loadC rfl rfl flat3 (Cells.sub ((HS176.keep hq).cells_rd (i := 0) rfl) (Cells.take ((HS176.keep hq).cells_rd (i := 0) rfl) (IntKind.i64.wrap ((l_a_1.length : Int) + 8) : Int).toNat)) (int_cell g185 g186)) ?_
              refine Q_gval rfl rfl rfl rfl rfl rfl (fun wq hq => O_move rfl rfl) ?_
              refine Q_gval rfl rfl rfl rfl rfl rfl (fun wq hq => O_move rfl rfl) ?_
              obtain ⟨⟨g187, g188⟩, H⟩ := of_gd H
              refine Q_gval rfl rfl rfl rfl rfl rfl (fun wq hq => O_idx rfl rfl rfl Try.underlying22 size3 g187 g188 (Cells.isA ((HS176.keep hq).cells_rd (i := 1) rfl) (rowC_ne (E := (Eint .i64)) g187 g188 (by decide)))) ?_
              refine Q_gval rfl rfl rfl rfl rfl rfl (fun wq hq => O_loadC rfl rfl flat3 ((HS176.keep hq).cells_rd (i := 1) rfl) (int_cell g187 g188)) ?_
              refine Q_gval rfl rfl rfl rfl rfl rfl (fun wq hq => O_ne rfl rfl rfl) ?_
              refine Q_val rfl rfl rfl (fun wq hq => O_pickT rfl rfl rfl) ?_
              refine Q_know (i := 37) rfl (congrArg Value.bool (Option.some.inj H)) ?_
              exact Q_grpE (fun a ha => Is.cons ha (Is.cons ha (Is.cons ha (Is.cons ha (Is.nil ha) rfl) rfl) rfl) rfl)
            · refine Q_know (i := 27) rfl (dec_f c184) ?_
              have H := of_neg Hb183 c184
              refine Q_gskip rfl rfl rfl rfl rfl rfl rfl ?_
              refine Q_gskip rfl rfl rfl rfl rfl rfl rfl ?_
              refine Q_gskip rfl rfl rfl rfl rfl rfl rfl ?_
              refine Q_gskip rfl rfl rfl rfl rfl rfl rfl ?_
              refine Q_gskip rfl rfl rfl rfl rfl rfl rfl ?_
              refine Q_gskip rfl rfl rfl rfl rfl rfl rfl ?_
              refine Q_gskip rfl rfl rfl rfl rfl rfl rfl ?_
              refine Q_gskip rfl rfl rfl rfl rfl rfl rfl ?_
              refine Q_gskip rfl rfl rfl rfl rfl rfl rfl ?_
              refine Q_val rfl rfl rfl (fun wq hq => O_pickF rfl rfl rfl) ?_
              refine Q_know (i := 37) rfl (congrArg Value.bool (Option.some.inj H)) ?_
              exact Q_grpE (fun a ha => Is.cons ha (Is.cons ha (Is.cons ha (Is.cons ha (Is.nil ha) rfl) rfl) rfl) rfl)
          · skip
            refine Q_val rfl rfl rfl (fun wq hq => O_move rfl rfl) ?_
            obtain ⟨b195, Hb195, H⟩ := of_bind H
            refine Q_grp 12 [(50, .bool b195), (1, .slice A_a_1 l_a_1.length c_a_1), (5, .slice A_given_0 (l_given_0.take (IntKind.i64.wrap ((l_a_1.length : Int) + 8) : Int).toNat).length c_given_0), (6, .int .i64 i_174)] ?_ ?_
            · rcases Decidable.em (b183 = true) with c196 | c196
              · refine Q_know (i := 38) rfl (congrArg Value.bool c196) ?_
                have H := of_pos Hb195 c196
                refine Q_gskip rfl rfl rfl rfl rfl rfl rfl ?_
                refine Q_gskip rfl rfl rfl rfl rfl rfl rfl ?_
                refine Q_gskip rfl rfl rfl rfl rfl rfl rfl ?_
                refine Q_gskip rfl rfl rfl rfl rfl rfl rfl ?_
                refine Q_gskip rfl rfl rfl rfl rfl rfl rfl ?_
                refine Q_gskip rfl rfl rfl rfl rfl rfl rfl ?_
                refine Q_gskip rfl rfl rfl rfl rfl rfl rfl ?_
                refine Q_gskip rfl rfl rfl rfl rfl rfl rfl ?_
                refine Q_gskip rfl rfl rfl rfl rfl rfl rfl ?_
                refine Q_gskip rfl rfl rfl rfl rfl rfl rfl ?_
                refine Q_gskip rfl rfl rfl rfl rfl rfl rfl ?_
                refine Q_val rfl rfl rfl (fun wq hq => O_pickT rfl rfl rfl) ?_
                refine Q_know (i := 50) rfl (congrArg Value.bool (Option.some.inj H)) ?_
                exact Q_grpE (fun a ha => Is.cons ha (Is.cons ha (Is.cons ha (Is.cons ha (Is.nil ha) rfl) rfl) rfl) rfl)
              · refine Q_know (i := 38) rfl (congrArg Value.bool (Bool.eq_false_iff.mpr c196)) ?_
                have H := of_neg Hb195 c196
                refine Q_gval rfl rfl rfl rfl rfl rfl (fun wq hq => O_move rfl rfl) ?_
                refine Q_gval rfl rfl rfl rfl rfl rfl (fun wq hq => O_move rfl rfl) ?_
                refine Q_gval rfl rfl rfl rfl rfl rfl (fun wq hq => O_len rfl rfl Try.underlying22) ?_
                refine Q_gval rfl rfl rfl rfl rfl rfl (fun wq hq => O_ge rfl rfl rfl) ?_
                refine Q_gval rfl rfl rfl rfl rfl rfl (fun wq hq => O_move rfl rfl) ?_
                obtain ⟨b199, Hb199, H⟩ := of_bind H
                refine Q_grp 6 [(49, .bool b199), (1, .slice A_a_1 l_a_1.length c_a_1), (5, .slice A_given_0 (l_given_0.take (IntKind.i64.wrap ((l_a_1.length : Int) + 8) : Int).toNat).length c_given_0), (6, .int .i64 i_174), (38, .bool false), (39, .int .i64 i_174), (40, .slice A_a_1 l_a_1.length c_a_1), (41, .int .i64 (l_a_1.length : Int)), (42, .bool (decide ((l_a_1.length : Int) ≤ i_174))), (43, .bool (decide ((l_a_1.length : Int) ≤ i_174)))] ?_ ?_
                · rcases Decidable.em ((l_a_1.length : Int) ≤ i_174) with c200 | c200
                  · refine Q_know (i := 43) rfl (dec_t c200) ?_
                    have H := of_pos Hb199 c200
                    refine Q_gval rfl rfl rfl rfl rfl rfl (fun wq hq => O_move rfl rfl) ?_
                    refine Q_gval rfl rfl rfl rfl rfl rfl (fun wq hq => O_move rfl rfl) ?_
                    obtain ⟨⟨g201, g202⟩, H⟩ := of_gd H
                    refine Q_gval rfl rfl rfl rfl rfl rfl (fun wq hq => O_idx rfl rfl rfl Try.underlying22 size3 g201 g202 (Cells.isA (Cells.sub ((HS176.keep hq).cells_rd (i := 0) rfl) (Cells.take ((HS176.keep hq).cells_rd (i := 0) rfl) (IntKind.i64.wrap ((l_a_1.length : Int) + 8) : Int).toNat)) (rowC_ne (E := (Eint .i64)) g201 g202 (by decide)))) ?_
                    refine Q_gval rfl rfl rfl rfl rfl rfl (fun wq hq => O_loadC rfl rfl flat3 (Cells.sub ((HS176.keep hq).cells_rd (i := 0) rfl) (Cells.take ((HS176.keep hq).cells_rd (i := 0) rfl) (IntKind.i64.wrap ((l_a_1.length : Int) + 8) : Int).toNat)) (int_cell g201 g202)) ?_
                    refine Q_gval rfl rfl rfl rfl rfl rfl (fun wq hq => O_ne rfl rfl rfl) ?_
                    refine Q_gval rfl rfl rfl rfl rfl rfl (fun wq hq => O_pickT rfl rfl rfl) ?_
                    refine Q_know (i := 49) rfl (congrArg Value.bool (Option.some.inj H)) ?_
                    exact Q_grpE (fun a ha => Is.cons ha (Is.cons ha (Is.cons ha (Is.cons ha (Is.cons ha (Is.cons ha (Is.cons ha (Is.cons ha (Is.cons ha (Is.cons (i := 43) (v := .bool (decide ((l_a_1.length : Int) ≤ i_174))) ha (Is.nil ha) (congrArg some (dec_t c200).symm)) rfl) rfl) rfl) rfl) rfl) rfl) rfl) rfl) rfl)
                  · refine Q_know (i := 43) rfl (dec_f c200) ?_
                    have H := of_neg Hb199 c200
                    refine Q_gskip rfl rfl rfl rfl rfl rfl rfl ?_
                    refine Q_gskip rfl rfl rfl rfl rfl rfl rfl ?_
                    refine Q_gskip rfl rfl rfl rfl rfl rfl rfl ?_
                    refine Q_gskip rfl rfl rfl rfl rfl rfl rfl ?_
                    refine Q_gskip rfl rfl rfl rfl rfl rfl rfl ?_
                    refine Q_gval rfl rfl rfl rfl rfl rfl (fun wq hq => O_pickF rfl rfl rfl) ?_
                    refine Q_know (i := 49) rfl (congrArg Value.bool (Option.some.inj H)) ?_
                    exact Q_grpE (fun a ha => Is.cons ha (Is.cons ha (Is.cons ha (Is.cons ha (Is.cons ha (Is.cons ha (Is.cons ha (Is.cons ha (Is.cons ha (Is.cons (i := 43) (v := .bool (decide ((l_a_1.length : Int) ≤ i_174))) ha (Is.nil ha) (congrArg some (dec_f c200).symm)) rfl) rfl) rfl) rfl) rfl) rfl) rfl) rfl) rfl)
                · skip
                  refine Q_val rfl rfl rfl (fun wq hq => O_pickF rfl rfl rfl) ?_
                  refine Q_know (i := 50) rfl (congrArg Value.bool (Option.some.inj H)) ?_
                  exact Q_grpE (fun a ha => Is.cons ha (Is.cons ha (Is.cons ha (Is.cons ha (Is.nil ha) rfl) rfl) rfl) rfl)
            · skip
              refine Q_nil (fun w203 hw204 => ?_)
              have HS205 := HS176.keep hw204
              refine L_cond rfl (fun c206 => ?_) (fun c206 => ?_)
              · have H := of_pos H c206
                refine L_seq ?_
                refine L_region ?_
                refine F_val rfl rfl rfl (O_assign rfl rfl) ?_
                refine F_nil ?_
                refine L_ret (fun a ha => (hO178 .ret a _ rfl (hOp173 .ret a _ rfl (hOb107 .ret a _ rfl (hOj4 .ret a _ rfl (post_ret1 ha rfl rfl ?_))))))
                obtain rfl := Option.some.inj H
                obtain rfl := Option.some.inj (show (some false : Option (Bool)) = some _ from HOj4)
                exact ⟨rfl, HS205.sel [] rfl⟩
              · have H := of_neg H (by rw [c206]; exact Bool.false_ne_true)
                refine L_skip ?_
                refine L_endB hN178 ?_
                refine L_region ?_
                refine F_val rfl rfl rfl (O_move rfl rfl) ?_
                refine F_val rfl rfl rfl (O_add rfl rfl rfl) ?_
                obtain ⟨x207, h208, H⟩ := of_bnd H
                refine F_val rfl rfl rfl (O_assign' rfl rfl (congrArg (Value.int .i64) h208)) ?_
                refine F_nil ?_
                refine L_nil (fun a ha => hNp173 _ a _ (Nat.lt_succ_self _) ⟨_, Is.cons ha (Is.cons ha (Is.cons ha (Is.nil ha) rfl) rfl) rfl, HS205.sel [0, 1] rfl, H⟩)
        · have H := of_neg H c177
          refine L_exitB (fun a w h => hOp173 (.exit 0) a w rfl (hXb107 a w h)) ?_
          refine L_nil (fun a ha => hNj4 a _ ⟨(Option.some.inj H).symm, Is.nil ha, HS176.sel [0, 1] rfl⟩)
    · obtain ⟨rfl, ha, HS210⟩ := hR
      refine wpLF_app ?_ ha
      have H := (onR_inr _ _ _).symm.trans H
      refine L_seq ?_
      refine L_region ?_
      refine F_val rfl rfl rfl (O_assign rfl rfl) ?_
      refine F_nil ?_
      refine L_ret (fun a ha => (post_ret1 ha rfl rfl ?_))
      obtain rfl := Option.some.inj H
      exact ⟨rfl, HS210.sel [] rfl⟩

/-! function 3: valise/valiselaw6.BuildCosts -/
theorem valiselaw6_BuildCosts.calls {S0 : Nat → Prop} {w0 : World} {A_freq_0 : Option Addr} {c_freq_0 : Nat} {A_lens_1 : Option Addr} {c_lens_1 : Nat} {l_freq_0 : List Int} {l_lens_1 : List Int} {r : Bool} (HS0 : Hp S0 w0 w0 [.rd A_freq_0 (rowC (Eint .i64) l_freq_0), .rd A_lens_1 (rowC (Eint .i64) l_lens_1)]) (hc_freq_0 : l_freq_0.length ≤ c_freq_0) (hc_lens_1 : l_lens_1.length ≤ c_lens_1) (h : valiselaw6_BuildCosts.f l_freq_0 l_lens_1 = some r) :
    Calls Try.prog 3 ([.slice A_freq_0 l_freq_0.length c_freq_0, .slice A_lens_1 l_lens_1.length c_lens_1] : List Value).toArray w0 (fun e w => e = .returned (.bool r) ∧ Hp S0 w0 w []) := by
  have H : (((valiselaw6_lent.f l_freq_0).bind fun (z5, z6) => (valiselaw6_lent.f l_lens_1).bind fun (z16, z17) => (build_Cost.f (z5.take z6) (z16.take z17)).bind fun (z27, z28) => (valiseref6_Cost.f l_freq_0 l_lens_1).bind fun (z35, z36) => (valiselaw6_num.f z28).bind fun z43 => if (z43 = z36) ∧ (z27 = z35) then ((valiselaw6_still.f z5 z6 l_freq_0).bind fun z52 => if z52 = true then ((valiselaw6_still.f z16 z17 l_lens_1).bind fun z60 => some z60) else (some false)) else (some false)) : Option (Bool)) = some r := h
  refine calls_start Try.func3 rfl rfl ?_
  refine L_seq ?_
  refine L_region ?_
  refine F_val rfl rfl rfl (O_assign rfl rfl) ?_
  refine F_nil ?_
  refine L_seq ?_
  refine L_region ?_
  refine F_val rfl rfl rfl (O_move rfl rfl) ?_
  obtain ⟨⟨z5, z6⟩, h4, H⟩ := of_bind H
  refine F_call (xs := [.tmp 11]) rfl rfl rfl rfl Try.func15 nm15 rfl rfl ((valiselaw6_lent.calls (HS0.give [] rfl (Lent.rd HS0 (Lent.nil) (i := 0) rfl ((HS0.cells_rd (i := 0) rfl).self))) hc_freq_0 h4).mono (fun e w hc => ?_))
  obtain ⟨A9, c10, rfl, HSo⟩ := hc
  refine ⟨.slice A9 (z5.take z6).length c10, rfl, ?_⟩
  have HS8 : Hp S0 w0 w [.rd A_freq_0 (rowC (Eint .i64) l_freq_0), .rd A_lens_1 (rowC (Eint .i64) l_lens_1), .own A9 c10 (rowC (Eint .i64) z5) 3 (Eint .i64).sz] := (HS0.back [] HSo rfl).sel [0, 1, 2] rfl
  refine F_val rfl rfl rfl (O_assign rfl rfl) ?_
  refine F_nil ?_
  refine L_seq ?_
  refine L_region ?_
  refine F_val rfl rfl rfl (O_move rfl rfl) ?_
  obtain ⟨⟨z16, z17⟩, h15, H⟩ := of_bind H
  refine F_call (xs := [.tmp 13]) rfl rfl rfl rfl Try.func15 nm15 rfl rfl ((valiselaw6_lent.calls (HS8.give [] rfl (Lent.rd HS8 (Lent.nil) (i := 1) rfl ((HS8.cells_rd (i := 1) rfl).self))) hc_lens_1 h15).mono (fun e w hc => ?_))
  obtain ⟨A20, c21, rfl, HSo⟩ := hc
  refine ⟨.slice A20 (z16.take z17).length c21, rfl, ?_⟩
  have HS19 : Hp S0 w0 w [.rd A_freq_0 (rowC (Eint .i64) l_freq_0), .rd A_lens_1 (rowC (Eint .i64) l_lens_1), .own A9 c10 (rowC (Eint .i64) z5) 3 (Eint .i64).sz, .own A20 c21 (rowC (Eint .i64) z16) 3 (Eint .i64).sz] := (HS8.back [] HSo rfl).sel [0, 1, 2, 3] rfl
  refine F_val rfl rfl rfl (O_assign rfl rfl) ?_
  refine F_nil ?_
  refine L_seq ?_
  refine L_region ?_
  refine F_val rfl rfl rfl (O_move rfl rfl) ?_
  refine F_val rfl rfl rfl (O_move rfl rfl) ?_
  obtain ⟨⟨z27, z28⟩, h26, H⟩ := of_bind H
  refine F_call (xs := [.tmp 16, .tmp 17]) rfl rfl rfl rfl Try.func16 nm16 rfl rfl ((build_Cost.calls (HS19.give [] rfl (Lent.own HS19 (Lent.own HS19 (Lent.nil) (i := 3) rfl rfl (Cells.take (HS19.cells_own (i := 3) rfl) z17)) (i := 2) rfl rfl (Cells.take (HS19.cells_own (i := 2) rfl) z6))) (Nat.le_trans (List.length_take_le' _ _) (HS19.own_capE (i := 2) rfl (by decide))) (Nat.le_trans (List.length_take_le' _ _) (HS19.own_capE (i := 3) rfl (by decide))) h26).mono (fun e w hc => ?_))
  obtain ⟨rfl, HSo⟩ := hc
  refine ⟨.tuple #[.int .i64 z27, .int .i64 z28], rfl, ?_⟩
  have HS30 : Hp S0 w0 w [.rd A_freq_0 (rowC (Eint .i64) l_freq_0), .rd A_lens_1 (rowC (Eint .i64) l_lens_1), .own A9 c10 (rowC (Eint .i64) z5) 3 (Eint .i64).sz, .own A20 c21 (rowC (Eint .i64) z16) 3 (Eint .i64).sz] := (HS19.back [] HSo rfl).sel [0, 1, 2, 3] rfl
  refine F_val rfl rfl rfl (O_move rfl rfl) ?_
  refine F_val rfl rfl rfl (O_extract (v := .int .i64 z27) rfl rfl rfl) ?_
  refine F_val rfl rfl rfl (O_extract (v := .int .i64 z28) rfl rfl rfl) ?_
  refine F_val rfl rfl rfl (O_assign rfl rfl) ?_
  refine F_val rfl rfl rfl (O_assign rfl rfl) ?_
  refine F_nil ?_
  refine L_seq ?_
  refine L_region ?_
  refine F_val rfl rfl rfl (O_move rfl rfl) ?_
  refine F_val rfl rfl rfl (O_move rfl rfl) ?_
  obtain ⟨⟨z35, z36⟩, h34, H⟩ := of_bind H
  refine F_call (xs := [.tmp 22, .tmp 23]) rfl rfl rfl rfl Try.func17 nm17 rfl rfl ((valiseref6_Cost.calls (HS30.give [] rfl (Lent.rd HS30 (Lent.rd HS30 (Lent.nil) (i := 1) rfl ((HS30.cells_rd (i := 1) rfl).self)) (i := 0) rfl ((HS30.cells_rd (i := 0) rfl).self))) hc_freq_0 hc_lens_1 h34).mono (fun e w hc => ?_))
  obtain ⟨rfl, HSo⟩ := hc
  refine ⟨.tuple #[.int .i64 z35, .int .i64 z36], rfl, ?_⟩
  have HS38 : Hp S0 w0 w [.rd A_freq_0 (rowC (Eint .i64) l_freq_0), .rd A_lens_1 (rowC (Eint .i64) l_lens_1), .own A9 c10 (rowC (Eint .i64) z5) 3 (Eint .i64).sz, .own A20 c21 (rowC (Eint .i64) z16) 3 (Eint .i64).sz] := (HS30.back [] HSo rfl).sel [0, 1, 2, 3] rfl
  refine F_val rfl rfl rfl (O_move rfl rfl) ?_
  refine F_val rfl rfl rfl (O_extract (v := .int .i64 z35) rfl rfl rfl) ?_
  refine F_val rfl rfl rfl (O_extract (v := .int .i64 z36) rfl rfl rfl) ?_
  refine F_val rfl rfl rfl (O_assign rfl rfl) ?_
  refine F_val rfl rfl rfl (O_assign rfl rfl) ?_
  refine F_nil ?_
  refine L_seq ?_
  refine L_region ?_
  refine F_val rfl rfl rfl (O_move rfl rfl) ?_
  obtain ⟨z43, h42, H⟩ := of_bind H
  refine F_call (xs := [.tmp 27]) rfl rfl rfl rfl Try.func18 nm18 rfl rfl ((valiselaw6_num.calls (HS38.give [] rfl (Lent.nil)) h42).mono (fun e w hc => ?_))
  obtain ⟨rfl, HSo⟩ := hc
  refine ⟨.int .i64 z43, rfl, ?_⟩
  have HS45 : Hp S0 w0 w [.rd A_freq_0 (rowC (Eint .i64) l_freq_0), .rd A_lens_1 (rowC (Eint .i64) l_lens_1), .own A9 c10 (rowC (Eint .i64) z5) 3 (Eint .i64).sz, .own A20 c21 (rowC (Eint .i64) z16) 3 (Eint .i64).sz] := (HS38.back [] HSo rfl).sel [0, 1, 2, 3] rfl
  refine F_val rfl rfl rfl (O_move rfl rfl) ?_
  refine F_val rfl rfl rfl (O_eq rfl rfl rfl) ?_
  refine F_val rfl rfl rfl (O_move rfl rfl) ?_
  refine F_grp 4 [(35, .bool (decide ((z43 = z36) ∧ (z27 = z35)))), (0, .slice A_freq_0 l_freq_0.length c_freq_0), (1, .slice A_lens_1 l_lens_1.length c_lens_1), (5, .slice A9 (z5.take z6).length c10), (6, .slice A20 (z16.take z17).length c21)] ?_ ?_
  · rcases Decidable.em (z43 = z36) with c46 | c46
    · refine F_know (i := 31) rfl (dec_t c46) ?_
      refine F_gval rfl rfl rfl rfl rfl rfl (O_move rfl rfl) ?_
      refine F_gval rfl rfl rfl rfl rfl rfl (O_move rfl rfl) ?_
      refine F_gval rfl rfl rfl rfl rfl rfl (O_eq rfl rfl rfl) ?_
      refine F_val rfl rfl rfl (O_pickT rfl rfl rfl) ?_
      refine F_know (i := 35) rfl (dec_and_t (q := z27 = z35) c46) ?_
      exact F_grpE (fun a ha => Is.cons ha (Is.cons ha (Is.cons ha (Is.cons ha (Is.cons ha (Is.nil ha) rfl) rfl) rfl) rfl) rfl)
    · refine F_know (i := 31) rfl (dec_f c46) ?_
      refine F_gskip rfl rfl rfl rfl rfl rfl rfl ?_
      refine F_gskip rfl rfl rfl rfl rfl rfl rfl ?_
      refine F_gskip rfl rfl rfl rfl rfl rfl rfl ?_
      refine F_val rfl rfl rfl (O_pickF rfl rfl rfl) ?_
      refine F_know (i := 35) rfl (dec_and_f (q := z27 = z35) c46) ?_
      exact F_grpE (fun a ha => Is.cons ha (Is.cons ha (Is.cons ha (Is.cons ha (Is.cons ha (Is.nil ha) rfl) rfl) rfl) rfl) rfl)
  · skip
    refine F_val rfl rfl rfl (O_move rfl rfl) ?_
    rcases Decidable.em ((z43 = z36) ∧ (z27 = z35)) with c47 | c47
    · have H := of_pos H c47
      refine F_know (i := 36) rfl (dec_t c47) ?_
      refine F_gval rfl rfl rfl rfl rfl rfl (O_move rfl rfl) ?_
      refine F_gval rfl rfl rfl rfl rfl rfl (O_move rfl rfl) ?_
      obtain ⟨z52, h51, H⟩ := of_bind H
      refine F_gcall (xs := [.tmp 37, .tmp 38]) rfl rfl rfl rfl rfl rfl rfl Try.func19 nm19 rfl rfl ((valiselaw6_still.calls (HS45.give [] rfl (Lent.own HS45 (Lent.rd HS45 (Lent.nil) (i := 0) rfl ((HS45.cells_rd (i := 0) rfl).self)) (i := 2) rfl rfl ((HS45.cells_own (i := 2) rfl).self))) (HS45.own_capE (i := 2) rfl (by decide)) hc_freq_0 h51).mono (fun e w hc => ?_))
      obtain ⟨rfl, HSo⟩ := hc
      refine ⟨.bool z52, rfl, ?_⟩
      have HS54 : Hp S0 w0 w [.rd A_freq_0 (rowC (Eint .i64) l_freq_0), .rd A_lens_1 (rowC (Eint .i64) l_lens_1), .own A9 c10 (rowC (Eint .i64) z5) 3 (Eint .i64).sz, .own A20 c21 (rowC (Eint .i64) z16) 3 (Eint .i64).sz] := (HS45.back [] HSo rfl).sel [0, 1, 2, 3] rfl
      refine F_val rfl rfl rfl (O_pickT rfl rfl rfl) ?_
      refine F_val rfl rfl rfl (O_move rfl rfl) ?_
      rcases Decidable.em (z52 = true) with c55 | c55
      · have H := of_pos H c55
        refine F_know (i := 41) rfl (congrArg Value.bool c55) ?_
        refine F_gval rfl rfl rfl rfl rfl rfl (O_move rfl rfl) ?_
        refine F_gval rfl rfl rfl rfl rfl rfl (O_move rfl rfl) ?_
        obtain ⟨z60, h59, H⟩ := of_bind H
        refine F_gcall (xs := [.tmp 42, .tmp 43]) rfl rfl rfl rfl rfl rfl rfl Try.func19 nm19 rfl rfl ((valiselaw6_still.calls (HS54.give [] rfl (Lent.own HS54 (Lent.rd HS54 (Lent.nil) (i := 1) rfl ((HS54.cells_rd (i := 1) rfl).self)) (i := 3) rfl rfl ((HS54.cells_own (i := 3) rfl).self))) (HS54.own_capE (i := 3) rfl (by decide)) hc_lens_1 h59).mono (fun e w hc => ?_))
        obtain ⟨rfl, HSo⟩ := hc
        refine ⟨.bool z60, rfl, ?_⟩
        have HS62 : Hp S0 w0 w [.rd A_freq_0 (rowC (Eint .i64) l_freq_0), .rd A_lens_1 (rowC (Eint .i64) l_lens_1), .own A9 c10 (rowC (Eint .i64) z5) 3 (Eint .i64).sz, .own A20 c21 (rowC (Eint .i64) z16) 3 (Eint .i64).sz] := (HS54.back [] HSo rfl).sel [0, 1, 2, 3] rfl
        refine F_val rfl rfl rfl (O_pickT rfl rfl rfl) ?_
        refine F_val rfl rfl rfl (O_assign rfl rfl) ?_
        refine F_nil ?_
        refine L_ret (fun a ha => (post_ret1 ha rfl rfl ?_))
        obtain rfl := Option.some.inj H
        exact ⟨rfl, HS62.sel [] rfl⟩
      · have H := of_neg H c55
        refine F_know (i := 41) rfl (congrArg Value.bool (Bool.eq_false_iff.mpr c55)) ?_
        refine F_gskip rfl rfl rfl rfl rfl rfl rfl ?_
        refine F_gskip rfl rfl rfl rfl rfl rfl rfl ?_
        refine F_gskip rfl rfl rfl rfl rfl rfl rfl ?_
        refine F_val rfl rfl rfl (O_pickF rfl rfl rfl) ?_
        refine F_val rfl rfl rfl (O_assign rfl rfl) ?_
        refine F_nil ?_
        refine L_ret (fun a ha => (post_ret1 ha rfl rfl ?_))
        obtain rfl := Option.some.inj H
        exact ⟨rfl, HS54.sel [] rfl⟩
    · have H := of_neg H c47
      refine F_know (i := 36) rfl (dec_f c47) ?_
      refine F_gskip rfl rfl rfl rfl rfl rfl rfl ?_
      refine F_gskip rfl rfl rfl rfl rfl rfl rfl ?_
      refine F_gskip rfl rfl rfl rfl rfl rfl rfl ?_
      refine F_val rfl rfl rfl (O_pickF rfl rfl rfl) ?_
      refine F_val rfl rfl rfl (O_move rfl rfl) ?_
      refine F_gskip rfl rfl rfl rfl rfl rfl rfl ?_
      refine F_gskip rfl rfl rfl rfl rfl rfl rfl ?_
      refine F_gskip rfl rfl rfl rfl rfl rfl rfl ?_
      refine F_val rfl rfl rfl (O_pickF rfl rfl rfl) ?_
      refine F_val rfl rfl rfl (O_assign rfl rfl) ?_
      refine F_nil ?_
      refine L_ret (fun a ha => (post_ret1 ha rfl rfl ?_))
      obtain rfl := Option.some.inj H
      exact ⟨rfl, HS45.sel [] rfl⟩

end Go.Proofs.Ytbegkkmngkpjmaa
