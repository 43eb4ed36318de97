import Derived.Test.YtbegkkmngkpjmaaChecked
import Derived.Test.YtbegkkmngkpjmaaGBuildCodedPure
set_option linter.unusedVariables false
set_option linter.unusedSimpArgs false
set_option maxRecDepth 10000
set_option maxHeartbeats 1000000
namespace Go.Proofs.Ytbegkkmngkpjmaa
open Go Go.V Go.V.Pu
theorem mix : Try.prog.follows .mixedOrders = true := by kernel_rfl
theorem info3 : (Try.prog.info? 3).map (fun i => (i.zero, i.size, i.bytes)) = some (some (.int .i64 0), 1, 8) := by kernel_rfl
theorem size5 : (Try.prog.info? 5).map (·.size) = some 1 := by kernel_rfl
theorem flat5 : Flat Try.prog 5 := Flat.of Try.underlying5 rfl
theorem size3 : (Try.prog.info? 3).map (·.size) = some 1 := by kernel_rfl
theorem flat3 : Flat Try.prog 3 := Flat.of Try.underlying3 rfl
theorem nm33 : (Try.f33.name == "runtime.NumGoroutine") = false := by kernel_rfl
theorem nm30 : (Try.f30.name == "runtime.NumGoroutine") = false := by kernel_rfl
theorem nm24 : (Try.f24.name == "runtime.NumGoroutine") = false := by kernel_rfl
theorem flat22 : Flat Try.prog 22 := Flat.of Try.underlying22 rfl
theorem nm35 : (Try.f35.name == "runtime.NumGoroutine") = false := by kernel_rfl
theorem nm37 : (Try.f37.name == "runtime.NumGoroutine") = false := by kernel_rfl
theorem nm46 : (Try.f46.name == "runtime.NumGoroutine") = false := by kernel_rfl
theorem nm70 : (Try.f70.name == "runtime.NumGoroutine") = false := by kernel_rfl
theorem nm49 : (Try.f49.name == "runtime.NumGoroutine") = false := by kernel_rfl
theorem nm48 : (Try.f48.name == "runtime.NumGoroutine") = false := by kernel_rfl
theorem nm81 : (Try.f81.name == "runtime.NumGoroutine") = false := by kernel_rfl
theorem nm89 : (Try.f89.name == "runtime.NumGoroutine") = false := by kernel_rfl
theorem nm88 : (Try.f88.name == "runtime.NumGoroutine") = false := by kernel_rfl
theorem nm82 : (Try.f82.name == "runtime.NumGoroutine") = false := by kernel_rfl
theorem nm69 : (Try.f69.name == "runtime.NumGoroutine") = false := by kernel_rfl
theorem nm47 : (Try.f47.name == "runtime.NumGoroutine") = false := by kernel_rfl
theorem info69 : (Try.prog.info? 69).map (fun i => (i.zero, i.size, i.bytes)) = some (some (.agg #[.int .i64 0, .int .i64 0, .pointer none]), 3, 24) := by kernel_rfl
theorem size69 : (Try.prog.info? 69).map (·.size) = some 3 := by kernel_rfl
theorem field69_0 : FieldAt Try.prog 69 0 0 := fun w a => by kernel_rfl
theorem wide69 : Wide Try.prog 69 3 := Wide.of Try.underlying69 rfl (by kernel_rfl)
theorem nm51 : (Try.f51.name == "runtime.NumGoroutine") = false := by kernel_rfl
theorem nm50 : (Try.f50.name == "runtime.NumGoroutine") = false := by kernel_rfl
theorem zero69 : (Try.prog.info? 69).map (·.zero) = some (some (.agg #[.int .i64 0, .int .i64 0, .pointer none])) := by kernel_rfl
theorem field69_2 : FieldAt Try.prog 69 2 2 := fun w a => by kernel_rfl
theorem field69_1 : FieldAt Try.prog 69 1 1 := fun w a => by kernel_rfl
theorem nm52 : (Try.f52.name == "runtime.NumGoroutine") = false := by kernel_rfl
theorem flat67 : Flat Try.prog 67 := Flat.of Try.underlying67 rfl
theorem nm28 : (Try.f28.name == "runtime.NumGoroutine") = false := by kernel_rfl
theorem nm26 : (Try.f26.name == "runtime.NumGoroutine") = false := by kernel_rfl
theorem nm25 : (Try.f25.name == "runtime.NumGoroutine") = false := by kernel_rfl
theorem nm16 : (Try.f16.name == "runtime.NumGoroutine") = false := by kernel_rfl
theorem nm57 : (Try.f57.name == "runtime.NumGoroutine") = false := by kernel_rfl
theorem zero103 : (Try.prog.info? 103).map (·.zero) = some (some (.agg #[.int .i64 0, .int .i64 0, .int .i64 0, .int .i64 0, .int .i64 0, .int .i64 0, .int .i64 0, .int .i64 0, .int .i64 0, .int .i64 0, .int .i64 0, .int .i64 0, .int .i64 0, .int .i64 0, .int .i64 0, .int .i64 0])) := by kernel_rfl
theorem wide103 : Wide Try.prog 103 16 := Wide.of Try.underlying103 rfl (by kernel_rfl)
theorem size103 : (Try.prog.info? 103).map (·.size) = some 16 := by kernel_rfl
theorem zarr103 (w : World) : (Instr.build 103 #[]).run Try.prog w = .ok (.agg (rowC (Eint .i64) (List.replicate 16 (0 : Int))).toArray) w := by kernel_rfl
theorem nm71 : (Try.f71.name == "runtime.NumGoroutine") = false := by kernel_rfl
theorem nm73 : (Try.f73.name == "runtime.NumGoroutine") = false := by kernel_rfl
theorem nm72 : (Try.f72.name == "runtime.NumGoroutine") = false := by kernel_rfl
theorem zero109 : (Try.prog.info? 109).map (·.zero) = some (some (.agg #[.slice none 0 0, .slice none 0 0, .int .i64 0, .int .i64 0, .int .i64 0, .int .i64 0, .int .i64 0, .int .i64 0, .int .i64 0, .int .i64 0, .int .i64 0, .int .i64 0, .int .i64 0, .int .i64 0, .int .i64 0, .int .i64 0, .int .i64 0, .int .i64 0, .int .i64 0, .int .i64 0, .int .i64 0, .int .i64 0, .int .i64 0, .int .i64 0, .int .i64 0, .int .i64 0, .int .i64 0, .int .i64 0, .int .i64 0, .int .i64 0, .int .i64 0, .int .i64 0, .int .i64 0, .int .i64 0])) := by kernel_rfl
theorem nm83 : (Try.f83.name == "runtime.NumGoroutine") = false := by kernel_rfl
theorem nm84 : (Try.f84.name == "runtime.NumGoroutine") = false := by kernel_rfl
theorem struct109 : StructAt Try.prog 109 [(0, 1), (1, 1), (2, 16), (18, 16)] [.slice none 0 0, .slice none 0 0, .int .i64 0, .int .i64 0, .int .i64 0, .int .i64 0, .int .i64 0, .int .i64 0, .int .i64 0, .int .i64 0, .int .i64 0, .int .i64 0, .int .i64 0, .int .i64 0, .int .i64 0, .int .i64 0, .int .i64 0, .int .i64 0, .int .i64 0, .int .i64 0, .int .i64 0, .int .i64 0, .int .i64 0, .int .i64 0, .int .i64 0, .int .i64 0, .int .i64 0, .int .i64 0, .int .i64 0, .int .i64 0, .int .i64 0, .int .i64 0, .int .i64 0, .int .i64 0] := StructAt.of Try.underlying109 zero109 rfl (fun w => by kernel_rfl)
theorem size109 : (Try.prog.info? 109).map (·.size) = some 34 := by kernel_rfl
theorem wide109 : Wide Try.prog 109 34 := Wide.of Try.underlying109 rfl (by kernel_rfl)
theorem nm74 : (Try.f74.name == "runtime.NumGoroutine") = false := by kernel_rfl
theorem zero112 : (Try.prog.info? 112).map (·.zero) = some (some (.agg #[.slice none 0 0, .slice none 0 0, .int .i64 0, .int .i64 0, .int .i64 0, .int .i64 0, .int .i64 0, .int .i64 0, .int .i64 0, .int .i64 0, .int .i64 0, .int .i64 0, .int .i64 0, .int .i64 0, .int .i64 0, .int .i64 0, .int .i64 0, .int .i64 0, .int .i64 0, .int .i64 0, .int .i64 0, .int .i64 0, .int .i64 0, .int .i64 0, .int .i64 0, .int .i64 0, .int .i64 0, .int .i64 0, .int .i64 0, .int .i64 0, .int .i64 0, .int .i64 0, .int .i64 0, .int .i64 0])) := by kernel_rfl
theorem struct112 : StructAt Try.prog 112 [(0, 34)] [.slice none 0 0, .slice none 0 0, .int .i64 0, .int .i64 0, .int .i64 0, .int .i64 0, .int .i64 0, .int .i64 0, .int .i64 0, .int .i64 0, .int .i64 0, .int .i64 0, .int .i64 0, .int .i64 0, .int .i64 0, .int .i64 0, .int .i64 0, .int .i64 0, .int .i64 0, .int .i64 0, .int .i64 0, .int .i64 0, .int .i64 0, .int .i64 0, .int .i64 0, .int .i64 0, .int .i64 0, .int .i64 0, .int .i64 0, .int .i64 0, .int .i64 0, .int .i64 0, .int .i64 0, .int .i64 0] := StructAt.of Try.underlying112 zero112 rfl (fun w => by kernel_rfl)
theorem nm58 : (Try.f58.name == "runtime.NumGoroutine") = false := by kernel_rfl
theorem field112_0 : FieldAt Try.prog 112 0 0 := fun w a => by kernel_rfl
theorem field109_0 : FieldAt Try.prog 109 0 0 := fun w a => by kernel_rfl
theorem nm75 : (Try.f75.name == "runtime.NumGoroutine") = false := by kernel_rfl
theorem field109_1 : FieldAt Try.prog 109 1 1 := fun w a => by kernel_rfl
theorem nm76 : (Try.f76.name == "runtime.NumGoroutine") = false := by kernel_rfl
theorem field101_1 : FieldAt Try.prog 101 1 1 := fun w a => by kernel_rfl
theorem field101_0 : FieldAt Try.prog 101 0 0 := fun w a => by kernel_rfl
theorem flat46 : Flat Try.prog 46 := Flat.of Try.underlying46 rfl
theorem info5 : (Try.prog.info? 5).map (fun i => (i.zero, i.size, i.bytes)) = some (some (.int .u8 0), 1, 1) := by kernel_rfl
theorem size46 : (Try.prog.info? 46).map (·.size) = some 1 := by kernel_rfl
theorem nm85 : (Try.f85.name == "runtime.NumGoroutine") = false := by kernel_rfl
theorem nm77 : (Try.f77.name == "runtime.NumGoroutine") = false := by kernel_rfl
theorem nm59 : (Try.f59.name == "runtime.NumGoroutine") = false := by kernel_rfl
theorem nm60 : (Try.f60.name == "runtime.NumGoroutine") = false := by kernel_rfl
theorem nm62 : (Try.f62.name == "runtime.NumGoroutine") = false := by kernel_rfl
theorem nm61 : (Try.f61.name == "runtime.NumGoroutine") = false := by kernel_rfl
theorem zero121 : (Try.prog.info? 121).map (·.zero) = some (some (.agg #[.slice none 0 0, .slice none 0 0, .int .i64 0, .int .i64 0, .int .i64 0, .int .i64 0, .int .i64 0, .int .i64 0, .int .i64 0, .int .i64 0, .int .i64 0, .int .i64 0, .int .i64 0, .int .i64 0, .int .i64 0, .int .i64 0, .int .i64 0, .int .i64 0, .int .i64 0, .int .i64 0, .int .i64 0, .int .i64 0, .int .i64 0, .int .i64 0, .int .i64 0, .int .i64 0, .int .i64 0, .int .i64 0, .int .i64 0, .int .i64 0, .int .i64 0, .int .i64 0, .int .i64 0, .int .i64 0, .slice none 0 0])) := by kernel_rfl
theorem struct121 : StructAt Try.prog 121 [(0, 34), (34, 1)] [.slice none 0 0, .slice none 0 0, .int .i64 0, .int .i64 0, .int .i64 0, .int .i64 0, .int .i64 0, .int .i64 0, .int .i64 0, .int .i64 0, .int .i64 0, .int .i64 0, .int .i64 0, .int .i64 0, .int .i64 0, .int .i64 0, .int .i64 0, .int .i64 0, .int .i64 0, .int .i64 0, .int .i64 0, .int .i64 0, .int .i64 0, .int .i64 0, .int .i64 0, .int .i64 0, .int .i64 0, .int .i64 0, .int .i64 0, .int .i64 0, .int .i64 0, .int .i64 0, .int .i64 0, .int .i64 0, .slice none 0 0] := StructAt.of Try.underlying121 zero121 rfl (fun w => by kernel_rfl)
theorem field121_0 : FieldAt Try.prog 121 0 0 := fun w a => by kernel_rfl
theorem field121_1 : FieldAt Try.prog 121 1 34 := fun w a => by kernel_rfl
theorem size22 : (Try.prog.info? 22).map (·.size) = some 1 := by kernel_rfl
theorem nm63 : (Try.f63.name == "runtime.NumGoroutine") = false := by kernel_rfl
theorem field119_1 : FieldAt Try.prog 119 1 1 := fun w a => by kernel_rfl
theorem field119_0 : FieldAt Try.prog 119 0 0 := fun w a => by kernel_rfl
theorem nm86 : (Try.f86.name == "runtime.NumGoroutine") = false := by kernel_rfl
theorem nm87 : (Try.f87.name == "runtime.NumGoroutine") = false := by kernel_rfl
theorem nm78 : (Try.f78.name == "runtime.NumGoroutine") = false := by kernel_rfl
theorem nm79 : (Try.f79.name == "runtime.NumGoroutine") = false := by kernel_rfl
theorem field109_3 : FieldAt Try.prog 109 3 18 := fun w a => by kernel_rfl
theorem field109_2 : FieldAt Try.prog 109 2 2 := fun w a => by kernel_rfl
theorem nm80 : (Try.f80.name == "runtime.NumGoroutine") = false := by kernel_rfl
theorem nm64 : (Try.f64.name == "runtime.NumGoroutine") = false := by kernel_rfl
theorem nm65 : (Try.f65.name == "runtime.NumGoroutine") = false := by kernel_rfl
theorem nm34 : (Try.f34.name == "runtime.NumGoroutine") = false := by kernel_rfl
/-! function 33: valise/valiselaw6.counts -/
theorem valiselaw6_counts.calls {S0 : Nat → Prop} {w0 : World} {A_text_0 : Option Addr} {c_text_0 : Nat} {l_text_0 : List Int} {r : List Int} (HS0 : Hp S0 w0 w0 [.rd A_text_0 (rowC (Eint .u8) l_text_0)]) (hc_text_0 : l_text_0.length ≤ c_text_0) (h : valiselaw6_counts.f l_text_0 = some r) :
    Calls Try.prog 33 ([.slice A_text_0 l_text_0.length c_text_0] : List Value).toArray w0 (fun e w => ∃ (A1 : Option Addr), ∃ (c1 : Nat), e = .returned (.slice A1 r.length c1) ∧ Hp S0 w0 w [.own A1 c1 (rowC (Eint .i64) r) 3 (Eint .i64).sz]) := by
  have H : (((valiselaw6_counts.l1 FU ([] : List Int) 0 ).bind fun l65 => (valiselaw6_counts.l3 FU l65 0 l_text_0).bind fun l175 => some l175) : Option (List Int)) = some r := h
  refine calls_start Try.func33 rfl rfl ?_
  refine L_seq ?_
  refine L_region ?_
  refine F_val rfl rfl rfl (O_assign rfl rfl) ?_
  refine F_nil ?_
  refine L_seq ?_
  refine L_region ?_
  refine F_val rfl rfl rfl (O_assign rfl rfl) ?_
  have HS1 := HS0.addNil 3 (Eint .i64).sz
  have HS1 : Hp S0 w0 w0 [.rd A_text_0 (rowC (Eint .u8) l_text_0), .own none 0 (rowC (Eint .i64) ([] : List Int)) 3 (Eint .i64).sz] := HS1
  refine F_nil ?_
  refine L_seq ?_
  refine L_seq ?_
  refine L_region ?_
  refine F_val rfl rfl rfl (O_assign rfl rfl) ?_
  refine F_nil ?_
  obtain ⟨yj3, Hyj3, H⟩ := of_bind H
  refine L_join (fun a w => ∃ (l65 : List Int), ∃ (A63 : Option Addr), ∃ (c64 : Nat), yj3 = l65 ∧ Is Try.f33.ntmps a [(0, .slice A_text_0 l_text_0.length c_text_0), (3, .slice A63 l65.length c64)] ∧ Hp S0 w0 w [.rd A_text_0 (rowC (Eint .u8) l_text_0), .own A63 c64 (rowC (Eint .i64) l65) 3 (Eint .i64).sz]) (fun Qj3 hNj3 hOj3 => ?_) (fun a w hR => ?_)
  · skip
    have H := Hyj3
    refine L_blk (fun Qb66 hNb66 hXb66 hOb66 => ?_)
    refine L_lp (fun k a w => ∃ (l105 : List Int), ∃ (s_106 : Int), ∃ (A103 : Option Addr), ∃ (c104 : Nat), Is Try.f33.ntmps a [(0, .slice A_text_0 l_text_0.length c_text_0), (3, .slice A103 l105.length c104), (4, .int .i64 s_106)] ∧ Hp S0 w0 w [.rd A_text_0 (rowC (Eint .u8) l_text_0), .own A103 c104 (rowC (Eint .i64) l105) 3 (Eint .i64).sz] ∧ valiselaw6_counts.l1 k l105 s_106  = some yj3) FU (fun a ha => ⟨_, _, _, _, Is.cons ha (Is.cons ha (Is.cons ha (Is.nil ha) rfl) rfl) rfl, HS1.sel [0, 1] rfl, H⟩) (fun kp102 a w107 hI Qp102 hNp102 hOp102 => ?_)
    obtain ⟨l105, s_106, A103, c104, ha, HS108, HAp102⟩ := hI
    cases kp102 with
    | zero => cases (show (none : Option _) = some _ from HAp102)
    | succ kp102 =>
      have H := (valiselaw6_counts.l1.eq_2 ..).symm.trans HAp102
      refine wpLF_app ?_ ha
      refine L_seq ?_
      refine L_seq ?_
      refine L_region ?_
      refine F_val rfl rfl rfl (O_move rfl rfl) ?_
      refine F_val rfl rfl rfl (O_lt rfl rfl rfl) ?_
      refine F_nil ?_
      refine L_condP rfl (fun c109 => ?_) (fun c109 => ?_)
      · have H := of_pos H c109
        refine L_skip ?_
        refine L_seq ?_
        refine L_blk (fun Q110 hN110 hX110 hO110 => ?_)
        refine L_region ?_
        refine F_val rfl rfl rfl (O_move rfl rfl) ?_
        refine F_litE (E := (Eint .i64)) (e := 3) [(0, .int .i64 0)] [0] rfl rfl rfl rfl rfl rfl rfl (by decide) (fun w => by kernel_rfl) HS108 (fun w111 A113 c114 HS112 => ?_)
        have HS112 : Hp S0 w0 w111 [.rd A_text_0 (rowC (Eint .u8) l_text_0), .own A103 c104 (rowC (Eint .i64) l105) 3 (Eint .i64).sz, .own A113 c114 (rowC (Eint .i64) [0]) 3 (Eint .i64).sz] := HS112
        obtain ⟨l118, h119, H⟩ := of_bnd H
        obtain ⟨g120, H⟩ := of_gd H
        refine F_appE (E := (Eint .i64)) (xs := l105) (ys := [0]) (i := 1) rfl rfl rfl rfl Try.underlying22 info3 rfl (by decide) (by decide) rfl rfl HS112 rfl (HS112.cells_own (i := 2) rfl) h119 g120 (fun w116 A121 c122 HS117 => ?_)
        have HS117 : Hp S0 w0 w116 [.rd A_text_0 (rowC (Eint .u8) l_text_0), .own A121 c122 (rowC (Eint .i64) l118) 3 (Eint .i64).sz, .own A113 c114 (rowC (Eint .i64) [0]) 3 (Eint .i64).sz] := HS117
        refine F_val rfl rfl rfl (O_assign rfl rfl) ?_
        refine F_nil ?_
        refine L_endB hN110 ?_
        refine L_region ?_
        refine F_val rfl rfl rfl (O_move rfl rfl) ?_
        refine F_val rfl rfl rfl (O_add rfl rfl rfl) ?_
        obtain ⟨x123, h124, H⟩ := of_bnd H
        refine F_val rfl rfl rfl (O_assign' rfl rfl (congrArg (Value.int .i64) h124)) ?_
        refine F_nil ?_
        refine L_nil (fun a ha => hNp102 _ a _ (Nat.lt_succ_self _) ⟨_, _, _, _, Is.cons ha (Is.cons ha (Is.cons ha (Is.nil ha) rfl) rfl) rfl, HS117.sel [0, 1] rfl, H⟩)
      · have H := of_neg H c109
        refine L_exitB (fun a w h => hOp102 (.exit 0) a w rfl (hXb66 a w h)) ?_
        refine L_nil (fun a ha => hNj3 a _ ⟨_, _, _, (Option.some.inj H).symm, Is.cons ha (Is.cons ha (Is.nil ha) rfl) rfl, HS108.sel [0, 1] rfl⟩)
  · obtain ⟨l65, A63, c64, ej, ha, HS126⟩ := hR
    obtain rfl := ej.symm
    refine wpLF_app ?_ ha
    refine L_seq ?_
    refine L_seq ?_
    refine L_region ?_
    refine F_val rfl rfl rfl (O_assign rfl rfl) ?_
    refine F_nil ?_
    obtain ⟨yj127, Hyj127, H⟩ := of_bind H
    refine L_join (fun a w => ∃ (l175 : List Int), yj127 = l175 ∧ Is Try.f33.ntmps a [(3, .slice A63 l175.length c64)] ∧ Hp S0 w0 w [.rd A_text_0 (rowC (Eint .u8) l_text_0), .own A63 c64 (rowC (Eint .i64) l175) 3 (Eint .i64).sz]) (fun Qj127 hNj127 hOj127 => ?_) (fun a w hR => ?_)
    · skip
      have H := Hyj127
      refine L_blk (fun Qb176 hNb176 hXb176 hOb176 => ?_)
      refine L_lp (fun k a w => ∃ (l206 : List Int), ∃ (i_207 : Int), Is Try.f33.ntmps a [(0, .slice A_text_0 l_text_0.length c_text_0), (3, .slice A63 l206.length c64), (5, .int .i64 i_207)] ∧ Hp S0 w0 w [.rd A_text_0 (rowC (Eint .u8) l_text_0), .own A63 c64 (rowC (Eint .i64) l206) 3 (Eint .i64).sz] ∧ valiselaw6_counts.l3 k l206 i_207 l_text_0 = some yj127) FU (fun a ha => ⟨_, _, Is.cons ha (Is.cons ha (Is.cons ha (Is.nil ha) rfl) rfl) rfl, HS126.sel [0, 1] rfl, H⟩) (fun kp205 a w208 hI Qp205 hNp205 hOp205 => ?_)
      obtain ⟨l206, i_207, ha, HS209, HAp205⟩ := hI
      cases kp205 with
      | zero => cases (show (none : Option _) = some _ from HAp205)
      | succ kp205 =>
        have H := (valiselaw6_counts.l3.eq_2 ..).symm.trans HAp205
        refine wpLF_app ?_ ha
        refine L_seq ?_
        refine L_seq ?_
        refine L_region ?_
        refine F_val rfl rfl rfl (O_move rfl rfl) ?_
        refine F_val rfl rfl rfl (O_move rfl rfl) ?_
        refine F_val rfl rfl rfl (O_len rfl rfl Try.underlying46) ?_
        refine F_val rfl rfl rfl (O_lt rfl rfl rfl) ?_
        refine F_nil ?_
        refine L_condP rfl (fun c210 => ?_) (fun c210 => ?_)
        · have H := of_pos H c210
          refine L_skip ?_
          refine L_seq ?_
          refine L_blk (fun Q211 hN211 hX211 hO211 => ?_)
          refine L_region ?_
          refine F_val rfl rfl rfl (O_move rfl rfl) ?_
          refine F_val rfl rfl rfl (O_move rfl rfl) ?_
          refine F_val rfl rfl rfl (O_move rfl rfl) ?_
          obtain ⟨⟨g212, g213⟩, H⟩ := of_gd H
          refine F_val rfl rfl rfl (O_idx rfl rfl rfl Try.underlying46 size5 g212 g213 (Cells.isA (HS209.cells_rd (i := 0) rfl) (rowC_ne (E := (Eint .u8)) g212 g213 (by decide)))) ?_
          refine F_val rfl rfl rfl (O_loadC rfl rfl flat5 (HS209.cells_rd (i := 0) rfl) (int_cell g212 g213)) ?_
          obtain ⟨⟨g214, g215⟩, H⟩ := of_gd H
          refine F_val rfl rfl rfl (O_idx rfl rfl rfl Try.underlying22 size3 g214 g215 (Cells.isA (HS209.cells_own (i := 1) rfl) (rowC_ne (E := (Eint .i64)) g214 g215 (by decide)))) ?_
          refine F_val rfl rfl rfl (O_loadC rfl rfl flat3 (HS209.cells_own (i := 1) rfl) (int_cell g214 g215)) ?_
          refine F_val rfl rfl rfl (O_add rfl rfl rfl) ?_
          refine F_val rfl rfl rfl (O_idx rfl rfl rfl Try.underlying22 size3 g214 g215 (Cells.isA (HS209.cells_own (i := 1) rfl) (rowC_ne (E := (Eint .i64)) g214 g215 (by decide)))) ?_
          obtain ⟨l218, h219, H⟩ := of_bnd H
          refine F_setE (E := (Eint .i64)) (i := 1) (a := IntKind.i64.wrap ((rd l206 (rd l_text_0 i_207)) + 1)) (q := rd l_text_0 i_207) rfl rfl rfl rfl rfl rfl size3 HS209 rfl (by decide) g214 g215 h219 (fun w216 HS217 => ?_)
          have e220 : l206.length = l218.length := by rw [← h219, List.length_set]
          refine F_know (i := 3) rfl (congrArg (fun n => Value.slice A63 n c64) e220) ?_
          have HS217 : Hp S0 w0 w216 [.rd A_text_0 (rowC (Eint .u8) l_text_0), .own A63 c64 (rowC (Eint .i64) l218) 3 (Eint .i64).sz] := HS217
          refine F_nil ?_
          refine L_endB hN211 ?_
          refine L_region ?_
          refine F_val rfl rfl rfl (O_move rfl rfl) ?_
          refine F_val rfl rfl rfl (O_add rfl rfl rfl) ?_
          obtain ⟨x221, h222, H⟩ := of_bnd H
          refine F_val rfl rfl rfl (O_assign' rfl rfl (congrArg (Value.int .i64) h222)) ?_
          refine F_nil ?_
          refine L_nil (fun a ha => hNp205 _ a _ (Nat.lt_succ_self _) ⟨_, _, Is.cons ha (Is.cons ha (Is.cons ha (Is.nil ha) rfl) rfl) rfl, HS217.sel [0, 1] rfl, H⟩)
        · have H := of_neg H c210
          refine L_exitB (fun a w h => hOp205 (.exit 2) a w rfl (hXb176 a w h)) ?_
          refine L_nil (fun a ha => hNj127 a _ ⟨_, (Option.some.inj H).symm, Is.cons ha (Is.nil ha) rfl, HS209.sel [0, 1] rfl⟩)
    · obtain ⟨l175, ej, ha, HS224⟩ := hR
      obtain rfl := ej.symm
      refine wpLF_app ?_ ha
      refine L_seq ?_
      refine L_region ?_
      refine F_val rfl rfl rfl (O_move rfl rfl) ?_
      refine F_val rfl rfl rfl (O_assign rfl rfl) ?_
      refine F_nil ?_
      refine L_ret (fun a ha => (post_ret1 ha rfl rfl ?_))
      obtain rfl := Option.some.inj H
      exact ⟨_, _, rfl, HS224.sel [1] rfl⟩

/-! function 30: valise/valiselaw6.uses -/
theorem valiselaw6_uses.calls {S0 : Nat → Prop} {w0 : World} {A_freq_0 : Option Addr} {c_freq_0 : Nat} {l_freq_0 : List Int} {r : Int} (HS0 : Hp S0 w0 w0 [.rd A_freq_0 (rowC (Eint .i64) l_freq_0)]) (hc_freq_0 : l_freq_0.length ≤ c_freq_0) (h : valiselaw6_uses.f l_freq_0 = some r) :
    Calls Try.prog 30 ([.slice A_freq_0 l_freq_0.length c_freq_0] : List Value).toArray w0 (fun e w => e = .returned (.int .i64 r) ∧ Hp S0 w0 w []) := by
  have H : (((valiselaw6_uses.l1 FU 0 0 l_freq_0).bind fun u_58 => some u_58) : Option (Int)) = some r := h
  refine calls_start Try.func30 rfl rfl ?_
  refine L_seq ?_
  refine L_region ?_
  refine F_val rfl rfl rfl (O_assign rfl rfl) ?_
  refine F_nil ?_
  refine L_seq ?_
  refine L_region ?_
  refine F_val rfl rfl rfl (O_assign rfl rfl) ?_
  refine F_nil ?_
  refine L_seq ?_
  refine L_seq ?_
  refine L_region ?_
  refine F_val rfl rfl rfl (O_assign rfl rfl) ?_
  refine F_nil ?_
  obtain ⟨yj1, Hyj1, H⟩ := of_bind H
  refine L_join (fun a w => ∃ (u_58 : Int), yj1 = u_58 ∧ Is Try.f30.ntmps a [(3, .int .i64 u_58)] ∧ Hp S0 w0 w [.rd A_freq_0 (rowC (Eint .i64) l_freq_0)]) (fun Qj1 hNj1 hOj1 => ?_) (fun a w hR => ?_)
  · skip
    have H := Hyj1
    refine L_blk (fun Qb59 hNb59 hXb59 hOb59 => ?_)
    refine L_lp (fun k a w => ∃ (u_95 : Int), ∃ (s_96 : Int), Is Try.f30.ntmps a [(0, .slice A_freq_0 l_freq_0.length c_freq_0), (3, .int .i64 u_95), (4, .int .i64 s_96)] ∧ Hp S0 w0 w [.rd A_freq_0 (rowC (Eint .i64) l_freq_0)] ∧ valiselaw6_uses.l1 k u_95 s_96 l_freq_0 = some yj1) FU (fun a ha => ⟨_, _, Is.cons ha (Is.cons ha (Is.cons ha (Is.nil ha) rfl) rfl) rfl, HS0.sel [0] rfl, H⟩) (fun kp94 a w97 hI Qp94 hNp94 hOp94 => ?_)
    obtain ⟨u_95, s_96, ha, HS98, HAp94⟩ := hI
    cases kp94 with
    | zero => cases (show (none : Option _) = some _ from HAp94)
    | succ kp94 =>
      have H := (valiselaw6_uses.l1.eq_2 ..).symm.trans HAp94
      refine wpLF_app ?_ ha
      refine L_seq ?_
      refine L_seq ?_
      refine L_region ?_
      refine F_val rfl rfl rfl (O_move rfl rfl) ?_
      refine F_val rfl rfl rfl (O_move rfl rfl) ?_
      refine F_val rfl rfl rfl (O_len rfl rfl Try.underlying22) ?_
      refine F_val rfl rfl rfl (O_lt rfl rfl rfl) ?_
      refine F_nil ?_
      refine L_condP rfl (fun c99 => ?_) (fun c99 => ?_)
      · have H := of_pos H c99
        refine L_skip ?_
        refine L_seq ?_
        refine L_blk (fun Q100 hN100 hX100 hO100 => ?_)
        refine L_seq ?_
        refine L_region ?_
        refine F_val rfl rfl rfl (O_move rfl rfl) ?_
        refine F_val rfl rfl rfl (O_move rfl rfl) ?_
        obtain ⟨⟨g101, g102⟩, H⟩ := of_gd H
        refine F_val rfl rfl rfl (O_idx rfl rfl rfl Try.underlying22 size3 g101 g102 (Cells.isA (HS98.cells_rd (i := 0) rfl) (rowC_ne (E := (Eint .i64)) g101 g102 (by decide)))) ?_
        refine F_val rfl rfl rfl (O_loadC rfl rfl flat3 (HS98.cells_rd (i := 0) rfl) (int_cell g101 g102)) ?_
        refine F_val rfl rfl rfl (O_gt rfl rfl rfl) ?_
        refine F_nil ?_
        obtain ⟨yj103, Hyj103, H⟩ := of_bind H
        refine L_join (fun a w => ∃ (u_107 : Int), yj103 = u_107 ∧ Is Try.f30.ntmps a [(0, .slice A_freq_0 l_freq_0.length c_freq_0), (3, .int .i64 u_107), (4, .int .i64 s_96)] ∧ Hp S0 w0 w [.rd A_freq_0 (rowC (Eint .i64) l_freq_0)]) (fun Qj103 hNj103 hOj103 => ?_) (fun a w hR => ?_)
        · skip
          have H := Hyj103
          refine L_condP rfl (fun c108 => ?_) (fun c108 => ?_)
          · have H := of_pos H c108
            refine L_region ?_
            refine F_val rfl rfl rfl (O_move rfl rfl) ?_
            refine F_val rfl rfl rfl (O_add rfl rfl rfl) ?_
            obtain ⟨x109, h110, H⟩ := of_bnd H
            refine F_val rfl rfl rfl (O_assign' rfl rfl (congrArg (Value.int .i64) h110)) ?_
            refine F_nil ?_
            refine L_nil (fun a ha => hNj103 a _ ⟨_, (Option.some.inj H).symm, Is.cons ha (Is.cons ha (Is.cons ha (Is.nil ha) rfl) rfl) rfl, HS98.sel [0] rfl⟩)
          · have H := of_neg H c108
            refine L_skip ?_
            refine L_nil (fun a ha => hNj103 a _ ⟨_, (Option.some.inj H).symm, Is.cons ha (Is.cons ha (Is.cons ha (Is.nil ha) rfl) rfl) rfl, HS98.sel [0] rfl⟩)
        · obtain ⟨u_107, ej, ha, HS112⟩ := hR
          obtain rfl := ej.symm
          refine wpLF_app ?_ ha
          refine L_endB hN100 ?_
          refine L_region ?_
          refine F_val rfl rfl rfl (O_move rfl rfl) ?_
          refine F_val rfl rfl rfl (O_add rfl rfl rfl) ?_
          obtain ⟨x113, h114, H⟩ := of_bnd H
          refine F_val rfl rfl rfl (O_assign' rfl rfl (congrArg (Value.int .i64) h114)) ?_
          refine F_nil ?_
          refine L_nil (fun a ha => hNp94 _ a _ (Nat.lt_succ_self _) ⟨_, _, Is.cons ha (Is.cons ha (Is.cons ha (Is.nil ha) rfl) rfl) rfl, HS112.sel [0] rfl, H⟩)
      · have H := of_neg H c99
        refine L_exitB (fun a w h => hOp94 (.exit 0) a w rfl (hXb59 a w h)) ?_
        refine L_nil (fun a ha => hNj1 a _ ⟨_, (Option.some.inj H).symm, Is.cons ha (Is.nil ha) rfl, HS98.sel [0] rfl⟩)
  · obtain ⟨u_58, ej, ha, HS116⟩ := hR
    obtain rfl := ej.symm
    refine wpLF_app ?_ ha
    refine L_seq ?_
    refine L_region ?_
    refine F_val rfl rfl rfl (O_move rfl rfl) ?_
    refine F_val rfl rfl rfl (O_assign rfl rfl) ?_
    refine F_nil ?_
    refine L_ret (fun a ha => (post_ret1 ha rfl rfl ?_))
    obtain rfl := Option.some.inj H
    exact ⟨rfl, HS116.sel [] rfl⟩

/-! function 24: valise/valiselaw6.copied -/
theorem valiselaw6_copied.calls {S0 : Nat → Prop} {w0 : World} {A_a_0 : Option Addr} {c_a_0 : Nat} {l_a_0 : List Int} {r : List Int} (HS0 : Hp S0 w0 w0 [.rd A_a_0 (rowC (Eint .i64) l_a_0)]) (hc_a_0 : l_a_0.length ≤ c_a_0) (h : valiselaw6_copied.f l_a_0 = some r) :
    Calls Try.prog 24 ([.slice A_a_0 l_a_0.length c_a_0] : List Value).toArray w0 (fun e w => ∃ (A1 : Option Addr), ∃ (c1 : Nat), e = .returned (.slice A1 r.length c1) ∧ Hp S0 w0 w [.own A1 c1 (rowC (Eint .i64) r) 3 (Eint .i64).sz]) := by
  have H : (((valiselaw6_copied.l1 FU ([] : List Int) 0 l_a_0).bind fun l72 => some l72) : Option (List Int)) = some r := h
  refine calls_start Try.func24 rfl rfl ?_
  refine L_seq ?_
  refine L_region ?_
  refine F_val rfl rfl rfl (O_assign rfl rfl) ?_
  refine F_nil ?_
  refine L_seq ?_
  refine L_region ?_
  refine F_val rfl rfl rfl (O_assign rfl rfl) ?_
  have HS1 := HS0.addNil 3 (Eint .i64).sz
  have HS1 : Hp S0 w0 w0 [.rd A_a_0 (rowC (Eint .i64) l_a_0), .own none 0 (rowC (Eint .i64) ([] : List Int)) 3 (Eint .i64).sz] := HS1
  refine F_nil ?_
  refine L_seq ?_
  refine L_seq ?_
  refine L_region ?_
  refine F_val rfl rfl rfl (O_assign rfl rfl) ?_
  refine F_nil ?_
  obtain ⟨yj3, Hyj3, H⟩ := of_bind H
  refine L_join (fun a w => ∃ (l72 : List Int), ∃ (A70 : Option Addr), ∃ (c71 : Nat), yj3 = l72 ∧ Is Try.f24.ntmps a [(3, .slice A70 l72.length c71)] ∧ Hp S0 w0 w [.rd A_a_0 (rowC (Eint .i64) l_a_0), .own A70 c71 (rowC (Eint .i64) l72) 3 (Eint .i64).sz]) (fun Qj3 hNj3 hOj3 => ?_) (fun a w hR => ?_)
  · skip
    have H := Hyj3
    refine L_blk (fun Qb73 hNb73 hXb73 hOb73 => ?_)
    refine L_lp (fun k a w => ∃ (l117 : List Int), ∃ (i_118 : Int), ∃ (A115 : Option Addr), ∃ (c116 : Nat), Is Try.f24.ntmps a [(0, .slice A_a_0 l_a_0.length c_a_0), (3, .slice A115 l117.length c116), (4, .int .i64 i_118)] ∧ Hp S0 w0 w [.rd A_a_0 (rowC (Eint .i64) l_a_0), .own A115 c116 (rowC (Eint .i64) l117) 3 (Eint .i64).sz] ∧ valiselaw6_copied.l1 k l117 i_118 l_a_0 = some yj3) FU (fun a ha => ⟨_, _, _, _, Is.cons ha (Is.cons ha (Is.cons ha (Is.nil ha) rfl) rfl) rfl, HS1.sel [0, 1] rfl, H⟩) (fun kp114 a w119 hI Qp114 hNp114 hOp114 => ?_)
    obtain ⟨l117, i_118, A115, c116, ha, HS120, HAp114⟩ := hI
    cases kp114 with
    | zero => cases (show (none : Option _) = some _ from HAp114)
    | succ kp114 =>
      have H := (valiselaw6_copied.l1.eq_2 ..).symm.trans HAp114
      refine wpLF_app ?_ ha
      refine L_seq ?_
      refine L_seq ?_
      refine L_region ?_
      refine F_val rfl rfl rfl (O_move rfl rfl) ?_
      refine F_val rfl rfl rfl (O_move rfl rfl) ?_
      refine F_val rfl rfl rfl (O_len rfl rfl Try.underlying22) ?_
      refine F_val rfl rfl rfl (O_lt rfl rfl rfl) ?_
      refine F_nil ?_
      refine L_condP rfl (fun c121 => ?_) (fun c121 => ?_)
      · have H := of_pos H c121
        refine L_skip ?_
        refine L_seq ?_
        refine L_blk (fun Q122 hN122 hX122 hO122 => ?_)
        refine L_region ?_
        refine F_val rfl rfl rfl (O_move rfl rfl) ?_
        refine F_val rfl rfl rfl (O_move rfl rfl) ?_
        refine F_val rfl rfl rfl (O_move rfl rfl) ?_
        obtain ⟨⟨g123, g124⟩, H⟩ := of_gd H
        refine F_val rfl rfl rfl (O_idx rfl rfl rfl Try.underlying22 size3 g123 g124 (Cells.isA (HS120.cells_rd (i := 0) rfl) (rowC_ne (E := (Eint .i64)) g123 g124 (by decide)))) ?_
        refine F_val rfl rfl rfl (O_loadC rfl rfl flat3 (HS120.cells_rd (i := 0) rfl) (int_cell g123 g124)) ?_
        refine F_litE (E := (Eint .i64)) (e := 3) [(0, .int .i64 (rd l_a_0 i_118))] [rd l_a_0 i_118] rfl rfl rfl rfl rfl rfl rfl (by decide) (fun w => by kernel_rfl) HS120 (fun w125 A127 c128 HS126 => ?_)
        have HS126 : Hp S0 w0 w125 [.rd A_a_0 (rowC (Eint .i64) l_a_0), .own A115 c116 (rowC (Eint .i64) l117) 3 (Eint .i64).sz, .own A127 c128 (rowC (Eint .i64) [rd l_a_0 i_118]) 3 (Eint .i64).sz] := HS126
        obtain ⟨l132, h133, H⟩ := of_bnd H
        obtain ⟨g134, H⟩ := of_gd H
        refine F_appE (E := (Eint .i64)) (xs := l117) (ys := [rd l_a_0 i_118]) (i := 1) rfl rfl rfl rfl Try.underlying22 info3 rfl (by decide) (by decide) rfl rfl HS126 rfl (HS126.cells_own (i := 2) rfl) h133 g134 (fun w130 A135 c136 HS131 => ?_)
        have HS131 : Hp S0 w0 w130 [.rd A_a_0 (rowC (Eint .i64) l_a_0), .own A135 c136 (rowC (Eint .i64) l132) 3 (Eint .i64).sz, .own A127 c128 (rowC (Eint .i64) [rd l_a_0 i_118]) 3 (Eint .i64).sz] := HS131
        refine F_val rfl rfl rfl (O_assign rfl rfl) ?_
        refine F_nil ?_
        refine L_endB hN122 ?_
        refine L_region ?_
        refine F_val rfl rfl rfl (O_move rfl rfl) ?_
        refine F_val rfl rfl rfl (O_add rfl rfl rfl) ?_
        obtain ⟨x137, h138, H⟩ := of_bnd H
        refine F_val rfl rfl rfl (O_assign' rfl rfl (congrArg (Value.int .i64) h138)) ?_
        refine F_nil ?_
        refine L_nil (fun a ha => hNp114 _ a _ (Nat.lt_succ_self _) ⟨_, _, _, _, Is.cons ha (Is.cons ha (Is.cons ha (Is.nil ha) rfl) rfl) rfl, HS131.sel [0, 1] rfl, H⟩)
      · have H := of_neg H c121
        refine L_exitB (fun a w h => hOp114 (.exit 0) a w rfl (hXb73 a w h)) ?_
        refine L_nil (fun a ha => hNj3 a _ ⟨_, _, _, (Option.some.inj H).symm, Is.cons ha (Is.nil ha) rfl, HS120.sel [0, 1] rfl⟩)
  · obtain ⟨l72, A70, c71, ej, ha, HS140⟩ := hR
    obtain rfl := ej.symm
    refine wpLF_app ?_ ha
    refine L_seq ?_
    refine L_region ?_
    refine F_val rfl rfl rfl (O_move rfl rfl) ?_
    refine F_val rfl rfl rfl (O_assign rfl rfl) ?_
    refine F_nil ?_
    refine L_ret (fun a ha => (post_ret1 ha rfl rfl ?_))
    obtain rfl := Option.some.inj H
    exact ⟨_, _, rfl, HS140.sel [1] rfl⟩

/-! function 35: valise/build.used -/
theorem build_used.calls {S0 : Nat → Prop} {w0 : World} {A_freq_0 : Option Addr} {c_freq_0 : Nat} {l_freq_0 : List Int} {r : List Int × Int} (HS0 : Hp S0 w0 w0 [.rd A_freq_0 (rowC (Eint .i64) l_freq_0)]) (hc_freq_0 : l_freq_0.length ≤ c_freq_0) (h : build_used.f l_freq_0 = some r) :
    Calls Try.prog 35 ([.slice A_freq_0 l_freq_0.length c_freq_0] : List Value).toArray w0 (fun e w => ∃ (A1 : Option Addr), ∃ (c1 : Nat), e = .returned (.tuple #[.slice A1 r.1.length c1, .int .i64 r.2]) ∧ Hp S0 w0 w [.own A1 c1 (rowC (Eint .i64) r.1) 3 (Eint .i64).sz]) := by
  have H : ((if 288 < (l_freq_0.length : Int) then (some (([] : List Int), 1)) else ((build_used.l1 FU ([] : List Int) 0 l_freq_0).bind fun (yj6 : Sum (List Int × Int) (List Int)) => onR yj6 (fun r => some r) fun l156 => some (l156, 0))) : Option (List Int × Int)) = some r := h
  refine calls_start Try.func35 rfl rfl ?_
  refine L_seq ?_
  refine L_region ?_
  refine F_val rfl rfl rfl (O_assign rfl rfl) ?_
  refine F_val rfl rfl rfl (O_assign rfl rfl) ?_
  refine F_nil ?_
  refine L_seq ?_
  refine L_seq ?_
  refine L_region ?_
  refine F_val rfl rfl rfl (O_move rfl rfl) ?_
  refine F_val rfl rfl rfl (O_len rfl rfl Try.underlying22) ?_
  refine F_val rfl rfl rfl (O_gt rfl rfl rfl) ?_
  refine F_nil ?_
  refine L_condP rfl (fun c1 => ?_) (fun c1 => ?_)
  · have H := of_pos H c1
    refine L_seq ?_
    refine L_region ?_
    refine F_val rfl rfl rfl (O_assign rfl rfl) ?_
    refine F_val rfl rfl rfl (O_assign rfl rfl) ?_
    refine F_nil ?_
    have HS2 := HS0.addNil 3 (Eint .i64).sz
    refine L_ret (fun a ha => (post_ret2 ha rfl rfl rfl ?_))
    obtain rfl := Option.some.inj H
    exact ⟨_, _, rfl, HS2.sel [1] rfl⟩
  · have H := of_neg H c1
    refine L_skip ?_
    refine L_seq ?_
    refine L_region ?_
    refine F_val rfl rfl rfl (O_assign rfl rfl) ?_
    have HS4 := HS0.addNil 3 (Eint .i64).sz
    have HS4 : Hp S0 w0 w0 [.rd A_freq_0 (rowC (Eint .i64) l_freq_0), .own none 0 (rowC (Eint .i64) ([] : List Int)) 3 (Eint .i64).sz] := HS4
    refine F_nil ?_
    refine L_seq ?_
    refine L_seq ?_
    refine L_region ?_
    refine F_val rfl rfl rfl (O_move rfl rfl) ?_
    refine F_val rfl rfl rfl (O_len rfl rfl Try.underlying22) ?_
    refine F_val rfl rfl rfl (O_move rfl rfl) ?_
    refine F_nil ?_
    obtain ⟨yj6, Hyj6, H⟩ := of_bind H
    refine L_join (fun a w => ∃ (l156 : List Int), ∃ (A154 : Option Addr), ∃ (c155 : Nat), yj6 = Sum.inr l156 ∧ Is Try.f35.ntmps a [(4, .slice A154 l156.length c155)] ∧ Hp S0 w0 w [.rd A_freq_0 (rowC (Eint .i64) l_freq_0), .own A154 c155 (rowC (Eint .i64) l156) 3 (Eint .i64).sz]) (fun Qj6 hNj6 hOj6 => ?_) (fun a w hR => ?_)
    · have HOj6 := H
      have H := Hyj6
      refine L_blk (fun Qb157 hNb157 hXb157 hOb157 => ?_)
      refine L_lp (fun k a w => ∃ (l255 : List Int), ∃ (t256 : Int), ∃ (A253 : Option Addr), ∃ (c254 : Nat), Is Try.f35.ntmps a [(4, .slice A253 l255.length c254), (10, .slice A_freq_0 l_freq_0.length c_freq_0), (11, .int .i64 (l_freq_0.length : Int)), (12, .int .i64 t256)] ∧ Hp S0 w0 w [.rd A_freq_0 (rowC (Eint .i64) l_freq_0), .own A253 c254 (rowC (Eint .i64) l255) 3 (Eint .i64).sz] ∧ build_used.l1 k l255 t256 l_freq_0 = some yj6) FU (fun a ha => ⟨_, _, _, _, Is.cons ha (Is.cons ha (Is.cons ha (Is.cons ha (Is.nil ha) rfl) rfl) rfl) rfl, HS4.sel [0, 1] rfl, H⟩) (fun kp252 a w257 hI Qp252 hNp252 hOp252 => ?_)
      obtain ⟨l255, t256, A253, c254, ha, HS258, HAp252⟩ := hI
      cases kp252 with
      | zero => cases (show (none : Option _) = some _ from HAp252)
      | succ kp252 =>
        have H := (build_used.l1.eq_2 ..).symm.trans HAp252
        refine wpLF_app ?_ ha
        refine L_seq ?_
        refine L_region ?_
        refine F_val rfl rfl rfl (O_lt rfl rfl rfl) ?_
        refine F_nil ?_
        refine L_seq ?_
        refine L_condP rfl (fun c259 => ?_) (fun c259 => ?_)
        · have H := of_pos H c259
          refine L_skip ?_
          refine L_seq ?_
          refine L_blk (fun Q260 hN260 hX260 hO260 => ?_)
          refine L_seq ?_
          refine L_region ?_
          refine F_val rfl rfl rfl (O_move rfl rfl) ?_
          obtain ⟨⟨g261, g262⟩, H⟩ := of_gd H
          refine F_val rfl rfl rfl (O_idx rfl rfl rfl Try.underlying22 size3 g261 g262 (Cells.isA (HS258.cells_rd (i := 0) rfl) (rowC_ne (E := (Eint .i64)) g261 g262 (by decide)))) ?_
          refine F_val rfl rfl rfl (O_loadC rfl rfl flat3 (HS258.cells_rd (i := 0) rfl) (int_cell g261 g262)) ?_
          refine F_val rfl rfl rfl (O_assign rfl rfl) ?_
          obtain ⟨x263, h264, H⟩ := of_bnd H
          refine F_val rfl rfl rfl (O_assign' rfl rfl (congrArg (Value.int .i64) h264)) ?_
          refine F_nil ?_
          refine L_seq ?_
          refine L_seq ?_
          refine L_region ?_
          refine F_val rfl rfl rfl (O_move rfl rfl) ?_
          refine F_val rfl rfl rfl (O_lt rfl rfl rfl) ?_
          refine F_val rfl rfl rfl (O_move rfl rfl) ?_
          refine F_grp 3 [(22, .bool (decide ((x263 < 0) ∨ (4294967296 < x263)))), (4, .slice A253 l255.length c254), (5, .int .i64 t256), (6, .int .i64 x263), (10, .slice A_freq_0 l_freq_0.length c_freq_0), (11, .int .i64 (l_freq_0.length : Int)), (12, .int .i64 t256)] ?_ ?_
          · rcases Decidable.em (x263 < 0) with c268 | c268
            · refine F_know (i := 19) rfl (dec_t c268) ?_
              refine F_gskip rfl rfl rfl rfl rfl rfl rfl ?_
              refine F_gskip rfl rfl rfl rfl rfl rfl rfl ?_
              refine F_val rfl rfl rfl (O_pickT rfl rfl rfl) ?_
              refine F_know (i := 22) rfl (dec_or_t (q := 4294967296 < x263) c268) ?_
              exact F_grpE (fun a ha => Is.cons ha (Is.cons ha (Is.cons ha (Is.cons ha (Is.cons ha (Is.cons ha (Is.cons ha (Is.nil ha) rfl) rfl) rfl) rfl) rfl) rfl) rfl)
            · refine F_know (i := 19) rfl (dec_f c268) ?_
              refine F_gval rfl rfl rfl rfl rfl rfl (O_move rfl rfl) ?_
              refine F_gval rfl rfl rfl rfl rfl rfl (O_gt rfl rfl rfl) ?_
              refine F_val rfl rfl rfl (O_pickF rfl rfl rfl) ?_
              refine F_know (i := 22) rfl (dec_or_f (q := 4294967296 < x263) c268) ?_
              exact F_grpE (fun a ha => Is.cons ha (Is.cons ha (Is.cons ha (Is.cons ha (Is.cons ha (Is.cons ha (Is.cons ha (Is.nil ha) rfl) rfl) rfl) rfl) rfl) rfl) rfl)
          · skip
            refine F_nil ?_
            refine L_condP rfl (fun c269 => ?_) (fun c269 => ?_)
            · have H := of_pos H c269
              refine L_seq ?_
              refine L_region ?_
              refine F_val rfl rfl rfl (O_assign rfl rfl) ?_
              refine F_val rfl rfl rfl (O_assign rfl rfl) ?_
              refine F_nil ?_
              have HS270 := HS258.addNil 3 (Eint .i64).sz
              refine L_ret (fun a ha => (hO260 .ret a _ rfl (hOp252 .ret a _ rfl (hOb157 .ret a _ rfl (hOj6 .ret a _ rfl (post_ret2 ha rfl rfl rfl ?_))))))
              obtain rfl := Option.some.inj H
              obtain rfl := Option.some.inj (show (some (([] : List Int), 61) : Option (List Int × Int)) = some _ from HOj6)
              exact ⟨_, _, rfl, HS270.sel [2] rfl⟩
            · have H := of_neg H c269
              refine L_skip ?_
              refine L_seq ?_
              refine L_region ?_
              refine F_val rfl rfl rfl (O_move rfl rfl) ?_
              refine F_val rfl rfl rfl (O_gt rfl rfl rfl) ?_
              refine F_nil ?_
              obtain ⟨yj272, Hyj272, H⟩ := of_bind H
              refine L_join (fun a w => ∃ (l288 : List Int), ∃ (A286 : Option Addr), ∃ (c287 : Nat), yj272 = l288 ∧ Is Try.f35.ntmps a [(4, .slice A286 l288.length c287), (10, .slice A_freq_0 l_freq_0.length c_freq_0), (11, .int .i64 (l_freq_0.length : Int)), (12, .int .i64 t256)] ∧ Hp S0 w0 w [.rd A_freq_0 (rowC (Eint .i64) l_freq_0), .own A286 c287 (rowC (Eint .i64) l288) 3 (Eint .i64).sz]) (fun Qj272 hNj272 hOj272 => ?_) (fun a w hR => ?_)
              · skip
                have H := Hyj272
                refine L_condP rfl (fun c289 => ?_) (fun c289 => ?_)
                · have H := of_pos H c289
                  refine L_region ?_
                  refine F_val rfl rfl rfl (O_move rfl rfl) ?_
                  refine F_val rfl rfl rfl (O_move rfl rfl) ?_
                  refine F_litE (E := (Eint .i64)) (e := 3) [(0, .int .i64 t256)] [t256] rfl rfl rfl rfl rfl rfl rfl (by decide) (fun w => by kernel_rfl) HS258 (fun w290 A292 c293 HS291 => ?_)
                  have HS291 : Hp S0 w0 w290 [.rd A_freq_0 (rowC (Eint .i64) l_freq_0), .own A253 c254 (rowC (Eint .i64) l255) 3 (Eint .i64).sz, .own A292 c293 (rowC (Eint .i64) [t256]) 3 (Eint .i64).sz] := HS291
                  obtain ⟨l297, h298, H⟩ := of_bnd H
                  obtain ⟨g299, H⟩ := of_gd H
                  refine F_appE (E := (Eint .i64)) (xs := l255) (ys := [t256]) (i := 1) rfl rfl rfl rfl Try.underlying22 info3 rfl (by decide) (by decide) rfl rfl HS291 rfl (HS291.cells_own (i := 2) rfl) h298 g299 (fun w295 A300 c301 HS296 => ?_)
                  have HS296 : Hp S0 w0 w295 [.rd A_freq_0 (rowC (Eint .i64) l_freq_0), .own A300 c301 (rowC (Eint .i64) l297) 3 (Eint .i64).sz, .own A292 c293 (rowC (Eint .i64) [t256]) 3 (Eint .i64).sz] := HS296
                  refine F_val rfl rfl rfl (O_assign rfl rfl) ?_
                  refine F_nil ?_
                  refine L_nil (fun a ha => hNj272 a _ ⟨_, _, _, (Option.some.inj H).symm, Is.cons ha (Is.cons ha (Is.cons ha (Is.cons ha (Is.nil ha) rfl) rfl) rfl) rfl, HS296.sel [0, 1] rfl⟩)
                · have H := of_neg H c289
                  refine L_skip ?_
                  refine L_nil (fun a ha => hNj272 a _ ⟨_, _, _, (Option.some.inj H).symm, Is.cons ha (Is.cons ha (Is.cons ha (Is.cons ha (Is.nil ha) rfl) rfl) rfl) rfl, HS258.sel [0, 1] rfl⟩)
              · obtain ⟨l288, A286, c287, ej, ha, HS303⟩ := hR
                obtain rfl := ej.symm
                refine wpLF_app ?_ ha
                refine L_endB hN260 ?_
                refine L_region ?_
                refine F_val rfl rfl rfl (O_add rfl rfl rfl) ?_
                refine F_val rfl rfl rfl (O_move rfl rfl) ?_
                refine F_nil ?_
                refine L_nil (fun a ha => hNp252 _ a _ (Nat.lt_succ_self _) ⟨_, _, _, _, Is.cons ha (Is.cons ha (Is.cons ha (Is.cons ha (Is.nil ha) rfl) rfl) rfl) rfl, HS303.sel [0, 1] rfl, H⟩)
        · have H := of_neg H c259
          refine L_exitB (fun a w h => hOp252 (.exit 0) a w rfl (hXb157 a w h)) ?_
          refine L_nil (fun a ha => hNj6 a _ ⟨_, _, _, (Option.some.inj H).symm, Is.cons ha (Is.nil ha) rfl, HS258.sel [0, 1] rfl⟩)
    · obtain ⟨l156, A154, c155, rfl, ha, HS305⟩ := hR
      refine wpLF_app ?_ ha
      have H := (onR_inr _ _ _).symm.trans H
      refine L_seq ?_
      refine L_region ?_
      refine F_val rfl rfl rfl (O_move rfl rfl) ?_
      refine F_val rfl rfl rfl (O_assign rfl rfl) ?_
      refine F_val rfl rfl rfl (O_assign rfl rfl) ?_
      refine F_nil ?_
      refine L_ret (fun a ha => (post_ret2 ha rfl rfl rfl ?_))
      obtain rfl := Option.some.inj H
      exact ⟨_, _, rfl, HS305.sel [1] rfl⟩

/-! function 37: valise/build.few -/
theorem build_few.calls {S0 : Nat → Prop} {w0 : World} {A_symbols_1 : Option Addr} {c_symbols_1 : Nat} {n_0 : Int} {l_symbols_1 : List Int} {r : List Int} (HS0 : Hp S0 w0 w0 [.rd A_symbols_1 (rowC (Eint .i64) l_symbols_1)]) (hc_symbols_1 : l_symbols_1.length ≤ c_symbols_1) (h : build_few.f n_0 l_symbols_1 = some r) :
    Calls Try.prog 37 ([.int .i64 n_0, .slice A_symbols_1 l_symbols_1.length c_symbols_1] : List Value).toArray w0 (fun e w => ∃ (A1 : Option Addr), ∃ (c1 : Nat), e = .returned (.slice A1 r.length c1) ∧ Hp S0 w0 w [.own A1 c1 (rowC (Eint .i64) r) 3 (Eint .i64).sz]) := by
  have H : ((gd ((0 : Int) ≤ n_0 ∧ n_0 * 8 ≤ 281474976710656) (bnd (List.replicate (n_0 : Int).toNat (0 : Int)) fun l5 => (build_few.l1 FU l5 0 l_symbols_1).bind fun l58 => some l58)) : Option (List Int)) = some r := h
  refine calls_start Try.func37 rfl rfl ?_
  refine L_seq ?_
  refine L_region ?_
  refine F_val rfl rfl rfl (O_assign rfl rfl) ?_
  refine F_nil ?_
  refine L_seq ?_
  refine L_region ?_
  refine F_val rfl rfl rfl (O_move rfl rfl) ?_
  obtain ⟨⟨g3, g4⟩, H⟩ := of_gd H
  obtain ⟨l5, h6, H⟩ := of_bnd H
  refine F_makeE (E := (Eint .i64)) rfl rfl rfl rfl rfl rfl Try.underlying22 info3 rfl (by decide) (by decide) g3 g4 HS0 h6 (fun w1 A7 c8 HS2 => ?_)
  have HS2 : Hp S0 w0 w1 [.rd A_symbols_1 (rowC (Eint .i64) l_symbols_1), .own A7 c8 (rowC (Eint .i64) l5) 3 (Eint .i64).sz] := HS2
  refine F_val rfl rfl rfl (O_assign rfl rfl) ?_
  refine F_nil ?_
  refine L_seq ?_
  refine L_seq ?_
  refine L_region ?_
  refine F_val rfl rfl rfl (O_move rfl rfl) ?_
  refine F_val rfl rfl rfl (O_len rfl rfl Try.underlying22) ?_
  refine F_val rfl rfl rfl (O_move rfl rfl) ?_
  refine F_nil ?_
  obtain ⟨yj10, Hyj10, H⟩ := of_bind H
  refine L_join (fun a w => ∃ (l58 : List Int), yj10 = l58 ∧ Is Try.f37.ntmps a [(5, .slice A7 l58.length c8)] ∧ Hp S0 w0 w [.rd A_symbols_1 (rowC (Eint .i64) l_symbols_1), .own A7 c8 (rowC (Eint .i64) l58) 3 (Eint .i64).sz]) (fun Qj10 hNj10 hOj10 => ?_) (fun a w hR => ?_)
  · skip
    have H := Hyj10
    refine L_blk (fun Qb59 hNb59 hXb59 hOb59 => ?_)
    refine L_lp (fun k a w => ∃ (l89 : List Int), ∃ (t90 : Int), Is Try.f37.ntmps a [(5, .slice A7 l89.length c8), (10, .slice A_symbols_1 l_symbols_1.length c_symbols_1), (11, .int .i64 (l_symbols_1.length : Int)), (12, .int .i64 t90)] ∧ Hp S0 w0 w [.rd A_symbols_1 (rowC (Eint .i64) l_symbols_1), .own A7 c8 (rowC (Eint .i64) l89) 3 (Eint .i64).sz] ∧ build_few.l1 k l89 t90 l_symbols_1 = some yj10) FU (fun a ha => ⟨_, _, Is.cons ha (Is.cons ha (Is.cons ha (Is.cons ha (Is.nil ha) rfl) rfl) rfl) rfl, HS2.sel [0, 1] rfl, H⟩) (fun kp88 a w91 hI Qp88 hNp88 hOp88 => ?_)
    obtain ⟨l89, t90, ha, HS92, HAp88⟩ := hI
    cases kp88 with
    | zero => cases (show (none : Option _) = some _ from HAp88)
    | succ kp88 =>
      have H := (build_few.l1.eq_2 ..).symm.trans HAp88
      refine wpLF_app ?_ ha
      refine L_seq ?_
      refine L_region ?_
      refine F_val rfl rfl rfl (O_lt rfl rfl rfl) ?_
      refine F_nil ?_
      refine L_seq ?_
      refine L_condP rfl (fun c93 => ?_) (fun c93 => ?_)
      · have H := of_pos H c93
        refine L_skip ?_
        refine L_seq ?_
        refine L_blk (fun Q94 hN94 hX94 hO94 => ?_)
        refine L_seq ?_
        refine L_region ?_
        obtain ⟨⟨g95, g96⟩, H⟩ := of_gd H
        refine F_val rfl rfl rfl (O_idx rfl rfl rfl Try.underlying22 size3 g95 g96 (Cells.isA (HS92.cells_rd (i := 0) rfl) (rowC_ne (E := (Eint .i64)) g95 g96 (by decide)))) ?_
        refine F_val rfl rfl rfl (O_loadC rfl rfl flat3 (HS92.cells_rd (i := 0) rfl) (int_cell g95 g96)) ?_
        obtain ⟨x97, h98, H⟩ := of_bnd H
        refine F_val rfl rfl rfl (O_assign' rfl rfl (congrArg (Value.int .i64) h98)) ?_
        refine F_nil ?_
        refine L_region ?_
        refine F_val rfl rfl rfl (O_move rfl rfl) ?_
        refine F_val rfl rfl rfl (O_move rfl rfl) ?_
        obtain ⟨⟨g99, g100⟩, H⟩ := of_gd H
        refine F_val rfl rfl rfl (O_idx rfl rfl rfl Try.underlying22 size3 g99 g100 (Cells.isA (HS92.cells_own (i := 1) rfl) (rowC_ne (E := (Eint .i64)) g99 g100 (by decide)))) ?_
        obtain ⟨l103, h104, H⟩ := of_bnd H
        refine F_setE (E := (Eint .i64)) (i := 1) (a := 1) (q := x97) rfl rfl rfl rfl rfl rfl size3 HS92 rfl (by decide) g99 g100 h104 (fun w101 HS102 => ?_)
        have e105 : l89.length = l103.length := by rw [← h104, List.length_set]
        refine F_know (i := 5) rfl (congrArg (fun n => Value.slice A7 n c8) e105) ?_
        have HS102 : Hp S0 w0 w101 [.rd A_symbols_1 (rowC (Eint .i64) l_symbols_1), .own A7 c8 (rowC (Eint .i64) l103) 3 (Eint .i64).sz] := HS102
        refine F_nil ?_
        refine L_endB hN94 ?_
        refine L_region ?_
        refine F_val rfl rfl rfl (O_add rfl rfl rfl) ?_
        refine F_val rfl rfl rfl (O_move rfl rfl) ?_
        refine F_nil ?_
        refine L_nil (fun a ha => hNp88 _ a _ (Nat.lt_succ_self _) ⟨_, _, Is.cons ha (Is.cons ha (Is.cons ha (Is.cons ha (Is.nil ha) rfl) rfl) rfl) rfl, HS102.sel [0, 1] rfl, H⟩)
      · have H := of_neg H c93
        refine L_exitB (fun a w h => hOp88 (.exit 0) a w rfl (hXb59 a w h)) ?_
        refine L_nil (fun a ha => hNj10 a _ ⟨_, (Option.some.inj H).symm, Is.cons ha (Is.nil ha) rfl, HS92.sel [0, 1] rfl⟩)
  · obtain ⟨l58, ej, ha, HS107⟩ := hR
    obtain rfl := ej.symm
    refine wpLF_app ?_ ha
    refine L_seq ?_
    refine L_region ?_
    refine F_val rfl rfl rfl (O_move rfl rfl) ?_
    refine F_val rfl rfl rfl (O_assign rfl rfl) ?_
    refine F_nil ?_
    refine L_ret (fun a ha => (post_ret1 ha rfl rfl ?_))
    obtain rfl := Option.some.inj H
    exact ⟨_, _, rfl, HS107.sel [1] rfl⟩

/-! function 46: slices.Clone[[]int,int] -/
theorem slices_Clone_int_int.calls {S0 : Nat → Prop} {w0 : World} {A : Option Addr} {c : Nat} {l r : List Int} (HS0 : Hp S0 w0 w0 [.rd A (rowC (Eint .i64) l)]) (hc : l.length ≤ c) (h : slices_Clone_int_int.f l = some r) :
    Calls Try.prog 46 ([.slice A l.length c] : List Value).toArray w0 (fun e w => ∃ (A1 : Option Addr) (c1 : Nat), e = .returned (.slice A1 r.length c1) ∧ Hp S0 w0 w [.own A1 c1 (rowC (Eint .i64) r) 3 (Eint .i64).sz]) := by
  obtain ⟨g1, H⟩ := of_gd h
  obtain rfl := Option.some.inj H
  refine calls_start Try.func46 rfl rfl ?_
  refine L_seq ?_
  refine L_region ?_
  refine F_val rfl rfl rfl (O_assign rfl rfl) ?_
  refine F_nil ?_
  refine L_seq ?_
  refine L_seq ?_
  refine L_region ?_
  refine F_val rfl rfl rfl (O_move rfl rfl) ?_
  refine F_val rfl rfl rfl (O_sleqN rfl rfl rfl Try.underlying22) ?_
  refine F_nil ?_
  refine L_cond rfl (fun c1 => ?_) (fun c1 => ?_)
  · have hl : l = [] := nil_of_none (HS0.cells_rd (i := 0) rfl) c1
    subst hl
    refine L_seq ?_
    refine L_region ?_
    refine F_val rfl rfl rfl (O_assign rfl rfl) ?_
    refine F_nil ?_
    refine L_ret (fun a ha => post_ret1 ha rfl rfl ?_)
    exact ⟨none, 0, rfl, (HS0.addNil 3 (Eint .i64).sz).sel [1] rfl⟩
  · refine L_skip ?_
    refine L_seq ?_
    refine L_region ?_
    refine F_litE (E := (Eint .i64)) (e := 3) [] ([] : List Int) rfl rfl rfl rfl rfl rfl rfl (by decide) (fun w => by kernel_rfl) HS0 (fun w1 A1 c1 HS1 => ?_)
    refine F_val rfl rfl rfl (O_move rfl rfl) ?_
    refine F_appE (E := (Eint .i64)) (xs := ([] : List Int)) (ys := l) (i := 1) rfl rfl rfl rfl Try.underlying22 info3 rfl (by decide) (by decide) rfl rfl HS1 rfl (HS1.cells_rd (i := 0) rfl) (List.nil_append l) g1 (fun w2 A2 c2 HS2 => ?_)
    refine F_val rfl rfl rfl (O_assign rfl rfl) ?_
    refine F_nil ?_
    refine L_ret (fun a ha => post_ret1 ha rfl rfl ?_)
    exact ⟨_, _, rfl, HS2.sel [1] rfl⟩

/-! function 70: cmp.isNaN[int] -/
theorem cmp_isNaN_int.calls {S0 : Nat → Prop} {w0 : World} {x_0 : Int} {r : Bool} (HS0 : Hp S0 w0 w0 []) (h : cmp_isNaN_int.f x_0 = some r) :
    Calls Try.prog 70 ([.int .i64 x_0] : List Value).toArray w0 (fun e w => e = .returned (.bool r) ∧ Hp S0 w0 w []) := by
  have H : ((some (decide (x_0 ≠ x_0))) : Option (Bool)) = some r := h
  refine calls_start Try.func70 rfl rfl ?_
  refine L_seq ?_
  refine L_region ?_
  refine F_val rfl rfl rfl (O_assign rfl rfl) ?_
  refine F_nil ?_
  refine L_seq ?_
  refine L_region ?_
  refine F_val rfl rfl rfl (O_move rfl rfl) ?_
  refine F_val rfl rfl rfl (O_move rfl rfl) ?_
  refine F_val rfl rfl rfl (O_ne rfl rfl rfl) ?_
  refine F_val rfl rfl rfl (O_assign rfl rfl) ?_
  refine F_nil ?_
  refine L_ret (fun a ha => (post_ret1 ha rfl rfl ?_))
  obtain rfl := Option.some.inj H
  exact ⟨rfl, HS0.sel [] rfl⟩

/-! function 49: cmp.Compare[int] -/
theorem cmp_Compare_int.calls {S0 : Nat → Prop} {w0 : World} {x_0 : Int} {y_1 : Int} {r : Int} (HS0 : Hp S0 w0 w0 []) (h : cmp_Compare_int.f x_0 y_1 = some r) :
    Calls Try.prog 49 ([.int .i64 x_0, .int .i64 y_1] : List Value).toArray w0 (fun e w => e = .returned (.int .i64 r) ∧ Hp S0 w0 w []) := by
  have H : (((cmp_isNaN_int.f x_0).bind fun z3 => (cmp_isNaN_int.f y_1).bind fun z9 => if z3 = true then (if z9 = true then (some 0) else (some (-1))) else (if z9 = true then (some 1) else (if x_0 < y_1 then (some (-1)) else (if y_1 < x_0 then (some 1) else (some 0))))) : Option (Int)) = some r := h
  refine calls_start Try.func49 rfl rfl ?_
  refine L_seq ?_
  refine L_region ?_
  refine F_val rfl rfl rfl (O_assign rfl rfl) ?_
  refine F_nil ?_
  refine L_seq ?_
  refine L_region ?_
  refine F_val rfl rfl rfl (O_move rfl rfl) ?_
  obtain ⟨z3, h2, H⟩ := of_bind H
  refine F_qcall (v := .bool z3) (xs := [.tmp 7]) rfl rfl rfl rfl Try.func70 nm70 rfl rfl ((cmp_isNaN_int.calls (HS0.give [] rfl (Lent.nil)) h2).mono (fun e w hc => ?_)) (fun w4 hw5 => ?_)
  · obtain ⟨rfl, h⟩ := hc
    exact ⟨rfl, h.chg0⟩
  have HS6 := HS0.keep hw5
  refine F_val rfl rfl rfl (O_assign rfl rfl) ?_
  refine F_nil ?_
  refine L_seq ?_
  refine L_region ?_
  refine F_val rfl rfl rfl (O_move rfl rfl) ?_
  obtain ⟨z9, h8, H⟩ := of_bind H
  refine F_qcall (v := .bool z9) (xs := [.tmp 9]) rfl rfl rfl rfl Try.func70 nm70 rfl rfl ((cmp_isNaN_int.calls (HS6.give [] rfl (Lent.nil)) h8).mono (fun e w hc => ?_)) (fun w10 hw11 => ?_)
  · obtain ⟨rfl, h⟩ := hc
    exact ⟨rfl, h.chg0⟩
  have HS12 := HS6.keep hw11
  refine F_val rfl rfl rfl (O_assign rfl rfl) ?_
  refine F_nil ?_
  refine L_seq ?_
  refine L_seq ?_
  refine L_region ?_
  refine F_val rfl rfl rfl (O_move rfl rfl) ?_
  refine F_nil ?_
  refine L_cond rfl (fun c13 => ?_) (fun c13 => ?_)
  · have H := of_pos H c13
    refine L_seq ?_
    refine L_seq ?_
    refine L_region ?_
    refine F_val rfl rfl rfl (O_move rfl rfl) ?_
    refine F_nil ?_
    refine L_cond rfl (fun c14 => ?_) (fun c14 => ?_)
    · have H := of_pos H c14
      refine L_seq ?_
      refine L_region ?_
      refine F_val rfl rfl rfl (O_assign rfl rfl) ?_
      refine F_nil ?_
      refine L_ret (fun a ha => (post_ret1 ha rfl rfl ?_))
      obtain rfl := Option.some.inj H
      exact ⟨rfl, HS12.sel [] rfl⟩
    · have H := of_neg H (by rw [c14]; exact Bool.false_ne_true)
      refine L_skip ?_
      refine L_seq ?_
      refine L_region ?_
      refine F_val rfl rfl rfl (O_assign rfl rfl) ?_
      refine F_nil ?_
      refine L_ret (fun a ha => (post_ret1 ha rfl rfl ?_))
      obtain rfl := Option.some.inj H
      exact ⟨rfl, HS12.sel [] rfl⟩
  · have H := of_neg H (by rw [c13]; exact Bool.false_ne_true)
    refine L_skip ?_
    refine L_seq ?_
    refine L_seq ?_
    refine L_region ?_
    refine F_val rfl rfl rfl (O_move rfl rfl) ?_
    refine F_nil ?_
    refine L_cond rfl (fun c15 => ?_) (fun c15 => ?_)
    · have H := of_pos H c15
      refine L_seq ?_
      refine L_region ?_
      refine F_val rfl rfl rfl (O_assign rfl rfl) ?_
      refine F_nil ?_
      refine L_ret (fun a ha => (post_ret1 ha rfl rfl ?_))
      obtain rfl := Option.some.inj H
      exact ⟨rfl, HS12.sel [] rfl⟩
    · have H := of_neg H (by rw [c15]; exact Bool.false_ne_true)
      refine L_skip ?_
      refine L_seq ?_
      refine L_seq ?_
      refine L_region ?_
      refine F_val rfl rfl rfl (O_move rfl rfl) ?_
      refine F_val rfl rfl rfl (O_move rfl rfl) ?_
      refine F_val rfl rfl rfl (O_lt rfl rfl rfl) ?_
      refine F_nil ?_
      refine L_condP rfl (fun c16 => ?_) (fun c16 => ?_)
      · have H := of_pos H c16
        refine L_seq ?_
        refine L_region ?_
        refine F_val rfl rfl rfl (O_assign rfl rfl) ?_
        refine F_nil ?_
        refine L_ret (fun a ha => (post_ret1 ha rfl rfl ?_))
        obtain rfl := Option.some.inj H
        exact ⟨rfl, HS12.sel [] rfl⟩
      · have H := of_neg H c16
        refine L_skip ?_
        refine L_seq ?_
        refine L_seq ?_
        refine L_region ?_
        refine F_val rfl rfl rfl (O_move rfl rfl) ?_
        refine F_val rfl rfl rfl (O_move rfl rfl) ?_
        refine F_val rfl rfl rfl (O_gt rfl rfl rfl) ?_
        refine F_nil ?_
        refine L_condP rfl (fun c17 => ?_) (fun c17 => ?_)
        · have H := of_pos H c17
          refine L_seq ?_
          refine L_region ?_
          refine F_val rfl rfl rfl (O_assign rfl rfl) ?_
          refine F_nil ?_
          refine L_ret (fun a ha => (post_ret1 ha rfl rfl ?_))
          obtain rfl := Option.some.inj H
          exact ⟨rfl, HS12.sel [] rfl⟩
        · have H := of_neg H c17
          refine L_skip ?_
          refine L_seq ?_
          refine L_region ?_
          refine F_val rfl rfl rfl (O_assign rfl rfl) ?_
          refine F_nil ?_
          refine L_ret (fun a ha => (post_ret1 ha rfl rfl ?_))
          obtain rfl := Option.some.inj H
          exact ⟨rfl, HS12.sel [] rfl⟩

/-! function 48: valise/build.Limited$1 -/
theorem build_Limited_1.calls {S0 : Nat → Prop} {w0 : World} {g_cap0 : Nat} {A_cap0_v : Option Addr} {c_cap0_v : Nat} {a_0 : Int} {b_1 : Int} {cap0_v : List Int} {r : Int} (HS0 : Hp S0 w0 w0 [.rd (some ⟨g_cap0, 0, none⟩) [.slice A_cap0_v cap0_v.length c_cap0_v], .rd A_cap0_v (rowC (Eint .i64) cap0_v)]) (hc_r_cap0_v : cap0_v.length ≤ c_cap0_v) (h : build_Limited_1.f a_0 b_1 cap0_v = some r) :
    Calls Try.prog 48 ([.int .i64 a_0, .int .i64 b_1, .pointer (some ⟨g_cap0, 0, none⟩)] : List Value).toArray w0 (fun e w => e = .returned (.int .i64 r) ∧ Hp S0 w0 w []) := by
  have H : ((gd ((0 : Int) ≤ a_0 ∧ a_0 < (cap0_v.length : Int)) (gd ((0 : Int) ≤ b_1 ∧ b_1 < (cap0_v.length : Int)) ((cmp_Compare_int.f (rd cap0_v a_0) (rd cap0_v b_1)).bind fun z7 => some z7))) : Option (Int)) = some r := h
  refine calls_start Try.func48 rfl rfl ?_
  refine L_seq ?_
  refine L_region ?_
  refine F_val rfl rfl rfl (O_assign rfl rfl) ?_
  refine F_nil ?_
  refine L_seq ?_
  refine L_quiet mix (by kernel_rfl) ?_
  refine Q_val rfl rfl rfl (fun wq hq => O_loadB rfl rfl flat22 ((HS0.keep hq).cells_rd (i := 0) rfl) rfl) ?_
  refine Q_val rfl rfl rfl (fun wq hq => O_move rfl rfl) ?_
  obtain ⟨⟨g1, g2⟩, H⟩ := of_gd H
  refine Q_val rfl rfl rfl (fun wq hq => O_idx rfl rfl rfl Try.underlying22 size3 g1 g2 (Cells.isA ((HS0.keep hq).cells_rd (i := 1) rfl) (rowC_ne (E := (Eint .i64)) g1 g2 (by decide)))) ?_
  refine Q_val rfl rfl rfl (fun wq hq => O_loadC rfl rfl flat3 ((HS0.keep hq).cells_rd (i := 1) rfl) (int_cell g1 g2)) ?_
  refine Q_val rfl rfl rfl (fun wq hq => O_loadB rfl rfl flat22 ((HS0.keep hq).cells_rd (i := 0) rfl) rfl) ?_
  refine Q_val rfl rfl rfl (fun wq hq => O_move rfl rfl) ?_
  obtain ⟨⟨g3, g4⟩, H⟩ := of_gd H
  refine Q_val rfl rfl rfl (fun wq hq => O_idx rfl rfl rfl Try.underlying22 size3 g3 g4 (Cells.isA ((HS0.keep hq).cells_rd (i := 1) rfl) (rowC_ne (E := (Eint .i64)) g3 g4 (by decide)))) ?_
  refine Q_val rfl rfl rfl (fun wq hq => O_loadC rfl rfl flat3 ((HS0.keep hq).cells_rd (i := 1) rfl) (int_cell g3 g4)) ?_
  obtain ⟨z7, h6, H⟩ := of_bind H
  refine Q_call (v := .int .i64 z7) (xs := [.tmp 9, .tmp 13]) rfl rfl rfl rfl Try.func49 nm49 rfl rfl (fun wq hq => (cmp_Compare_int.calls ((HS0.keep hq).give [] rfl (Lent.nil)) h6).mono (fun e w hc => ?_)) ?_
  · obtain ⟨rfl, h⟩ := hc
    exact ⟨rfl, hq.trans h.chg0⟩
  refine Q_val rfl rfl rfl (fun wq hq => O_assign rfl rfl) ?_
  refine Q_nil (fun w8 hw9 => ?_)
  have HS10 := HS0.keep hw9
  refine L_ret (fun a ha => (post_ret1 ha rfl rfl ?_))
  obtain rfl := Option.some.inj H
  exact ⟨rfl, HS10.sel [] rfl⟩

/-! function 81: slices.insertionSortCmpFunc[int] -/
theorem slices_insertionSortCmpFunc_int_cbuild_Limited_1.calls {S0 : Nat → Prop} {w0 : World} {A_data_0 : Option Addr} {c_data_0 : Nat} {g_cmp_3_c0 : Nat} {A_cmp_3_c0_v : Option Addr} {c_cmp_3_c0_v : Nat} {l_data_0 : List Int} {a_1 : Int} {b_2 : Int} {cmp_3_c0_v : List Int} {r : List Int} (HS0 : Hp S0 w0 w0 [.own A_data_0 c_data_0 (rowC (Eint .i64) l_data_0) 3 (Eint .i64).sz, .rd (some ⟨g_cmp_3_c0, 0, none⟩) [.slice A_cmp_3_c0_v cmp_3_c0_v.length c_cmp_3_c0_v], .rd A_cmp_3_c0_v (rowC (Eint .i64) cmp_3_c0_v)]) (hc_r_cmp_3_c0_v : cmp_3_c0_v.length ≤ c_cmp_3_c0_v) (h : slices_insertionSortCmpFunc_int_cbuild_Limited_1.f l_data_0 a_1 b_2 cmp_3_c0_v = some r) :
    Calls Try.prog 81 ([.slice A_data_0 l_data_0.length c_data_0, .int .i64 a_1, .int .i64 b_2, .func (.func 48) #[] #[.pointer (some ⟨g_cmp_3_c0, 0, none⟩)]] : List Value).toArray w0 (fun e w => e = .returned (.tuple #[]) ∧ Hp S0 w0 w [.own A_data_0 c_data_0 (rowC (Eint .i64) r) 3 (Eint .i64).sz] ∧ r.length = l_data_0.length) := by
  have H : ((bnd (IntKind.i64.wrap (a_1 + 1)) fun x1 => (slices_insertionSortCmpFunc_int_cbuild_Limited_1.l11 FU l_data_0 x1 a_1 b_2 cmp_3_c0_v).bind fun l1218 => gd (l1218.length = l_data_0.length) (some l1218)) : Option (List Int)) = some r := h
  refine calls_start Try.func81 rfl rfl ?_
  refine L_seq ?_
  refine L_region ?_
  refine F_val rfl rfl rfl (O_move rfl rfl) ?_
  refine F_val rfl rfl rfl (O_add rfl rfl rfl) ?_
  obtain ⟨x1, h2, H⟩ := of_bnd H
  refine F_val rfl rfl rfl (O_assign' rfl rfl (congrArg (Value.int .i64) h2)) ?_
  refine F_nil ?_
  obtain ⟨yj3, Hyj3, H⟩ := of_bind H
  refine L_join (fun a w => ∃ (l1218 : List Int), yj3 = l1218 ∧ Is Try.f81.ntmps a [] ∧ Hp S0 w0 w [.own A_data_0 c_data_0 (rowC (Eint .i64) l1218) 3 (Eint .i64).sz, .rd (some ⟨g_cmp_3_c0, 0, none⟩) [.slice A_cmp_3_c0_v cmp_3_c0_v.length c_cmp_3_c0_v], .rd A_cmp_3_c0_v (rowC (Eint .i64) cmp_3_c0_v)]) (fun Qj3 hNj3 hOj3 => ?_) (fun a w hR => ?_)
  · skip
    have H := Hyj3
    refine L_blk (fun Qb1219 hNb1219 hXb1219 hOb1219 => ?_)
    refine L_lp (fun k a w => ∃ (l2027 : List Int), ∃ (i_2028 : Int), Is Try.f81.ntmps a [(0, .slice A_data_0 l2027.length c_data_0), (1, .int .i64 a_1), (2, .int .i64 b_2), (3, .func (.func 48) #[] #[.pointer (some ⟨g_cmp_3_c0, 0, none⟩)]), (8, .int .i64 i_2028)] ∧ Hp S0 w0 w [.own A_data_0 c_data_0 (rowC (Eint .i64) l2027) 3 (Eint .i64).sz, .rd (some ⟨g_cmp_3_c0, 0, none⟩) [.slice A_cmp_3_c0_v cmp_3_c0_v.length c_cmp_3_c0_v], .rd A_cmp_3_c0_v (rowC (Eint .i64) cmp_3_c0_v)] ∧ slices_insertionSortCmpFunc_int_cbuild_Limited_1.l11 k l2027 i_2028 a_1 b_2 cmp_3_c0_v = some yj3) FU (fun a ha => ⟨_, _, Is.cons ha (Is.cons ha (Is.cons ha (Is.cons ha (Is.cons ha (Is.nil ha) rfl) rfl) rfl) rfl) rfl, HS0.sel [0, 1, 2] rfl, H⟩) (fun kp2026 a w2029 hI Qp2026 hNp2026 hOp2026 => ?_)
    obtain ⟨l2027, i_2028, ha, HS2030, HAp2026⟩ := hI
    cases kp2026 with
    | zero => cases (show (none : Option _) = some _ from HAp2026)
    | succ kp2026 =>
      have H := (slices_insertionSortCmpFunc_int_cbuild_Limited_1.l11.eq_2 ..).symm.trans HAp2026
      refine wpLF_app ?_ ha
      refine L_seq ?_
      refine L_seq ?_
      refine L_region ?_
      refine F_val rfl rfl rfl (O_move rfl rfl) ?_
      refine F_val rfl rfl rfl (O_move rfl rfl) ?_
      refine F_val rfl rfl rfl (O_lt rfl rfl rfl) ?_
      refine F_nil ?_
      refine L_condP rfl (fun c2031 => ?_) (fun c2031 => ?_)
      · have H := of_pos H c2031
        refine L_skip ?_
        refine L_seq ?_
        refine L_blk (fun Q2032 hN2032 hX2032 hO2032 => ?_)
        refine L_seq ?_
        refine L_region ?_
        refine F_val rfl rfl rfl (O_move rfl rfl) ?_
        refine F_val rfl rfl rfl (O_assign rfl rfl) ?_
        refine F_nil ?_
        obtain ⟨yj2033, Hyj2033, H⟩ := of_bind H
        refine L_join (fun a w => ∃ (l2231 : List Int), yj2033 = l2231 ∧ Is Try.f81.ntmps a [(0, .slice A_data_0 l2231.length c_data_0), (1, .int .i64 a_1), (2, .int .i64 b_2), (3, .func (.func 48) #[] #[.pointer (some ⟨g_cmp_3_c0, 0, none⟩)]), (8, .int .i64 i_2028)] ∧ Hp S0 w0 w [.own A_data_0 c_data_0 (rowC (Eint .i64) l2231) 3 (Eint .i64).sz, .rd (some ⟨g_cmp_3_c0, 0, none⟩) [.slice A_cmp_3_c0_v cmp_3_c0_v.length c_cmp_3_c0_v], .rd A_cmp_3_c0_v (rowC (Eint .i64) cmp_3_c0_v)]) (fun Qj2033 hNj2033 hOj2033 => ?_) (fun a w hR => ?_)
        · skip
          have H := Hyj2033
          refine L_blk (fun Qb2232 hNb2232 hXb2232 hOb2232 => ?_)
          refine L_lp (fun k a w => ∃ (l2362 : List Int), ∃ (j_2363 : Int), Is Try.f81.ntmps a [(0, .slice A_data_0 l2362.length c_data_0), (1, .int .i64 a_1), (2, .int .i64 b_2), (3, .func (.func 48) #[] #[.pointer (some ⟨g_cmp_3_c0, 0, none⟩)]), (8, .int .i64 i_2028), (9, .int .i64 j_2363)] ∧ Hp S0 w0 w [.own A_data_0 c_data_0 (rowC (Eint .i64) l2362) 3 (Eint .i64).sz, .rd (some ⟨g_cmp_3_c0, 0, none⟩) [.slice A_cmp_3_c0_v cmp_3_c0_v.length c_cmp_3_c0_v], .rd A_cmp_3_c0_v (rowC (Eint .i64) cmp_3_c0_v)] ∧ slices_insertionSortCmpFunc_int_cbuild_Limited_1.l13 k l2362 j_2363 a_1 cmp_3_c0_v = some yj2033) FU (fun a ha => ⟨_, _, Is.cons ha (Is.cons ha (Is.cons ha (Is.cons ha (Is.cons ha (Is.cons ha (Is.nil ha) rfl) rfl) rfl) rfl) rfl) rfl, HS2030.sel [0, 1, 2] rfl, H⟩) (fun kp2361 a w2364 hI Qp2361 hNp2361 hOp2361 => ?_)
          obtain ⟨l2362, j_2363, ha, HS2365, HAp2361⟩ := hI
          cases kp2361 with
          | zero => cases (show (none : Option _) = some _ from HAp2361)
          | succ kp2361 =>
            have H := (slices_insertionSortCmpFunc_int_cbuild_Limited_1.l13.eq_2 ..).symm.trans HAp2361
            refine wpLF_app ?_ ha
            refine L_seq ?_
            refine L_seq ?_
            refine L_quiet mix (by kernel_rfl) ?_
            refine Q_val rfl rfl rfl (fun wq hq => O_move rfl rfl) ?_
            refine Q_val rfl rfl rfl (fun wq hq => O_move rfl rfl) ?_
            refine Q_val rfl rfl rfl (fun wq hq => O_gt rfl rfl rfl) ?_
            refine Q_val rfl rfl rfl (fun wq hq => O_move rfl rfl) ?_
            obtain ⟨b2373, Hb2373, H⟩ := of_bind H
            refine Q_grp 13 [(34, .bool b2373), (0, .slice A_data_0 l2362.length c_data_0), (1, .int .i64 a_1), (2, .int .i64 b_2), (3, .func (.func 48) #[] #[.pointer (some ⟨g_cmp_3_c0, 0, none⟩)]), (8, .int .i64 i_2028), (9, .int .i64 j_2363)] ?_ ?_
            · rcases Decidable.em (a_1 < j_2363) with c2377 | c2377
              · refine Q_know (i := 21) rfl (dec_t c2377) ?_
                have H := of_pos Hb2373 c2377
                refine Q_gval rfl rfl rfl rfl rfl rfl (fun wq hq => O_move rfl rfl) ?_
                refine Q_gval rfl rfl rfl rfl rfl rfl (fun wq hq => O_move rfl rfl) ?_
                refine Q_gval rfl rfl rfl rfl rfl rfl (fun wq hq => O_move rfl rfl) ?_
                obtain ⟨⟨g2378, g2379⟩, H⟩ := of_gd H
                refine Q_gval rfl rfl rfl rfl rfl rfl (fun wq hq => O_idx rfl rfl rfl Try.underlying22 size3 g2378 g2379 (Cells.isA ((HS2365.keep hq).cells_own (i := 0) rfl) (rowC_ne (E := (Eint .i64)) g2378 g2379 (by decide)))) ?_
                refine Q_gval rfl rfl rfl rfl rfl rfl (fun wq hq => O_loadC rfl rfl flat3 ((HS2365.keep hq).cells_own (i := 0) rfl) (int_cell g2378 g2379)) ?_
                refine Q_gval rfl rfl rfl rfl rfl rfl (fun wq hq => O_move rfl rfl) ?_
                refine Q_gval rfl rfl rfl rfl rfl rfl (fun wq hq => O_move rfl rfl) ?_
                refine Q_gval rfl rfl rfl rfl rfl rfl (fun wq hq => O_sub rfl rfl rfl) ?_
                obtain ⟨⟨g2380, g2381⟩, H⟩ := of_gd H
                refine Q_gval rfl rfl rfl rfl rfl rfl (fun wq hq => O_idx rfl rfl rfl Try.underlying22 size3 g2380 g2381 (Cells.isA ((HS2365.keep hq).cells_own (i := 0) rfl) (rowC_ne (E := (Eint .i64)) g2380 g2381 (by decide)))) ?_
                refine Q_gval rfl rfl rfl rfl rfl rfl (fun wq hq => O_loadC rfl rfl flat3 ((HS2365.keep hq).cells_own (i := 0) rfl) (int_cell g2380 g2381)) ?_
                obtain ⟨z2384, h2383, H⟩ := of_bind H
                refine Q_gcallV (v := .int .i64 z2384) (xs := [.tmp 26, .tmp 31]) (cv := [.pointer (some ⟨g_cmp_3_c0, 0, none⟩)]) rfl rfl rfl rfl rfl rfl rfl rfl Try.func48 nm48 rfl rfl rfl (fun wq hq => (build_Limited_1.calls ((HS2365.keep hq).give [] rfl (Lent.rd (HS2365.keep hq) (Lent.rd (HS2365.keep hq) (Lent.nil) (i := 2) rfl (((HS2365.keep hq).cells_rd (i := 2) rfl).self)) (i := 1) rfl ((HS2365.keep hq).cells_rd (i := 1) rfl).self)) hc_r_cmp_3_c0_v h2383).mono (fun e w hc => ?_)) ?_
                · obtain ⟨rfl, h⟩ := hc
                  exact ⟨rfl, hq.trans h.chg0⟩
                refine Q_gval rfl rfl rfl rfl rfl rfl (fun wq hq => O_lt rfl rfl rfl) ?_
                refine Q_val rfl rfl rfl (fun wq hq => O_pickT rfl rfl rfl) ?_
                refine Q_know (i := 34) rfl (congrArg Value.bool (Option.some.inj H)) ?_
                exact Q_grpE (fun a ha => Is.cons ha (Is.cons ha (Is.cons ha (Is.cons ha (Is.cons ha (Is.cons ha (Is.cons ha (Is.nil ha) rfl) rfl) rfl) rfl) rfl) rfl) rfl)
              · refine Q_know (i := 21) rfl (dec_f c2377) ?_
                have H := of_neg Hb2373 c2377
                refine Q_gskip rfl rfl rfl rfl rfl rfl rfl ?_
                refine Q_gskip rfl rfl rfl rfl rfl rfl rfl ?_
                refine Q_gskip rfl rfl rfl rfl rfl rfl rfl ?_
                refine Q_gskip rfl rfl rfl rfl rfl rfl rfl ?_
                refine Q_gskip rfl rfl rfl rfl rfl rfl rfl ?_
                refine Q_gskip rfl rfl rfl rfl rfl rfl rfl ?_
                refine Q_gskip rfl rfl rfl rfl rfl rfl rfl ?_
                refine Q_gskip rfl rfl rfl rfl rfl rfl rfl ?_
                refine Q_gskip rfl rfl rfl rfl rfl rfl rfl ?_
                refine Q_gskip rfl rfl rfl rfl rfl rfl rfl ?_
                refine Q_gskip rfl rfl rfl rfl rfl rfl rfl ?_
                refine Q_gskip rfl rfl rfl rfl rfl rfl rfl ?_
                refine Q_val rfl rfl rfl (fun wq hq => O_pickF rfl rfl rfl) ?_
                refine Q_know (i := 34) rfl (congrArg Value.bool (Option.some.inj H)) ?_
                exact Q_grpE (fun a ha => Is.cons ha (Is.cons ha (Is.cons ha (Is.cons ha (Is.cons ha (Is.cons ha (Is.cons ha (Is.nil ha) rfl) rfl) rfl) rfl) rfl) rfl) rfl)
            · skip
              refine Q_nil (fun w2385 hw2386 => ?_)
              have HS2387 := HS2365.keep hw2386
              refine L_cond rfl (fun c2388 => ?_) (fun c2388 => ?_)
              · have H := of_pos H c2388
                refine L_skip ?_
                refine L_seq ?_
                refine L_blk (fun Q2389 hN2389 hX2389 hO2389 => ?_)
                refine L_held2 17 1 [17] [15, 17] mix rfl (fun w2406 hw2407 => ?_)
                have HS2408 := HS2387.keep hw2407
                have HR2409 : Hp (HS2408.ft [0]) w2406 w2406 [.own A_data_0 c_data_0 (rowC (Eint .i64) l2362) 3 (Eint .i64).sz, .rd (some ⟨g_cmp_3_c0, 0, none⟩) [.slice A_cmp_3_c0_v cmp_3_c0_v.length c_cmp_3_c0_v], .rd A_cmp_3_c0_v (rowC (Eint .i64) cmp_3_c0_v)] := HS2408.give [0] rfl (Lent.rd HS2408 (Lent.rd HS2408 (Lent.nil) (i := 2) rfl (HS2408.cells_rd (i := 2) rfl).self) (i := 1) rfl (HS2408.cells_rd (i := 1) rfl).self)
                refine ⟨fun w => Hp (HS2408.ft [0]) w2406 w [.own A_data_0 c_data_0 (rowC (Eint .i64) l2362) 3 (Eint .i64).sz, .rd (some ⟨g_cmp_3_c0, 0, none⟩) [.slice A_cmp_3_c0_v cmp_3_c0_v.length c_cmp_3_c0_v], .rd A_cmp_3_c0_v (rowC (Eint .i64) cmp_3_c0_v)], HS2408.turns [0], ?_⟩
                refine H2_fval (i := 0) rfl (by kernel_rfl) (by kernel_rfl) (by kernel_rfl) (by kernel_rfl) (by kernel_rfl) rfl rfl rfl (SS_0 (by kernel_rfl) (HR2409.sel [0, 1, 2] rfl)) (fun wq => O_move rfl rfl) ?_
                refine H2_fval (i := 1) rfl (by kernel_rfl) (by kernel_rfl) (by kernel_rfl) (by kernel_rfl) (by kernel_rfl) rfl rfl rfl (SS_0 (by kernel_rfl) (HR2409.sel [0, 1, 2] rfl)) (fun wq => O_move rfl rfl) ?_
                refine H2_fval (i := 2) rfl (by kernel_rfl) (by kernel_rfl) (by kernel_rfl) (by kernel_rfl) (by kernel_rfl) rfl rfl rfl (SS_0 (by kernel_rfl) (HR2409.sel [0, 1, 2] rfl)) (fun wq => O_move rfl rfl) ?_
                refine H2_fval (i := 3) rfl (by kernel_rfl) (by kernel_rfl) (by kernel_rfl) (by kernel_rfl) (by kernel_rfl) rfl rfl rfl (SS_0 (by kernel_rfl) (HR2409.sel [0, 1, 2] rfl)) (fun wq => O_move rfl rfl) ?_
                refine H2_fval (i := 4) rfl (by kernel_rfl) (by kernel_rfl) (by kernel_rfl) (by kernel_rfl) (by kernel_rfl) rfl rfl rfl (SS_0 (by kernel_rfl) (HR2409.sel [0, 1, 2] rfl)) (fun wq => O_sub rfl rfl rfl) ?_
                refine H2_fval (i := 5) rfl (by kernel_rfl) (by kernel_rfl) (by kernel_rfl) (by kernel_rfl) (by kernel_rfl) rfl rfl rfl (SS_0 (by kernel_rfl) (HR2409.sel [0, 1, 2] rfl)) (fun wq => O_move rfl rfl) ?_
                refine H2_fval (i := 6) rfl (by kernel_rfl) (by kernel_rfl) (by kernel_rfl) (by kernel_rfl) (by kernel_rfl) rfl rfl rfl (SS_0 (by kernel_rfl) (HR2409.sel [0, 1, 2] rfl)) (fun wq => O_move rfl rfl) ?_
                refine H2_fval (i := 7) rfl (by kernel_rfl) (by kernel_rfl) (by kernel_rfl) (by kernel_rfl) (by kernel_rfl) rfl rfl rfl (SS_0 (by kernel_rfl) (HR2409.sel [0, 1, 2] rfl)) (fun wq => O_sub rfl rfl rfl) ?_
                obtain ⟨⟨g2410, g2411⟩, H⟩ := of_gd H
                refine H2_fval (i := 8) rfl (by kernel_rfl) (by kernel_rfl) (by kernel_rfl) (by kernel_rfl) (by kernel_rfl) rfl rfl rfl (SS_0 (by kernel_rfl) (HR2409.sel [0, 1, 2] rfl)) (fun wq => O_idx rfl rfl rfl Try.underlying22 size3 g2410 g2411 (Cells.isA (HR2409.cells_own (i := 0) rfl) (rowC_ne (E := (Eint .i64)) g2410 g2411 (by decide)))) ?_
                refine H2_val (i := 9) [14, 15, 16, 17] rfl (by kernel_rfl) (by kernel_rfl) (by kernel_rfl) (by kernel_rfl) (by kernel_rfl) (by kernel_rfl) (by kernel_rfl) (by kernel_rfl) rfl rfl rfl (HR2409.sel [0, 1, 2] rfl) (fun wq hq => O_loadC rfl rfl flat3 (hq.cells_own (i := 0) rfl) (int_cell g2410 g2411)) ?_
                refine H2_fval (i := 10) rfl (by kernel_rfl) (by kernel_rfl) (by kernel_rfl) (by kernel_rfl) (by kernel_rfl) rfl rfl rfl (SS_0 (by kernel_rfl) (HR2409.sel [0, 1, 2] rfl)) (fun wq => O_move rfl rfl) ?_
                refine H2_fval (i := 11) rfl (by kernel_rfl) (by kernel_rfl) (by kernel_rfl) (by kernel_rfl) (by kernel_rfl) rfl rfl rfl (SS_0 (by kernel_rfl) (HR2409.sel [0, 1, 2] rfl)) (fun wq => O_move rfl rfl) ?_
                obtain ⟨⟨g2412, g2413⟩, H⟩ := of_gd H
                refine H2_fval (i := 12) rfl (by kernel_rfl) (by kernel_rfl) (by kernel_rfl) (by kernel_rfl) (by kernel_rfl) rfl rfl rfl (SS_0 (by kernel_rfl) (HR2409.sel [0, 1, 2] rfl)) (fun wq => O_idx rfl rfl rfl Try.underlying22 size3 g2412 g2413 (Cells.isA (HR2409.cells_own (i := 0) rfl) (rowC_ne (E := (Eint .i64)) g2412 g2413 (by decide)))) ?_
                refine H2_val (i := 13) [14, 15, 16, 17] rfl (by kernel_rfl) (by kernel_rfl) (by kernel_rfl) (by kernel_rfl) (by kernel_rfl) (by kernel_rfl) (by kernel_rfl) (by kernel_rfl) rfl rfl rfl (HR2409.sel [0, 1, 2] rfl) (fun wq hq => O_loadC rfl rfl flat3 (hq.cells_own (i := 0) rfl) (int_cell g2412 g2413)) ?_
                refine H2_fval (i := 14) rfl (by kernel_rfl) (by kernel_rfl) (by kernel_rfl) (by kernel_rfl) (by kernel_rfl) rfl rfl rfl (SS_0 (by kernel_rfl) (HR2409.sel [0, 1, 2] rfl)) (fun wq => O_idx rfl rfl rfl Try.underlying22 size3 g2412 g2413 (Cells.isA (HR2409.cells_own (i := 0) rfl) (rowC_ne (E := (Eint .i64)) g2412 g2413 (by decide)))) ?_
                refine H2_one (i := 15) rfl (by kernel_rfl) (by kernel_rfl) ?_
                obtain ⟨l2416, h2417, H⟩ := of_bnd H
                refine F_setE (E := (Eint .i64)) (i := 0) (a := rd l2362 (IntKind.i64.wrap (j_2363 - 1))) (q := j_2363) rfl rfl rfl rfl rfl rfl size3 HR2409 rfl (by decide) g2412 g2413 h2417 (fun w2414 HS2415 => ?_)
                have e2418 : l2362.length = l2416.length := by rw [← h2417, List.length_set]
                refine F_know (i := 0) rfl (congrArg (fun n => Value.slice A_data_0 n c_data_0) e2418) ?_
                refine F_know (i := 37) rfl (congrArg (fun n => Value.slice A_data_0 n c_data_0) e2418) ?_
                refine F_know (i := 39) rfl (congrArg (fun n => Value.slice A_data_0 n c_data_0) e2418) ?_
                refine F_know (i := 42) rfl (congrArg (fun n => Value.slice A_data_0 n c_data_0) e2418) ?_
                refine F_know (i := 47) rfl (congrArg (fun n => Value.slice A_data_0 n c_data_0) e2418) ?_
                have HS2415 : Hp (HS2408.ft [0]) w2406 w2414 [.own A_data_0 c_data_0 (rowC (Eint .i64) l2416) 3 (Eint .i64).sz, .rd (some ⟨g_cmp_3_c0, 0, none⟩) [.slice A_cmp_3_c0_v cmp_3_c0_v.length c_cmp_3_c0_v], .rd A_cmp_3_c0_v (rowC (Eint .i64) cmp_3_c0_v)] := HS2415
                refine H2_next (SS_1 (by kernel_rfl) HS2415.chg) ?_
                obtain ⟨⟨g2419, g2420⟩, H⟩ := of_gd H
                refine H2_fval (i := 16) rfl (by kernel_rfl) (by kernel_rfl) (by kernel_rfl) (by kernel_rfl) (by kernel_rfl) rfl rfl rfl (SS_1 (by kernel_rfl) HS2415.chg) (fun wq => O_idx rfl rfl rfl Try.underlying22 size3 g2419 g2420 (Cells.isA (HS2415.cells_own (i := 0) rfl) (rowC_ne (E := (Eint .i64)) g2419 g2420 (by decide)))) ?_
                refine H2_end (by kernel_rfl) ?_
                have HS2421 : Hp S0 w0 w2414 [.own A_data_0 c_data_0 (rowC (Eint .i64) l2416) 3 (Eint .i64).sz, .rd (some ⟨g_cmp_3_c0, 0, none⟩) [.slice A_cmp_3_c0_v cmp_3_c0_v.length c_cmp_3_c0_v], .rd A_cmp_3_c0_v (rowC (Eint .i64) cmp_3_c0_v)] := (HS2408.back [0] (HS2415.sel [0] rfl) rfl).sel [3, 1, 2] rfl
                refine T_one (i := 17) rfl (by kernel_rfl) ?_
                obtain ⟨l2424, h2425, H⟩ := of_bnd H
                refine F_setE (E := (Eint .i64)) (i := 0) (a := rd l2362 j_2363) (q := IntKind.i64.wrap (j_2363 - 1)) rfl rfl rfl rfl rfl rfl size3 HS2421 rfl (by decide) g2419 g2420 h2425 (fun w2422 HS2423 => ?_)
                have e2426 : l2416.length = l2424.length := by rw [← h2425, List.length_set]
                refine F_know (i := 0) rfl (congrArg (fun n => Value.slice A_data_0 n c_data_0) e2426) ?_
                refine F_know (i := 37) rfl (congrArg (fun n => Value.slice A_data_0 n c_data_0) e2426) ?_
                refine F_know (i := 39) rfl (congrArg (fun n => Value.slice A_data_0 n c_data_0) e2426) ?_
                refine F_know (i := 42) rfl (congrArg (fun n => Value.slice A_data_0 n c_data_0) e2426) ?_
                refine F_know (i := 47) rfl (congrArg (fun n => Value.slice A_data_0 n c_data_0) e2426) ?_
                have HS2423 : Hp S0 w0 w2422 [.own A_data_0 c_data_0 (rowC (Eint .i64) l2424) 3 (Eint .i64).sz, .rd (some ⟨g_cmp_3_c0, 0, none⟩) [.slice A_cmp_3_c0_v cmp_3_c0_v.length c_cmp_3_c0_v], .rd A_cmp_3_c0_v (rowC (Eint .i64) cmp_3_c0_v)] := HS2423
                refine T_next ?_
                refine T_done (by kernel_rfl) ?_
                refine L_endB hN2389 ?_
                refine L_region ?_
                refine F_val rfl rfl rfl (O_move rfl rfl) ?_
                refine F_val rfl rfl rfl (O_sub rfl rfl rfl) ?_
                obtain ⟨x2427, h2428, H⟩ := of_bnd H
                refine F_val rfl rfl rfl (O_assign' rfl rfl (congrArg (Value.int .i64) h2428)) ?_
                refine F_nil ?_
                refine L_nil (fun a ha => hNp2361 _ a _ (Nat.lt_succ_self _) ⟨_, _, Is.cons ha (Is.cons ha (Is.cons ha (Is.cons ha (Is.cons ha (Is.cons ha (Is.nil ha) rfl) rfl) rfl) rfl) rfl) rfl, HS2423.sel [0, 1, 2] rfl, H⟩)
              · have H := of_neg H (by rw [c2388]; exact Bool.false_ne_true)
                refine L_exitB (fun a w h => hOp2361 (.exit 2) a w rfl (hXb2232 a w h)) ?_
                refine L_nil (fun a ha => hNj2033 a _ ⟨_, (Option.some.inj H).symm, Is.cons ha (Is.cons ha (Is.cons ha (Is.cons ha (Is.cons ha (Is.nil ha) rfl) rfl) rfl) rfl) rfl, HS2387.sel [0, 1, 2] rfl⟩)
        · obtain ⟨l2231, ej, ha, HS2430⟩ := hR
          obtain rfl := ej.symm
          refine wpLF_app ?_ ha
          refine L_endB hN2032 ?_
          refine L_region ?_
          refine F_val rfl rfl rfl (O_move rfl rfl) ?_
          refine F_val rfl rfl rfl (O_add rfl rfl rfl) ?_
          obtain ⟨x2431, h2432, H⟩ := of_bnd H
          refine F_val rfl rfl rfl (O_assign' rfl rfl (congrArg (Value.int .i64) h2432)) ?_
          refine F_nil ?_
          refine L_nil (fun a ha => hNp2026 _ a _ (Nat.lt_succ_self _) ⟨_, _, Is.cons ha (Is.cons ha (Is.cons ha (Is.cons ha (Is.cons ha (Is.nil ha) rfl) rfl) rfl) rfl) rfl, HS2430.sel [0, 1, 2] rfl, H⟩)
      · have H := of_neg H c2031
        refine L_exitB (fun a w h => hOp2026 (.exit 0) a w rfl (hXb1219 a w h)) ?_
        refine L_nil (fun a ha => hNj3 a _ ⟨_, (Option.some.inj H).symm, Is.nil ha, HS2030.sel [0, 1, 2] rfl⟩)
  · obtain ⟨l1218, ej, ha, HS2434⟩ := hR
    obtain rfl := ej.symm
    refine wpLF_app ?_ ha
    obtain ⟨g2435, H⟩ := of_gd H
    refine L_nil (fun a ha => (post_end0 ha rfl ?_))
    obtain rfl := Option.some.inj H
    exact ⟨rfl, HS2434.sel [0] rfl, g2435⟩

/-! function 89: slices.swapRangeCmpFunc[int] -/
theorem slices_swapRangeCmpFunc_int_cbuild_Limited_1.calls {S0 : Nat → Prop} {w0 : World} {A_data_0 : Option Addr} {c_data_0 : Nat} {g_cmp_4_c0 : Nat} {A_cmp_4_c0_v : Option Addr} {c_cmp_4_c0_v : Nat} {l_data_0 : List Int} {a_1 : Int} {b_2 : Int} {n_3 : Int} {cmp_4_c0_v : List Int} {r : List Int} (HS0 : Hp S0 w0 w0 [.own A_data_0 c_data_0 (rowC (Eint .i64) l_data_0) 3 (Eint .i64).sz, .rd (some ⟨g_cmp_4_c0, 0, none⟩) [.slice A_cmp_4_c0_v cmp_4_c0_v.length c_cmp_4_c0_v], .rd A_cmp_4_c0_v (rowC (Eint .i64) cmp_4_c0_v)]) (hc_r_cmp_4_c0_v : cmp_4_c0_v.length ≤ c_cmp_4_c0_v) (h : slices_swapRangeCmpFunc_int_cbuild_Limited_1.f l_data_0 a_1 b_2 n_3 cmp_4_c0_v = some r) :
    Calls Try.prog 89 ([.slice A_data_0 l_data_0.length c_data_0, .int .i64 a_1, .int .i64 b_2, .int .i64 n_3, .func (.func 48) #[] #[.pointer (some ⟨g_cmp_4_c0, 0, none⟩)]] : List Value).toArray w0 (fun e w => e = .returned (.tuple #[]) ∧ Hp S0 w0 w [.own A_data_0 c_data_0 (rowC (Eint .i64) r) 3 (Eint .i64).sz] ∧ r.length = l_data_0.length) := by
  have H : (((slices_swapRangeCmpFunc_int_cbuild_Limited_1.l1 FU l_data_0 0 a_1 b_2 n_3).bind fun l133 => gd (l133.length = l_data_0.length) (some l133)) : Option (List Int)) = some r := h
  refine calls_start Try.func89 rfl rfl ?_
  refine L_seq ?_
  refine L_region ?_
  refine F_val rfl rfl rfl (O_assign rfl rfl) ?_
  refine F_nil ?_
  obtain ⟨yj1, Hyj1, H⟩ := of_bind H
  refine L_join (fun a w => ∃ (l133 : List Int), yj1 = l133 ∧ Is Try.f89.ntmps a [] ∧ Hp S0 w0 w [.own A_data_0 c_data_0 (rowC (Eint .i64) l133) 3 (Eint .i64).sz, .rd (some ⟨g_cmp_4_c0, 0, none⟩) [.slice A_cmp_4_c0_v cmp_4_c0_v.length c_cmp_4_c0_v], .rd A_cmp_4_c0_v (rowC (Eint .i64) cmp_4_c0_v)]) (fun Qj1 hNj1 hOj1 => ?_) (fun a w hR => ?_)
  · skip
    have H := Hyj1
    refine L_blk (fun Qb134 hNb134 hXb134 hOb134 => ?_)
    refine L_lp (fun k a w => ∃ (l220 : List Int), ∃ (i_221 : Int), Is Try.f89.ntmps a [(0, .slice A_data_0 l220.length c_data_0), (1, .int .i64 a_1), (2, .int .i64 b_2), (3, .int .i64 n_3), (10, .int .i64 i_221)] ∧ Hp S0 w0 w [.own A_data_0 c_data_0 (rowC (Eint .i64) l220) 3 (Eint .i64).sz, .rd (some ⟨g_cmp_4_c0, 0, none⟩) [.slice A_cmp_4_c0_v cmp_4_c0_v.length c_cmp_4_c0_v], .rd A_cmp_4_c0_v (rowC (Eint .i64) cmp_4_c0_v)] ∧ slices_swapRangeCmpFunc_int_cbuild_Limited_1.l1 k l220 i_221 a_1 b_2 n_3 = some yj1) FU (fun a ha => ⟨_, _, Is.cons ha (Is.cons ha (Is.cons ha (Is.cons ha (Is.cons ha (Is.nil ha) rfl) rfl) rfl) rfl) rfl, HS0.sel [0, 1, 2] rfl, H⟩) (fun kp219 a w222 hI Qp219 hNp219 hOp219 => ?_)
    obtain ⟨l220, i_221, ha, HS223, HAp219⟩ := hI
    cases kp219 with
    | zero => cases (show (none : Option _) = some _ from HAp219)
    | succ kp219 =>
      have H := (slices_swapRangeCmpFunc_int_cbuild_Limited_1.l1.eq_2 ..).symm.trans HAp219
      refine wpLF_app ?_ ha
      refine L_seq ?_
      refine L_seq ?_
      refine L_region ?_
      refine F_val rfl rfl rfl (O_move rfl rfl) ?_
      refine F_val rfl rfl rfl (O_move rfl rfl) ?_
      refine F_val rfl rfl rfl (O_lt rfl rfl rfl) ?_
      refine F_nil ?_
      refine L_condP rfl (fun c224 => ?_) (fun c224 => ?_)
      · have H := of_pos H c224
        refine L_skip ?_
        refine L_seq ?_
        refine L_blk (fun Q225 hN225 hX225 hO225 => ?_)
        refine L_held2 23 1 [23] [21, 23] mix rfl (fun w242 hw243 => ?_)
        have HS244 := HS223.keep hw243
        have HR245 : Hp (HS244.ft [0]) w242 w242 [.own A_data_0 c_data_0 (rowC (Eint .i64) l220) 3 (Eint .i64).sz, .rd (some ⟨g_cmp_4_c0, 0, none⟩) [.slice A_cmp_4_c0_v cmp_4_c0_v.length c_cmp_4_c0_v], .rd A_cmp_4_c0_v (rowC (Eint .i64) cmp_4_c0_v)] := HS244.give [0] rfl (Lent.rd HS244 (Lent.rd HS244 (Lent.nil) (i := 2) rfl (HS244.cells_rd (i := 2) rfl).self) (i := 1) rfl (HS244.cells_rd (i := 1) rfl).self)
        refine ⟨fun w => Hp (HS244.ft [0]) w242 w [.own A_data_0 c_data_0 (rowC (Eint .i64) l220) 3 (Eint .i64).sz, .rd (some ⟨g_cmp_4_c0, 0, none⟩) [.slice A_cmp_4_c0_v cmp_4_c0_v.length c_cmp_4_c0_v], .rd A_cmp_4_c0_v (rowC (Eint .i64) cmp_4_c0_v)], HS244.turns [0], ?_⟩
        refine H2_fval (i := 0) rfl (by kernel_rfl) (by kernel_rfl) (by kernel_rfl) (by kernel_rfl) (by kernel_rfl) rfl rfl rfl (SS_0 (by kernel_rfl) (HR245.sel [0, 1, 2] rfl)) (fun wq => O_move rfl rfl) ?_
        refine H2_fval (i := 1) rfl (by kernel_rfl) (by kernel_rfl) (by kernel_rfl) (by kernel_rfl) (by kernel_rfl) rfl rfl rfl (SS_0 (by kernel_rfl) (HR245.sel [0, 1, 2] rfl)) (fun wq => O_move rfl rfl) ?_
        refine H2_fval (i := 2) rfl (by kernel_rfl) (by kernel_rfl) (by kernel_rfl) (by kernel_rfl) (by kernel_rfl) rfl rfl rfl (SS_0 (by kernel_rfl) (HR245.sel [0, 1, 2] rfl)) (fun wq => O_move rfl rfl) ?_
        refine H2_fval (i := 3) rfl (by kernel_rfl) (by kernel_rfl) (by kernel_rfl) (by kernel_rfl) (by kernel_rfl) rfl rfl rfl (SS_0 (by kernel_rfl) (HR245.sel [0, 1, 2] rfl)) (fun wq => O_add rfl rfl rfl) ?_
        refine H2_fval (i := 4) rfl (by kernel_rfl) (by kernel_rfl) (by kernel_rfl) (by kernel_rfl) (by kernel_rfl) rfl rfl rfl (SS_0 (by kernel_rfl) (HR245.sel [0, 1, 2] rfl)) (fun wq => O_move rfl rfl) ?_
        refine H2_fval (i := 5) rfl (by kernel_rfl) (by kernel_rfl) (by kernel_rfl) (by kernel_rfl) (by kernel_rfl) rfl rfl rfl (SS_0 (by kernel_rfl) (HR245.sel [0, 1, 2] rfl)) (fun wq => O_move rfl rfl) ?_
        refine H2_fval (i := 6) rfl (by kernel_rfl) (by kernel_rfl) (by kernel_rfl) (by kernel_rfl) (by kernel_rfl) rfl rfl rfl (SS_0 (by kernel_rfl) (HR245.sel [0, 1, 2] rfl)) (fun wq => O_move rfl rfl) ?_
        refine H2_fval (i := 7) rfl (by kernel_rfl) (by kernel_rfl) (by kernel_rfl) (by kernel_rfl) (by kernel_rfl) rfl rfl rfl (SS_0 (by kernel_rfl) (HR245.sel [0, 1, 2] rfl)) (fun wq => O_add rfl rfl rfl) ?_
        refine H2_fval (i := 8) rfl (by kernel_rfl) (by kernel_rfl) (by kernel_rfl) (by kernel_rfl) (by kernel_rfl) rfl rfl rfl (SS_0 (by kernel_rfl) (HR245.sel [0, 1, 2] rfl)) (fun wq => O_move rfl rfl) ?_
        refine H2_fval (i := 9) rfl (by kernel_rfl) (by kernel_rfl) (by kernel_rfl) (by kernel_rfl) (by kernel_rfl) rfl rfl rfl (SS_0 (by kernel_rfl) (HR245.sel [0, 1, 2] rfl)) (fun wq => O_move rfl rfl) ?_
        refine H2_fval (i := 10) rfl (by kernel_rfl) (by kernel_rfl) (by kernel_rfl) (by kernel_rfl) (by kernel_rfl) rfl rfl rfl (SS_0 (by kernel_rfl) (HR245.sel [0, 1, 2] rfl)) (fun wq => O_move rfl rfl) ?_
        refine H2_fval (i := 11) rfl (by kernel_rfl) (by kernel_rfl) (by kernel_rfl) (by kernel_rfl) (by kernel_rfl) rfl rfl rfl (SS_0 (by kernel_rfl) (HR245.sel [0, 1, 2] rfl)) (fun wq => O_add rfl rfl rfl) ?_
        obtain ⟨⟨g246, g247⟩, H⟩ := of_gd H
        refine H2_fval (i := 12) rfl (by kernel_rfl) (by kernel_rfl) (by kernel_rfl) (by kernel_rfl) (by kernel_rfl) rfl rfl rfl (SS_0 (by kernel_rfl) (HR245.sel [0, 1, 2] rfl)) (fun wq => O_idx rfl rfl rfl Try.underlying22 size3 g246 g247 (Cells.isA (HR245.cells_own (i := 0) rfl) (rowC_ne (E := (Eint .i64)) g246 g247 (by decide)))) ?_
        refine H2_val (i := 13) [20, 21, 22, 23] rfl (by kernel_rfl) (by kernel_rfl) (by kernel_rfl) (by kernel_rfl) (by kernel_rfl) (by kernel_rfl) (by kernel_rfl) (by kernel_rfl) rfl rfl rfl (HR245.sel [0, 1, 2] rfl) (fun wq hq => O_loadC rfl rfl flat3 (hq.cells_own (i := 0) rfl) (int_cell g246 g247)) ?_
        refine H2_fval (i := 14) rfl (by kernel_rfl) (by kernel_rfl) (by kernel_rfl) (by kernel_rfl) (by kernel_rfl) rfl rfl rfl (SS_0 (by kernel_rfl) (HR245.sel [0, 1, 2] rfl)) (fun wq => O_move rfl rfl) ?_
        refine H2_fval (i := 15) rfl (by kernel_rfl) (by kernel_rfl) (by kernel_rfl) (by kernel_rfl) (by kernel_rfl) rfl rfl rfl (SS_0 (by kernel_rfl) (HR245.sel [0, 1, 2] rfl)) (fun wq => O_move rfl rfl) ?_
        refine H2_fval (i := 16) rfl (by kernel_rfl) (by kernel_rfl) (by kernel_rfl) (by kernel_rfl) (by kernel_rfl) rfl rfl rfl (SS_0 (by kernel_rfl) (HR245.sel [0, 1, 2] rfl)) (fun wq => O_move rfl rfl) ?_
        refine H2_fval (i := 17) rfl (by kernel_rfl) (by kernel_rfl) (by kernel_rfl) (by kernel_rfl) (by kernel_rfl) rfl rfl rfl (SS_0 (by kernel_rfl) (HR245.sel [0, 1, 2] rfl)) (fun wq => O_add rfl rfl rfl) ?_
        obtain ⟨⟨g248, g249⟩, H⟩ := of_gd H
        refine H2_fval (i := 18) rfl (by kernel_rfl) (by kernel_rfl) (by kernel_rfl) (by kernel_rfl) (by kernel_rfl) rfl rfl rfl (SS_0 (by kernel_rfl) (HR245.sel [0, 1, 2] rfl)) (fun wq => O_idx rfl rfl rfl Try.underlying22 size3 g248 g249 (Cells.isA (HR245.cells_own (i := 0) rfl) (rowC_ne (E := (Eint .i64)) g248 g249 (by decide)))) ?_
        refine H2_val (i := 19) [20, 21, 22, 23] rfl (by kernel_rfl) (by kernel_rfl) (by kernel_rfl) (by kernel_rfl) (by kernel_rfl) (by kernel_rfl) (by kernel_rfl) (by kernel_rfl) rfl rfl rfl (HR245.sel [0, 1, 2] rfl) (fun wq hq => O_loadC rfl rfl flat3 (hq.cells_own (i := 0) rfl) (int_cell g248 g249)) ?_
        refine H2_fval (i := 20) rfl (by kernel_rfl) (by kernel_rfl) (by kernel_rfl) (by kernel_rfl) (by kernel_rfl) rfl rfl rfl (SS_0 (by kernel_rfl) (HR245.sel [0, 1, 2] rfl)) (fun wq => O_idx rfl rfl rfl Try.underlying22 size3 g248 g249 (Cells.isA (HR245.cells_own (i := 0) rfl) (rowC_ne (E := (Eint .i64)) g248 g249 (by decide)))) ?_
        refine H2_one (i := 21) rfl (by kernel_rfl) (by kernel_rfl) ?_
        obtain ⟨l252, h253, H⟩ := of_bnd H
        refine F_setE (E := (Eint .i64)) (i := 0) (a := rd l220 (IntKind.i64.wrap (b_2 + i_221))) (q := IntKind.i64.wrap (a_1 + i_221)) rfl rfl rfl rfl rfl rfl size3 HR245 rfl (by decide) g248 g249 h253 (fun w250 HS251 => ?_)
        have e254 : l220.length = l252.length := by rw [← h253, List.length_set]
        refine F_know (i := 0) rfl (congrArg (fun n => Value.slice A_data_0 n c_data_0) e254) ?_
        refine F_know (i := 16) rfl (congrArg (fun n => Value.slice A_data_0 n c_data_0) e254) ?_
        refine F_know (i := 20) rfl (congrArg (fun n => Value.slice A_data_0 n c_data_0) e254) ?_
        refine F_know (i := 24) rfl (congrArg (fun n => Value.slice A_data_0 n c_data_0) e254) ?_
        refine F_know (i := 30) rfl (congrArg (fun n => Value.slice A_data_0 n c_data_0) e254) ?_
        have HS251 : Hp (HS244.ft [0]) w242 w250 [.own A_data_0 c_data_0 (rowC (Eint .i64) l252) 3 (Eint .i64).sz, .rd (some ⟨g_cmp_4_c0, 0, none⟩) [.slice A_cmp_4_c0_v cmp_4_c0_v.length c_cmp_4_c0_v], .rd A_cmp_4_c0_v (rowC (Eint .i64) cmp_4_c0_v)] := HS251
        refine H2_next (SS_1 (by kernel_rfl) HS251.chg) ?_
        obtain ⟨⟨g255, g256⟩, H⟩ := of_gd H
        refine H2_fval (i := 22) rfl (by kernel_rfl) (by kernel_rfl) (by kernel_rfl) (by kernel_rfl) (by kernel_rfl) rfl rfl rfl (SS_1 (by kernel_rfl) HS251.chg) (fun wq => O_idx rfl rfl rfl Try.underlying22 size3 g255 g256 (Cells.isA (HS251.cells_own (i := 0) rfl) (rowC_ne (E := (Eint .i64)) g255 g256 (by decide)))) ?_
        refine H2_end (by kernel_rfl) ?_
        have HS257 : Hp S0 w0 w250 [.own A_data_0 c_data_0 (rowC (Eint .i64) l252) 3 (Eint .i64).sz, .rd (some ⟨g_cmp_4_c0, 0, none⟩) [.slice A_cmp_4_c0_v cmp_4_c0_v.length c_cmp_4_c0_v], .rd A_cmp_4_c0_v (rowC (Eint .i64) cmp_4_c0_v)] := (HS244.back [0] (HS251.sel [0] rfl) rfl).sel [3, 1, 2] rfl
        refine T_one (i := 23) rfl (by kernel_rfl) ?_
        obtain ⟨l260, h261, H⟩ := of_bnd H
        refine F_setE (E := (Eint .i64)) (i := 0) (a := rd l220 (IntKind.i64.wrap (a_1 + i_221))) (q := IntKind.i64.wrap (b_2 + i_221)) rfl rfl rfl rfl rfl rfl size3 HS257 rfl (by decide) g255 g256 h261 (fun w258 HS259 => ?_)
        have e262 : l252.length = l260.length := by rw [← h261, List.length_set]
        refine F_know (i := 0) rfl (congrArg (fun n => Value.slice A_data_0 n c_data_0) e262) ?_
        refine F_know (i := 16) rfl (congrArg (fun n => Value.slice A_data_0 n c_data_0) e262) ?_
        refine F_know (i := 20) rfl (congrArg (fun n => Value.slice A_data_0 n c_data_0) e262) ?_
        refine F_know (i := 24) rfl (congrArg (fun n => Value.slice A_data_0 n c_data_0) e262) ?_
        refine F_know (i := 30) rfl (congrArg (fun n => Value.slice A_data_0 n c_data_0) e262) ?_
        have HS259 : Hp S0 w0 w258 [.own A_data_0 c_data_0 (rowC (Eint .i64) l260) 3 (Eint .i64).sz, .rd (some ⟨g_cmp_4_c0, 0, none⟩) [.slice A_cmp_4_c0_v cmp_4_c0_v.length c_cmp_4_c0_v], .rd A_cmp_4_c0_v (rowC (Eint .i64) cmp_4_c0_v)] := HS259
        refine T_next ?_
        refine T_done (by kernel_rfl) ?_
        refine L_endB hN225 ?_
        refine L_region ?_
        refine F_val rfl rfl rfl (O_move rfl rfl) ?_
        refine F_val rfl rfl rfl (O_add rfl rfl rfl) ?_
        obtain ⟨x263, h264, H⟩ := of_bnd H
        refine F_val rfl rfl rfl (O_assign' rfl rfl (congrArg (Value.int .i64) h264)) ?_
        refine F_nil ?_
        refine L_nil (fun a ha => hNp219 _ a _ (Nat.lt_succ_self _) ⟨_, _, Is.cons ha (Is.cons ha (Is.cons ha (Is.cons ha (Is.cons ha (Is.nil ha) rfl) rfl) rfl) rfl) rfl, HS259.sel [0, 1, 2] rfl, H⟩)
      · have H := of_neg H c224
        refine L_exitB (fun a w h => hOp219 (.exit 0) a w rfl (hXb134 a w h)) ?_
        refine L_nil (fun a ha => hNj1 a _ ⟨_, (Option.some.inj H).symm, Is.nil ha, HS223.sel [0, 1, 2] rfl⟩)
  · obtain ⟨l133, ej, ha, HS266⟩ := hR
    obtain rfl := ej.symm
    refine wpLF_app ?_ ha
    obtain ⟨g267, H⟩ := of_gd H
    refine L_nil (fun a ha => (post_end0 ha rfl ?_))
    obtain rfl := Option.some.inj H
    exact ⟨rfl, HS266.sel [0] rfl, g267⟩

/-! function 88: slices.rotateCmpFunc[int] -/
theorem slices_rotateCmpFunc_int_cbuild_Limited_1.calls {S0 : Nat → Prop} {w0 : World} {A_data_0 : Option Addr} {c_data_0 : Nat} {g_cmp_4_c0 : Nat} {A_cmp_4_c0_v : Option Addr} {c_cmp_4_c0_v : Nat} {l_data_0 : List Int} {a_1 : Int} {m_2 : Int} {b_3 : Int} {cmp_4_c0_v : List Int} {r : List Int} (HS0 : Hp S0 w0 w0 [.own A_data_0 c_data_0 (rowC (Eint .i64) l_data_0) 3 (Eint .i64).sz, .rd (some ⟨g_cmp_4_c0, 0, none⟩) [.slice A_cmp_4_c0_v cmp_4_c0_v.length c_cmp_4_c0_v], .rd A_cmp_4_c0_v (rowC (Eint .i64) cmp_4_c0_v)]) (hc_r_cmp_4_c0_v : cmp_4_c0_v.length ≤ c_cmp_4_c0_v) (h : slices_rotateCmpFunc_int_cbuild_Limited_1.f l_data_0 a_1 m_2 b_3 cmp_4_c0_v = some r) :
    Calls Try.prog 88 ([.slice A_data_0 l_data_0.length c_data_0, .int .i64 a_1, .int .i64 m_2, .int .i64 b_3, .func (.func 48) #[] #[.pointer (some ⟨g_cmp_4_c0, 0, none⟩)]] : List Value).toArray w0 (fun e w => e = .returned (.tuple #[]) ∧ Hp S0 w0 w [.own A_data_0 c_data_0 (rowC (Eint .i64) r) 3 (Eint .i64).sz] ∧ r.length = l_data_0.length) := by
  have H : ((bnd (IntKind.i64.wrap (m_2 - a_1)) fun x1 => bnd (IntKind.i64.wrap (b_3 - m_2)) fun x3 => (slices_rotateCmpFunc_int_cbuild_Limited_1.l1 FU l_data_0 x1 x3 m_2 cmp_4_c0_v).bind fun (l178, i_179) => (slices_swapRangeCmpFunc_int_cbuild_Limited_1.f l178 (IntKind.i64.wrap (m_2 - i_179)) m_2 i_179 cmp_4_c0_v).bind fun z358 => gd (z358.length = l_data_0.length) (some z358)) : Option (List Int)) = some r := h
  refine calls_start Try.func88 rfl rfl ?_
  refine L_seq ?_
  refine L_region ?_
  refine F_val rfl rfl rfl (O_move rfl rfl) ?_
  refine F_val rfl rfl rfl (O_move rfl rfl) ?_
  refine F_val rfl rfl rfl (O_sub rfl rfl rfl) ?_
  obtain ⟨x1, h2, H⟩ := of_bnd H
  refine F_val rfl rfl rfl (O_assign' rfl rfl (congrArg (Value.int .i64) h2)) ?_
  refine F_nil ?_
  refine L_seq ?_
  refine L_region ?_
  refine F_val rfl rfl rfl (O_move rfl rfl) ?_
  refine F_val rfl rfl rfl (O_move rfl rfl) ?_
  refine F_val rfl rfl rfl (O_sub rfl rfl rfl) ?_
  obtain ⟨x3, h4, H⟩ := of_bnd H
  refine F_val rfl rfl rfl (O_assign' rfl rfl (congrArg (Value.int .i64) h4)) ?_
  refine F_nil ?_
  refine L_seq ?_
  obtain ⟨yj5, Hyj5, H⟩ := of_bind H
  refine L_join (fun a w => ∃ (l178 : List Int), ∃ (i_179 : Int), yj5 = (l178, i_179) ∧ Is Try.f88.ntmps a [(0, .slice A_data_0 l178.length c_data_0), (2, .int .i64 m_2), (4, .func (.func 48) #[] #[.pointer (some ⟨g_cmp_4_c0, 0, none⟩)]), (10, .int .i64 i_179)] ∧ Hp S0 w0 w [.own A_data_0 c_data_0 (rowC (Eint .i64) l178) 3 (Eint .i64).sz, .rd (some ⟨g_cmp_4_c0, 0, none⟩) [.slice A_cmp_4_c0_v cmp_4_c0_v.length c_cmp_4_c0_v], .rd A_cmp_4_c0_v (rowC (Eint .i64) cmp_4_c0_v)]) (fun Qj5 hNj5 hOj5 => ?_) (fun a w hR => ?_)
  · skip
    have H := Hyj5
    refine L_blk (fun Qb180 hNb180 hXb180 hOb180 => ?_)
    refine L_lp (fun k a w => ∃ (l293 : List Int), ∃ (i_294 : Int), ∃ (j_295 : Int), Is Try.f88.ntmps a [(0, .slice A_data_0 l293.length c_data_0), (2, .int .i64 m_2), (4, .func (.func 48) #[] #[.pointer (some ⟨g_cmp_4_c0, 0, none⟩)]), (10, .int .i64 i_294), (11, .int .i64 j_295)] ∧ Hp S0 w0 w [.own A_data_0 c_data_0 (rowC (Eint .i64) l293) 3 (Eint .i64).sz, .rd (some ⟨g_cmp_4_c0, 0, none⟩) [.slice A_cmp_4_c0_v cmp_4_c0_v.length c_cmp_4_c0_v], .rd A_cmp_4_c0_v (rowC (Eint .i64) cmp_4_c0_v)] ∧ slices_rotateCmpFunc_int_cbuild_Limited_1.l1 k l293 i_294 j_295 m_2 cmp_4_c0_v = some yj5) FU (fun a ha => ⟨_, _, _, Is.cons ha (Is.cons ha (Is.cons ha (Is.cons ha (Is.cons ha (Is.nil ha) rfl) rfl) rfl) rfl) rfl, HS0.sel [0, 1, 2] rfl, H⟩) (fun kp292 a w296 hI Qp292 hNp292 hOp292 => ?_)
    obtain ⟨l293, i_294, j_295, ha, HS297, HAp292⟩ := hI
    cases kp292 with
    | zero => cases (show (none : Option _) = some _ from HAp292)
    | succ kp292 =>
      have H := (slices_rotateCmpFunc_int_cbuild_Limited_1.l1.eq_2 ..).symm.trans HAp292
      refine wpLF_app ?_ ha
      refine L_seq ?_
      refine L_seq ?_
      refine L_region ?_
      refine F_val rfl rfl rfl (O_move rfl rfl) ?_
      refine F_val rfl rfl rfl (O_move rfl rfl) ?_
      refine F_val rfl rfl rfl (O_ne rfl rfl rfl) ?_
      refine F_nil ?_
      refine L_condP rfl (fun c298 => ?_) (fun c298 => ?_)
      · have H := of_pos H c298
        refine L_skip ?_
        refine L_blk (fun Q299 hN299 hX299 hO299 => ?_)
        refine L_seq ?_
        refine L_region ?_
        refine F_val rfl rfl rfl (O_move rfl rfl) ?_
        refine F_val rfl rfl rfl (O_move rfl rfl) ?_
        refine F_val rfl rfl rfl (O_gt rfl rfl rfl) ?_
        refine F_nil ?_
        obtain ⟨yj300, Hyj300, H⟩ := of_bind H
        refine L_join (fun a w => ∃ (l324 : List Int), ∃ (i_325 : Int), ∃ (j_326 : Int), yj300 = (l324, i_325, j_326) ∧ Is Try.f88.ntmps a [(0, .slice A_data_0 l324.length c_data_0), (2, .int .i64 m_2), (4, .func (.func 48) #[] #[.pointer (some ⟨g_cmp_4_c0, 0, none⟩)]), (10, .int .i64 i_325), (11, .int .i64 j_326)] ∧ Hp S0 w0 w [.own A_data_0 c_data_0 (rowC (Eint .i64) l324) 3 (Eint .i64).sz, .rd (some ⟨g_cmp_4_c0, 0, none⟩) [.slice A_cmp_4_c0_v cmp_4_c0_v.length c_cmp_4_c0_v], .rd A_cmp_4_c0_v (rowC (Eint .i64) cmp_4_c0_v)]) (fun Qj300 hNj300 hOj300 => ?_) (fun a w hR => ?_)
        · skip
          have H := Hyj300
          refine L_condP rfl (fun c327 => ?_) (fun c327 => ?_)
          · have H := of_pos H c327
            refine L_seq ?_
            refine L_region ?_
            refine F_val rfl rfl rfl (O_move rfl rfl) ?_
            refine F_val rfl rfl rfl (O_move rfl rfl) ?_
            refine F_val rfl rfl rfl (O_move rfl rfl) ?_
            refine F_val rfl rfl rfl (O_sub rfl rfl rfl) ?_
            refine F_val rfl rfl rfl (O_move rfl rfl) ?_
            refine F_val rfl rfl rfl (O_move rfl rfl) ?_
            refine F_val rfl rfl rfl (O_move rfl rfl) ?_
            obtain ⟨z332, h331, H⟩ := of_bind H
            refine F_call (xs := [.tmp 24, .tmp 27, .tmp 28, .tmp 29, .tmp 30]) rfl rfl rfl rfl Try.func89 nm89 rfl rfl ((slices_swapRangeCmpFunc_int_cbuild_Limited_1.calls (HS297.give [0] rfl (Lent.rd HS297 (Lent.rd HS297 (Lent.nil) (i := 2) rfl ((HS297.cells_rd (i := 2) rfl).self)) (i := 1) rfl (HS297.cells_rd (i := 1) rfl).self)) hc_r_cmp_4_c0_v h331).mono (fun e w hc => ?_))
            obtain ⟨rfl, HSo, hl335⟩ := hc
            refine ⟨.tuple #[], rfl, ?_⟩
            have HS334 : Hp S0 w0 w [.own A_data_0 c_data_0 (rowC (Eint .i64) z332) 3 (Eint .i64).sz, .rd (some ⟨g_cmp_4_c0, 0, none⟩) [.slice A_cmp_4_c0_v cmp_4_c0_v.length c_cmp_4_c0_v], .rd A_cmp_4_c0_v (rowC (Eint .i64) cmp_4_c0_v)] := (HS297.back [0] HSo rfl).sel [3, 1, 2] rfl
            have e336 : l293.length = z332.length := hl335.symm
            refine F_know (i := 0) rfl (congrArg (fun n => Value.slice A_data_0 n c_data_0) e336) ?_
            refine F_nil ?_
            refine L_region ?_
            refine F_val rfl rfl rfl (O_move rfl rfl) ?_
            refine F_val rfl rfl rfl (O_move rfl rfl) ?_
            refine F_val rfl rfl rfl (O_sub rfl rfl rfl) ?_
            obtain ⟨x337, h338, H⟩ := of_bnd H
            refine F_val rfl rfl rfl (O_assign' rfl rfl (congrArg (Value.int .i64) h338)) ?_
            refine F_nil ?_
            refine L_nil (fun a ha => hNj300 a _ ⟨_, _, _, (Option.some.inj H).symm, Is.cons ha (Is.cons ha (Is.cons ha (Is.cons ha (Is.cons ha (Is.nil ha) rfl) rfl) rfl) rfl) rfl, HS334.sel [0, 1, 2] rfl⟩)
          · have H := of_neg H c327
            refine L_seq ?_
            refine L_region ?_
            refine F_val rfl rfl rfl (O_move rfl rfl) ?_
            refine F_val rfl rfl rfl (O_move rfl rfl) ?_
            refine F_val rfl rfl rfl (O_move rfl rfl) ?_
            refine F_val rfl rfl rfl (O_sub rfl rfl rfl) ?_
            refine F_val rfl rfl rfl (O_move rfl rfl) ?_
            refine F_val rfl rfl rfl (O_move rfl rfl) ?_
            refine F_val rfl rfl rfl (O_add rfl rfl rfl) ?_
            refine F_val rfl rfl rfl (O_move rfl rfl) ?_
            refine F_val rfl rfl rfl (O_sub rfl rfl rfl) ?_
            refine F_val rfl rfl rfl (O_move rfl rfl) ?_
            refine F_val rfl rfl rfl (O_move rfl rfl) ?_
            obtain ⟨z343, h342, H⟩ := of_bind H
            refine F_call (xs := [.tmp 35, .tmp 38, .tmp 43, .tmp 44, .tmp 45]) rfl rfl rfl rfl Try.func89 nm89 rfl rfl ((slices_swapRangeCmpFunc_int_cbuild_Limited_1.calls (HS297.give [0] rfl (Lent.rd HS297 (Lent.rd HS297 (Lent.nil) (i := 2) rfl ((HS297.cells_rd (i := 2) rfl).self)) (i := 1) rfl (HS297.cells_rd (i := 1) rfl).self)) hc_r_cmp_4_c0_v h342).mono (fun e w hc => ?_))
            obtain ⟨rfl, HSo, hl346⟩ := hc
            refine ⟨.tuple #[], rfl, ?_⟩
            have HS345 : Hp S0 w0 w [.own A_data_0 c_data_0 (rowC (Eint .i64) z343) 3 (Eint .i64).sz, .rd (some ⟨g_cmp_4_c0, 0, none⟩) [.slice A_cmp_4_c0_v cmp_4_c0_v.length c_cmp_4_c0_v], .rd A_cmp_4_c0_v (rowC (Eint .i64) cmp_4_c0_v)] := (HS297.back [0] HSo rfl).sel [3, 1, 2] rfl
            have e347 : l293.length = z343.length := hl346.symm
            refine F_know (i := 0) rfl (congrArg (fun n => Value.slice A_data_0 n c_data_0) e347) ?_
            refine F_nil ?_
            refine L_region ?_
            refine F_val rfl rfl rfl (O_move rfl rfl) ?_
            refine F_val rfl rfl rfl (O_move rfl rfl) ?_
            refine F_val rfl rfl rfl (O_sub rfl rfl rfl) ?_
            obtain ⟨x348, h349, H⟩ := of_bnd H
            refine F_val rfl rfl rfl (O_assign' rfl rfl (congrArg (Value.int .i64) h349)) ?_
            refine F_nil ?_
            refine L_nil (fun a ha => hNj300 a _ ⟨_, _, _, (Option.some.inj H).symm, Is.cons ha (Is.cons ha (Is.cons ha (Is.cons ha (Is.cons ha (Is.nil ha) rfl) rfl) rfl) rfl) rfl, HS345.sel [0, 1, 2] rfl⟩)
        · obtain ⟨l324, i_325, j_326, rfl, ha, HS351⟩ := hR
          refine wpLF_app ?_ ha
          refine L_endB hN299 ?_
          refine L_nil (fun a ha => hNp292 _ a _ (Nat.lt_succ_self _) ⟨_, _, _, Is.cons ha (Is.cons ha (Is.cons ha (Is.cons ha (Is.cons ha (Is.nil ha) rfl) rfl) rfl) rfl) rfl, HS351.sel [0, 1, 2] rfl, H⟩)
      · have H := of_neg H c298
        refine L_exitB (fun a w h => hOp292 (.exit 0) a w rfl (hXb180 a w h)) ?_
        refine L_nil (fun a ha => hNj5 a _ ⟨_, _, (Option.some.inj H).symm, Is.cons ha (Is.cons ha (Is.cons ha (Is.cons ha (Is.nil ha) rfl) rfl) rfl) rfl, HS297.sel [0, 1, 2] rfl⟩)
  · obtain ⟨l178, i_179, rfl, ha, HS353⟩ := hR
    refine wpLF_app ?_ ha
    refine L_region ?_
    refine F_val rfl rfl rfl (O_move rfl rfl) ?_
    refine F_val rfl rfl rfl (O_move rfl rfl) ?_
    refine F_val rfl rfl rfl (O_move rfl rfl) ?_
    refine F_val rfl rfl rfl (O_sub rfl rfl rfl) ?_
    refine F_val rfl rfl rfl (O_move rfl rfl) ?_
    refine F_val rfl rfl rfl (O_move rfl rfl) ?_
    refine F_val rfl rfl rfl (O_move rfl rfl) ?_
    obtain ⟨z358, h357, H⟩ := of_bind H
    refine F_call (xs := [.tmp 50, .tmp 53, .tmp 54, .tmp 55, .tmp 56]) rfl rfl rfl rfl Try.func89 nm89 rfl rfl ((slices_swapRangeCmpFunc_int_cbuild_Limited_1.calls (HS353.give [0] rfl (Lent.rd HS353 (Lent.rd HS353 (Lent.nil) (i := 2) rfl ((HS353.cells_rd (i := 2) rfl).self)) (i := 1) rfl (HS353.cells_rd (i := 1) rfl).self)) hc_r_cmp_4_c0_v h357).mono (fun e w hc => ?_))
    obtain ⟨rfl, HSo, hl361⟩ := hc
    refine ⟨.tuple #[], rfl, ?_⟩
    have HS360 : Hp S0 w0 w [.own A_data_0 c_data_0 (rowC (Eint .i64) z358) 3 (Eint .i64).sz, .rd (some ⟨g_cmp_4_c0, 0, none⟩) [.slice A_cmp_4_c0_v cmp_4_c0_v.length c_cmp_4_c0_v], .rd A_cmp_4_c0_v (rowC (Eint .i64) cmp_4_c0_v)] := (HS353.back [0] HSo rfl).sel [3, 1, 2] rfl
    have e362 : l178.length = z358.length := hl361.symm
    refine F_know (i := 0) rfl (congrArg (fun n => Value.slice A_data_0 n c_data_0) e362) ?_
    refine F_nil ?_
    obtain ⟨g363, H⟩ := of_gd H
    refine L_nil (fun a ha => (post_end0 ha rfl ?_))
    obtain rfl := Option.some.inj H
    exact ⟨rfl, HS360.sel [0] rfl, g363⟩

/-! function 82: slices.symMergeCmpFunc[int] -/
theorem slices_symMergeCmpFunc_int_cbuild_Limited_1.calls (kf : Nat) : ∀ {S0 : Nat → Prop} {w0 : World} {A_data_0 : Option Addr} {c_data_0 : Nat} {g_cmp_4_c0 : Nat} {A_cmp_4_c0_v : Option Addr} {c_cmp_4_c0_v : Nat} {l_data_0 : List Int} {a_1 : Int} {m_2 : Int} {b_3 : Int} {cmp_4_c0_v : List Int} {r : List Int} (HS0 : Hp S0 w0 w0 [.own A_data_0 c_data_0 (rowC (Eint .i64) l_data_0) 3 (Eint .i64).sz, .rd (some ⟨g_cmp_4_c0, 0, none⟩) [.slice A_cmp_4_c0_v cmp_4_c0_v.length c_cmp_4_c0_v], .rd A_cmp_4_c0_v (rowC (Eint .i64) cmp_4_c0_v)]) (hc_r_cmp_4_c0_v : cmp_4_c0_v.length ≤ c_cmp_4_c0_v) (h : slices_symMergeCmpFunc_int_cbuild_Limited_1.f kf l_data_0 a_1 m_2 b_3 cmp_4_c0_v = some r),
    Calls Try.prog 82 ([.slice A_data_0 l_data_0.length c_data_0, .int .i64 a_1, .int .i64 m_2, .int .i64 b_3, .func (.func 48) #[] #[.pointer (some ⟨g_cmp_4_c0, 0, none⟩)]] : List Value).toArray w0 (fun e w => e = .returned (.tuple #[]) ∧ Hp S0 w0 w [.own A_data_0 c_data_0 (rowC (Eint .i64) r) 3 (Eint .i64).sz] ∧ r.length = l_data_0.length) := by
  induction kf with
  | zero => intro S0 w0 A_data_0 c_data_0 g_cmp_4_c0 A_cmp_4_c0_v c_cmp_4_c0_v l_data_0 a_1 m_2 b_3 cmp_4_c0_v r HS0 hc_r_cmp_4_c0_v h; cases (show (none : Option _) = some _ from h)
  | succ kf IH =>
    intro S0 w0 A_data_0 c_data_0 g_cmp_4_c0 A_cmp_4_c0_v c_cmp_4_c0_v l_data_0 a_1 m_2 b_3 cmp_4_c0_v r HS0 hc_r_cmp_4_c0_v h
    have H := (slices_symMergeCmpFunc_int_cbuild_Limited_1.f.eq_2 ..).symm.trans h
    refine calls_start Try.func82 rfl rfl ?_
    refine L_seq ?_
    refine L_seq ?_
    refine L_region ?_
    refine F_val rfl rfl rfl (O_move rfl rfl) ?_
    refine F_val rfl rfl rfl (O_move rfl rfl) ?_
    refine F_val rfl rfl rfl (O_sub rfl rfl rfl) ?_
    refine F_val rfl rfl rfl (O_eq rfl rfl rfl) ?_
    refine F_nil ?_
    refine L_condP rfl (fun c1 => ?_) (fun c1 => ?_)
    · have H := of_pos H c1
      refine L_seq ?_
      refine L_region ?_
      refine F_val rfl rfl rfl (O_move rfl rfl) ?_
      refine F_val rfl rfl rfl (O_assign rfl rfl) ?_
      refine F_nil ?_
      refine L_seq ?_
      refine L_region ?_
      refine F_val rfl rfl rfl (O_move rfl rfl) ?_
      refine F_val rfl rfl rfl (O_assign rfl rfl) ?_
      refine F_nil ?_
      refine L_seq ?_
      obtain ⟨yj2, Hyj2, H⟩ := of_bind H
      refine L_join (fun a w => ∃ (i_86 : Int), yj2 = i_86 ∧ Is Try.f82.ntmps a [(0, .slice A_data_0 l_data_0.length c_data_0), (1, .int .i64 a_1), (10, .int .i64 i_86)] ∧ Hp S0 w0 w [.own A_data_0 c_data_0 (rowC (Eint .i64) l_data_0) 3 (Eint .i64).sz, .rd (some ⟨g_cmp_4_c0, 0, none⟩) [.slice A_cmp_4_c0_v cmp_4_c0_v.length c_cmp_4_c0_v], .rd A_cmp_4_c0_v (rowC (Eint .i64) cmp_4_c0_v)]) (fun Qj2 hNj2 hOj2 => ?_) (fun a w hR => ?_)
      · skip
        have H := Hyj2
        refine L_blk (fun Qb87 hNb87 hXb87 hOb87 => ?_)
        refine L_lp (fun k a w => ∃ (i_141 : Int), ∃ (j_142 : Int), Is Try.f82.ntmps a [(0, .slice A_data_0 l_data_0.length c_data_0), (1, .int .i64 a_1), (4, .func (.func 48) #[] #[.pointer (some ⟨g_cmp_4_c0, 0, none⟩)]), (10, .int .i64 i_141), (11, .int .i64 j_142)] ∧ Hp S0 w0 w [.own A_data_0 c_data_0 (rowC (Eint .i64) l_data_0) 3 (Eint .i64).sz, .rd (some ⟨g_cmp_4_c0, 0, none⟩) [.slice A_cmp_4_c0_v cmp_4_c0_v.length c_cmp_4_c0_v], .rd A_cmp_4_c0_v (rowC (Eint .i64) cmp_4_c0_v)] ∧ slices_symMergeCmpFunc_int_cbuild_Limited_1.l1 k i_141 j_142 l_data_0 a_1 cmp_4_c0_v = some yj2) FU (fun a ha => ⟨_, _, Is.cons ha (Is.cons ha (Is.cons ha (Is.cons ha (Is.cons ha (Is.nil ha) rfl) rfl) rfl) rfl) rfl, HS0.sel [0, 1, 2] rfl, H⟩) (fun kp140 a w143 hI Qp140 hNp140 hOp140 => ?_)
        obtain ⟨i_141, j_142, ha, HS144, HAp140⟩ := hI
        cases kp140 with
        | zero => cases (show (none : Option _) = some _ from HAp140)
        | succ kp140 =>
          have H := (slices_symMergeCmpFunc_int_cbuild_Limited_1.l1.eq_2 ..).symm.trans HAp140
          refine wpLF_app ?_ ha
          refine L_seq ?_
          refine L_seq ?_
          refine L_region ?_
          refine F_val rfl rfl rfl (O_move rfl rfl) ?_
          refine F_val rfl rfl rfl (O_move rfl rfl) ?_
          refine F_val rfl rfl rfl (O_lt rfl rfl rfl) ?_
          refine F_nil ?_
          refine L_condP rfl (fun c145 => ?_) (fun c145 => ?_)
          · have H := of_pos H c145
            refine L_skip ?_
            refine L_blk (fun Q146 hN146 hX146 hO146 => ?_)
            refine L_seq ?_
            refine L_region ?_
            refine F_val rfl rfl rfl (O_move rfl rfl) ?_
            refine F_val rfl rfl rfl (O_move rfl rfl) ?_
            refine F_val rfl rfl rfl (O_add rfl rfl rfl) ?_
            refine F_val rfl rfl rfl (O_conv rfl rfl ⟨_, Try.underlying3⟩ Try.underlying43) ?_
            refine F_val rfl rfl rfl (O_shr rfl rfl rfl (by decide)) ?_
            refine F_val rfl rfl rfl (O_conv rfl rfl ⟨_, Try.underlying43⟩ Try.underlying3) ?_
            obtain ⟨x147, h148, H⟩ := of_bnd H
            refine F_val rfl rfl rfl (O_assign' rfl rfl (congrArg (Value.int .i64) h148)) ?_
            refine F_nil ?_
            refine L_seq ?_
            refine L_quiet mix (by kernel_rfl) ?_
            refine Q_val rfl rfl rfl (fun wq hq => O_move rfl rfl) ?_
            refine Q_val rfl rfl rfl (fun wq hq => O_move rfl rfl) ?_
            refine Q_val rfl rfl rfl (fun wq hq => O_move rfl rfl) ?_
            obtain ⟨⟨g149, g150⟩, H⟩ := of_gd H
            refine Q_val rfl rfl rfl (fun wq hq => O_idx rfl rfl rfl Try.underlying22 size3 g149 g150 (Cells.isA ((HS144.keep hq).cells_own (i := 0) rfl) (rowC_ne (E := (Eint .i64)) g149 g150 (by decide)))) ?_
            refine Q_val rfl rfl rfl (fun wq hq => O_loadC rfl rfl flat3 ((HS144.keep hq).cells_own (i := 0) rfl) (int_cell g149 g150)) ?_
            refine Q_val rfl rfl rfl (fun wq hq => O_move rfl rfl) ?_
            refine Q_val rfl rfl rfl (fun wq hq => O_move rfl rfl) ?_
            obtain ⟨⟨g151, g152⟩, H⟩ := of_gd H
            refine Q_val rfl rfl rfl (fun wq hq => O_idx rfl rfl rfl Try.underlying22 size3 g151 g152 (Cells.isA ((HS144.keep hq).cells_own (i := 0) rfl) (rowC_ne (E := (Eint .i64)) g151 g152 (by decide)))) ?_
            refine Q_val rfl rfl rfl (fun wq hq => O_loadC rfl rfl flat3 ((HS144.keep hq).cells_own (i := 0) rfl) (int_cell g151 g152)) ?_
            obtain ⟨z155, h154, H⟩ := of_bind H
            refine Q_callV (v := .int .i64 z155) (xs := [.tmp 44, .tmp 48]) (cv := [.pointer (some ⟨g_cmp_4_c0, 0, none⟩)]) rfl rfl rfl rfl rfl Try.func48 nm48 rfl rfl rfl (fun wq hq => (build_Limited_1.calls ((HS144.keep hq).give [] rfl (Lent.rd (HS144.keep hq) (Lent.rd (HS144.keep hq) (Lent.nil) (i := 2) rfl (((HS144.keep hq).cells_rd (i := 2) rfl).self)) (i := 1) rfl ((HS144.keep hq).cells_rd (i := 1) rfl).self)) hc_r_cmp_4_c0_v h154).mono (fun e w hc => ?_)) ?_
            · obtain ⟨rfl, h⟩ := hc
              exact ⟨rfl, hq.trans h.chg0⟩
            refine Q_val rfl rfl rfl (fun wq hq => O_lt rfl rfl rfl) ?_
            refine Q_nil (fun w156 hw157 => ?_)
            have HS158 := HS144.keep hw157
            obtain ⟨yj159, Hyj159, H⟩ := of_bind H
            refine L_join (fun a w => ∃ (i_163 : Int), ∃ (j_164 : Int), yj159 = (i_163, j_164) ∧ Is Try.f82.ntmps a [(0, .slice A_data_0 l_data_0.length c_data_0), (1, .int .i64 a_1), (4, .func (.func 48) #[] #[.pointer (some ⟨g_cmp_4_c0, 0, none⟩)]), (10, .int .i64 i_163), (11, .int .i64 j_164)] ∧ Hp S0 w0 w [.own A_data_0 c_data_0 (rowC (Eint .i64) l_data_0) 3 (Eint .i64).sz, .rd (some ⟨g_cmp_4_c0, 0, none⟩) [.slice A_cmp_4_c0_v cmp_4_c0_v.length c_cmp_4_c0_v], .rd A_cmp_4_c0_v (rowC (Eint .i64) cmp_4_c0_v)]) (fun Qj159 hNj159 hOj159 => ?_) (fun a w hR => ?_)
            · skip
              have H := Hyj159
              refine L_condP rfl (fun c165 => ?_) (fun c165 => ?_)
              · have H := of_pos H c165
                refine L_region ?_
                refine F_val rfl rfl rfl (O_move rfl rfl) ?_
                refine F_val rfl rfl rfl (O_add rfl rfl rfl) ?_
                obtain ⟨x166, h167, H⟩ := of_bnd H
                refine F_val rfl rfl rfl (O_assign' rfl rfl (congrArg (Value.int .i64) h167)) ?_
                refine F_nil ?_
                refine L_nil (fun a ha => hNj159 a _ ⟨_, _, (Option.some.inj H).symm, Is.cons ha (Is.cons ha (Is.cons ha (Is.cons ha (Is.cons ha (Is.nil ha) rfl) rfl) rfl) rfl) rfl, HS158.sel [0, 1, 2] rfl⟩)
              · have H := of_neg H c165
                refine L_region ?_
                refine F_val rfl rfl rfl (O_move rfl rfl) ?_
                refine F_val rfl rfl rfl (O_assign rfl rfl) ?_
                refine F_nil ?_
                refine L_nil (fun a ha => hNj159 a _ ⟨_, _, (Option.some.inj H).symm, Is.cons ha (Is.cons ha (Is.cons ha (Is.cons ha (Is.cons ha (Is.nil ha) rfl) rfl) rfl) rfl) rfl, HS158.sel [0, 1, 2] rfl⟩)
            · obtain ⟨i_163, j_164, rfl, ha, HS169⟩ := hR
              refine wpLF_app ?_ ha
              refine L_endB hN146 ?_
              refine L_nil (fun a ha => hNp140 _ a _ (Nat.lt_succ_self _) ⟨_, _, Is.cons ha (Is.cons ha (Is.cons ha (Is.cons ha (Is.cons ha (Is.nil ha) rfl) rfl) rfl) rfl) rfl, HS169.sel [0, 1, 2] rfl, H⟩)
          · have H := of_neg H c145
            refine L_exitB (fun a w h => hOp140 (.exit 0) a w rfl (hXb87 a w h)) ?_
            refine L_nil (fun a ha => hNj2 a _ ⟨_, (Option.some.inj H).symm, Is.cons ha (Is.cons ha (Is.cons ha (Is.nil ha) rfl) rfl) rfl, HS144.sel [0, 1, 2] rfl⟩)
      · obtain ⟨i_86, ej, ha, HS171⟩ := hR
        obtain rfl := ej.symm
        refine wpLF_app ?_ ha
        refine L_seq ?_
        refine L_seq ?_
        refine L_region ?_
        refine F_val rfl rfl rfl (O_move rfl rfl) ?_
        refine F_val rfl rfl rfl (O_assign rfl rfl) ?_
        refine F_nil ?_
        obtain ⟨yj172, Hyj172, H⟩ := of_bind H
        refine L_join (fun a w => ∃ (l304 : List Int), yj172 = l304 ∧ Is Try.f82.ntmps a [] ∧ Hp S0 w0 w [.own A_data_0 c_data_0 (rowC (Eint .i64) l304) 3 (Eint .i64).sz, .rd (some ⟨g_cmp_4_c0, 0, none⟩) [.slice A_cmp_4_c0_v cmp_4_c0_v.length c_cmp_4_c0_v], .rd A_cmp_4_c0_v (rowC (Eint .i64) cmp_4_c0_v)]) (fun Qj172 hNj172 hOj172 => ?_) (fun a w hR => ?_)
        · skip
          have H := Hyj172
          refine L_blk (fun Qb305 hNb305 hXb305 hOb305 => ?_)
          refine L_lp (fun k a w => ∃ (l391 : List Int), ∃ (k_392 : Int), Is Try.f82.ntmps a [(0, .slice A_data_0 l391.length c_data_0), (10, .int .i64 i_86), (13, .int .i64 k_392)] ∧ Hp S0 w0 w [.own A_data_0 c_data_0 (rowC (Eint .i64) l391) 3 (Eint .i64).sz, .rd (some ⟨g_cmp_4_c0, 0, none⟩) [.slice A_cmp_4_c0_v cmp_4_c0_v.length c_cmp_4_c0_v], .rd A_cmp_4_c0_v (rowC (Eint .i64) cmp_4_c0_v)] ∧ slices_symMergeCmpFunc_int_cbuild_Limited_1.l3 k l391 k_392 i_86 = some yj172) FU (fun a ha => ⟨_, _, Is.cons ha (Is.cons ha (Is.cons ha (Is.nil ha) rfl) rfl) rfl, HS171.sel [0, 1, 2] rfl, H⟩) (fun kp390 a w393 hI Qp390 hNp390 hOp390 => ?_)
          obtain ⟨l391, k_392, ha, HS394, HAp390⟩ := hI
          cases kp390 with
          | zero => cases (show (none : Option _) = some _ from HAp390)
          | succ kp390 =>
            have H := (slices_symMergeCmpFunc_int_cbuild_Limited_1.l3.eq_2 ..).symm.trans HAp390
            refine wpLF_app ?_ ha
            refine L_seq ?_
            refine L_seq ?_
            refine L_region ?_
            refine F_val rfl rfl rfl (O_move rfl rfl) ?_
            refine F_val rfl rfl rfl (O_move rfl rfl) ?_
            refine F_val rfl rfl rfl (O_sub rfl rfl rfl) ?_
            refine F_val rfl rfl rfl (O_lt rfl rfl rfl) ?_
            refine F_nil ?_
            refine L_condP rfl (fun c395 => ?_) (fun c395 => ?_)
            · have H := of_pos H c395
              refine L_skip ?_
              refine L_seq ?_
              refine L_blk (fun Q396 hN396 hX396 hO396 => ?_)
              refine L_held2 17 1 [17] [15, 17] mix rfl (fun w413 hw414 => ?_)
              have HS415 := HS394.keep hw414
              have HR416 : Hp (HS415.ft [0]) w413 w413 [.own A_data_0 c_data_0 (rowC (Eint .i64) l391) 3 (Eint .i64).sz, .rd (some ⟨g_cmp_4_c0, 0, none⟩) [.slice A_cmp_4_c0_v cmp_4_c0_v.length c_cmp_4_c0_v], .rd A_cmp_4_c0_v (rowC (Eint .i64) cmp_4_c0_v)] := HS415.give [0] rfl (Lent.rd HS415 (Lent.rd HS415 (Lent.nil) (i := 2) rfl (HS415.cells_rd (i := 2) rfl).self) (i := 1) rfl (HS415.cells_rd (i := 1) rfl).self)
              refine ⟨fun w => Hp (HS415.ft [0]) w413 w [.own A_data_0 c_data_0 (rowC (Eint .i64) l391) 3 (Eint .i64).sz, .rd (some ⟨g_cmp_4_c0, 0, none⟩) [.slice A_cmp_4_c0_v cmp_4_c0_v.length c_cmp_4_c0_v], .rd A_cmp_4_c0_v (rowC (Eint .i64) cmp_4_c0_v)], HS415.turns [0], ?_⟩
              refine H2_fval (i := 0) rfl (by kernel_rfl) (by kernel_rfl) (by kernel_rfl) (by kernel_rfl) (by kernel_rfl) rfl rfl rfl (SS_0 (by kernel_rfl) (HR416.sel [0, 1, 2] rfl)) (fun wq => O_move rfl rfl) ?_
              refine H2_fval (i := 1) rfl (by kernel_rfl) (by kernel_rfl) (by kernel_rfl) (by kernel_rfl) (by kernel_rfl) rfl rfl rfl (SS_0 (by kernel_rfl) (HR416.sel [0, 1, 2] rfl)) (fun wq => O_move rfl rfl) ?_
              refine H2_fval (i := 2) rfl (by kernel_rfl) (by kernel_rfl) (by kernel_rfl) (by kernel_rfl) (by kernel_rfl) rfl rfl rfl (SS_0 (by kernel_rfl) (HR416.sel [0, 1, 2] rfl)) (fun wq => O_move rfl rfl) ?_
              refine H2_fval (i := 3) rfl (by kernel_rfl) (by kernel_rfl) (by kernel_rfl) (by kernel_rfl) (by kernel_rfl) rfl rfl rfl (SS_0 (by kernel_rfl) (HR416.sel [0, 1, 2] rfl)) (fun wq => O_move rfl rfl) ?_
              refine H2_fval (i := 4) rfl (by kernel_rfl) (by kernel_rfl) (by kernel_rfl) (by kernel_rfl) (by kernel_rfl) rfl rfl rfl (SS_0 (by kernel_rfl) (HR416.sel [0, 1, 2] rfl)) (fun wq => O_add rfl rfl rfl) ?_
              refine H2_fval (i := 5) rfl (by kernel_rfl) (by kernel_rfl) (by kernel_rfl) (by kernel_rfl) (by kernel_rfl) rfl rfl rfl (SS_0 (by kernel_rfl) (HR416.sel [0, 1, 2] rfl)) (fun wq => O_move rfl rfl) ?_
              refine H2_fval (i := 6) rfl (by kernel_rfl) (by kernel_rfl) (by kernel_rfl) (by kernel_rfl) (by kernel_rfl) rfl rfl rfl (SS_0 (by kernel_rfl) (HR416.sel [0, 1, 2] rfl)) (fun wq => O_move rfl rfl) ?_
              refine H2_fval (i := 7) rfl (by kernel_rfl) (by kernel_rfl) (by kernel_rfl) (by kernel_rfl) (by kernel_rfl) rfl rfl rfl (SS_0 (by kernel_rfl) (HR416.sel [0, 1, 2] rfl)) (fun wq => O_add rfl rfl rfl) ?_
              obtain ⟨⟨g417, g418⟩, H⟩ := of_gd H
              refine H2_fval (i := 8) rfl (by kernel_rfl) (by kernel_rfl) (by kernel_rfl) (by kernel_rfl) (by kernel_rfl) rfl rfl rfl (SS_0 (by kernel_rfl) (HR416.sel [0, 1, 2] rfl)) (fun wq => O_idx rfl rfl rfl Try.underlying22 size3 g417 g418 (Cells.isA (HR416.cells_own (i := 0) rfl) (rowC_ne (E := (Eint .i64)) g417 g418 (by decide)))) ?_
              refine H2_val (i := 9) [14, 15, 16, 17] rfl (by kernel_rfl) (by kernel_rfl) (by kernel_rfl) (by kernel_rfl) (by kernel_rfl) (by kernel_rfl) (by kernel_rfl) (by kernel_rfl) rfl rfl rfl (HR416.sel [0, 1, 2] rfl) (fun wq hq => O_loadC rfl rfl flat3 (hq.cells_own (i := 0) rfl) (int_cell g417 g418)) ?_
              refine H2_fval (i := 10) rfl (by kernel_rfl) (by kernel_rfl) (by kernel_rfl) (by kernel_rfl) (by kernel_rfl) rfl rfl rfl (SS_0 (by kernel_rfl) (HR416.sel [0, 1, 2] rfl)) (fun wq => O_move rfl rfl) ?_
              refine H2_fval (i := 11) rfl (by kernel_rfl) (by kernel_rfl) (by kernel_rfl) (by kernel_rfl) (by kernel_rfl) rfl rfl rfl (SS_0 (by kernel_rfl) (HR416.sel [0, 1, 2] rfl)) (fun wq => O_move rfl rfl) ?_
              obtain ⟨⟨g419, g420⟩, H⟩ := of_gd H
              refine H2_fval (i := 12) rfl (by kernel_rfl) (by kernel_rfl) (by kernel_rfl) (by kernel_rfl) (by kernel_rfl) rfl rfl rfl (SS_0 (by kernel_rfl) (HR416.sel [0, 1, 2] rfl)) (fun wq => O_idx rfl rfl rfl Try.underlying22 size3 g419 g420 (Cells.isA (HR416.cells_own (i := 0) rfl) (rowC_ne (E := (Eint .i64)) g419 g420 (by decide)))) ?_
              refine H2_val (i := 13) [14, 15, 16, 17] rfl (by kernel_rfl) (by kernel_rfl) (by kernel_rfl) (by kernel_rfl) (by kernel_rfl) (by kernel_rfl) (by kernel_rfl) (by kernel_rfl) rfl rfl rfl (HR416.sel [0, 1, 2] rfl) (fun wq hq => O_loadC rfl rfl flat3 (hq.cells_own (i := 0) rfl) (int_cell g419 g420)) ?_
              refine H2_fval (i := 14) rfl (by kernel_rfl) (by kernel_rfl) (by kernel_rfl) (by kernel_rfl) (by kernel_rfl) rfl rfl rfl (SS_0 (by kernel_rfl) (HR416.sel [0, 1, 2] rfl)) (fun wq => O_idx rfl rfl rfl Try.underlying22 size3 g419 g420 (Cells.isA (HR416.cells_own (i := 0) rfl) (rowC_ne (E := (Eint .i64)) g419 g420 (by decide)))) ?_
              refine H2_one (i := 15) rfl (by kernel_rfl) (by kernel_rfl) ?_
              obtain ⟨l423, h424, H⟩ := of_bnd H
              refine F_setE (E := (Eint .i64)) (i := 0) (a := rd l391 (IntKind.i64.wrap (k_392 + 1))) (q := k_392) rfl rfl rfl rfl rfl rfl size3 HR416 rfl (by decide) g419 g420 h424 (fun w421 HS422 => ?_)
              have e425 : l391.length = l423.length := by rw [← h424, List.length_set]
              refine F_know (i := 0) rfl (congrArg (fun n => Value.slice A_data_0 n c_data_0) e425) ?_
              refine F_know (i := 61) rfl (congrArg (fun n => Value.slice A_data_0 n c_data_0) e425) ?_
              refine F_know (i := 63) rfl (congrArg (fun n => Value.slice A_data_0 n c_data_0) e425) ?_
              refine F_know (i := 66) rfl (congrArg (fun n => Value.slice A_data_0 n c_data_0) e425) ?_
              refine F_know (i := 71) rfl (congrArg (fun n => Value.slice A_data_0 n c_data_0) e425) ?_
              have HS422 : Hp (HS415.ft [0]) w413 w421 [.own A_data_0 c_data_0 (rowC (Eint .i64) l423) 3 (Eint .i64).sz, .rd (some ⟨g_cmp_4_c0, 0, none⟩) [.slice A_cmp_4_c0_v cmp_4_c0_v.length c_cmp_4_c0_v], .rd A_cmp_4_c0_v (rowC (Eint .i64) cmp_4_c0_v)] := HS422
              refine H2_next (SS_1 (by kernel_rfl) HS422.chg) ?_
              obtain ⟨⟨g426, g427⟩, H⟩ := of_gd H
              refine H2_fval (i := 16) rfl (by kernel_rfl) (by kernel_rfl) (by kernel_rfl) (by kernel_rfl) (by kernel_rfl) rfl rfl rfl (SS_1 (by kernel_rfl) HS422.chg) (fun wq => O_idx rfl rfl rfl Try.underlying22 size3 g426 g427 (Cells.isA (HS422.cells_own (i := 0) rfl) (rowC_ne (E := (Eint .i64)) g426 g427 (by decide)))) ?_
              refine H2_end (by kernel_rfl) ?_
              have HS428 : Hp S0 w0 w421 [.own A_data_0 c_data_0 (rowC (Eint .i64) l423) 3 (Eint .i64).sz, .rd (some ⟨g_cmp_4_c0, 0, none⟩) [.slice A_cmp_4_c0_v cmp_4_c0_v.length c_cmp_4_c0_v], .rd A_cmp_4_c0_v (rowC (Eint .i64) cmp_4_c0_v)] := (HS415.back [0] (HS422.sel [0] rfl) rfl).sel [3, 1, 2] rfl
              refine T_one (i := 17) rfl (by kernel_rfl) ?_
              obtain ⟨l431, h432, H⟩ := of_bnd H
              refine F_setE (E := (Eint .i64)) (i := 0) (a := rd l391 k_392) (q := IntKind.i64.wrap (k_392 + 1)) rfl rfl rfl rfl rfl rfl size3 HS428 rfl (by decide) g426 g427 h432 (fun w429 HS430 => ?_)
              have e433 : l423.length = l431.length := by rw [← h432, List.length_set]
              refine F_know (i := 0) rfl (congrArg (fun n => Value.slice A_data_0 n c_data_0) e433) ?_
              refine F_know (i := 61) rfl (congrArg (fun n => Value.slice A_data_0 n c_data_0) e433) ?_
              refine F_know (i := 63) rfl (congrArg (fun n => Value.slice A_data_0 n c_data_0) e433) ?_
              refine F_know (i := 66) rfl (congrArg (fun n => Value.slice A_data_0 n c_data_0) e433) ?_
              refine F_know (i := 71) rfl (congrArg (fun n => Value.slice A_data_0 n c_data_0) e433) ?_
              have HS430 : Hp S0 w0 w429 [.own A_data_0 c_data_0 (rowC (Eint .i64) l431) 3 (Eint .i64).sz, .rd (some ⟨g_cmp_4_c0, 0, none⟩) [.slice A_cmp_4_c0_v cmp_4_c0_v.length c_cmp_4_c0_v], .rd A_cmp_4_c0_v (rowC (Eint .i64) cmp_4_c0_v)] := HS430
              refine T_next ?_
              refine T_done (by kernel_rfl) ?_
              refine L_endB hN396 ?_
              refine L_region ?_
              refine F_val rfl rfl rfl (O_move rfl rfl) ?_
              refine F_val rfl rfl rfl (O_add rfl rfl rfl) ?_
              obtain ⟨x434, h435, H⟩ := of_bnd H
              refine F_val rfl rfl rfl (O_assign' rfl rfl (congrArg (Value.int .i64) h435)) ?_
              refine F_nil ?_
              refine L_nil (fun a ha => hNp390 _ a _ (Nat.lt_succ_self _) ⟨_, _, Is.cons ha (Is.cons ha (Is.cons ha (Is.nil ha) rfl) rfl) rfl, HS430.sel [0, 1, 2] rfl, H⟩)
            · have H := of_neg H c395
              refine L_exitB (fun a w h => hOp390 (.exit 2) a w rfl (hXb305 a w h)) ?_
              refine L_nil (fun a ha => hNj172 a _ ⟨_, (Option.some.inj H).symm, Is.nil ha, HS394.sel [0, 1, 2] rfl⟩)
        · obtain ⟨l304, ej, ha, HS437⟩ := hR
          obtain rfl := ej.symm
          refine wpLF_app ?_ ha
          obtain ⟨g438, H⟩ := of_gd H
          refine L_ret (fun a ha => (post_ret0 ha rfl ?_))
          obtain rfl := Option.some.inj H
          exact ⟨rfl, HS437.sel [0] rfl, g438⟩
    · have H := of_neg H c1
      refine L_skip ?_
      refine L_seq ?_
      refine L_seq ?_
      refine L_region ?_
      refine F_val rfl rfl rfl (O_move rfl rfl) ?_
      refine F_val rfl rfl rfl (O_move rfl rfl) ?_
      refine F_val rfl rfl rfl (O_sub rfl rfl rfl) ?_
      refine F_val rfl rfl rfl (O_eq rfl rfl rfl) ?_
      refine F_nil ?_
      refine L_condP rfl (fun c439 => ?_) (fun c439 => ?_)
      · have H := of_pos H c439
        refine L_seq ?_
        refine L_region ?_
        refine F_val rfl rfl rfl (O_move rfl rfl) ?_
        refine F_val rfl rfl rfl (O_assign rfl rfl) ?_
        refine F_nil ?_
        refine L_seq ?_
        refine L_region ?_
        refine F_val rfl rfl rfl (O_move rfl rfl) ?_
        refine F_val rfl rfl rfl (O_assign rfl rfl) ?_
        refine F_nil ?_
        refine L_seq ?_
        obtain ⟨yj440, Hyj440, H⟩ := of_bind H
        refine L_join (fun a w => ∃ (i_524 : Int), yj440 = i_524 ∧ Is Try.f82.ntmps a [(0, .slice A_data_0 l_data_0.length c_data_0), (2, .int .i64 m_2), (14, .int .i64 i_524)] ∧ Hp S0 w0 w [.own A_data_0 c_data_0 (rowC (Eint .i64) l_data_0) 3 (Eint .i64).sz, .rd (some ⟨g_cmp_4_c0, 0, none⟩) [.slice A_cmp_4_c0_v cmp_4_c0_v.length c_cmp_4_c0_v], .rd A_cmp_4_c0_v (rowC (Eint .i64) cmp_4_c0_v)]) (fun Qj440 hNj440 hOj440 => ?_) (fun a w hR => ?_)
        · skip
          have H := Hyj440
          refine L_blk (fun Qb525 hNb525 hXb525 hOb525 => ?_)
          refine L_lp (fun k a w => ∃ (i_579 : Int), ∃ (j_580 : Int), Is Try.f82.ntmps a [(0, .slice A_data_0 l_data_0.length c_data_0), (2, .int .i64 m_2), (4, .func (.func 48) #[] #[.pointer (some ⟨g_cmp_4_c0, 0, none⟩)]), (14, .int .i64 i_579), (15, .int .i64 j_580)] ∧ Hp S0 w0 w [.own A_data_0 c_data_0 (rowC (Eint .i64) l_data_0) 3 (Eint .i64).sz, .rd (some ⟨g_cmp_4_c0, 0, none⟩) [.slice A_cmp_4_c0_v cmp_4_c0_v.length c_cmp_4_c0_v], .rd A_cmp_4_c0_v (rowC (Eint .i64) cmp_4_c0_v)] ∧ slices_symMergeCmpFunc_int_cbuild_Limited_1.l5 k i_579 j_580 l_data_0 m_2 cmp_4_c0_v = some yj440) FU (fun a ha => ⟨_, _, Is.cons ha (Is.cons ha (Is.cons ha (Is.cons ha (Is.cons ha (Is.nil ha) rfl) rfl) rfl) rfl) rfl, HS0.sel [0, 1, 2] rfl, H⟩) (fun kp578 a w581 hI Qp578 hNp578 hOp578 => ?_)
          obtain ⟨i_579, j_580, ha, HS582, HAp578⟩ := hI
          cases kp578 with
          | zero => cases (show (none : Option _) = some _ from HAp578)
          | succ kp578 =>
            have H := (slices_symMergeCmpFunc_int_cbuild_Limited_1.l5.eq_2 ..).symm.trans HAp578
            refine wpLF_app ?_ ha
            refine L_seq ?_
            refine L_seq ?_
            refine L_region ?_
            refine F_val rfl rfl rfl (O_move rfl rfl) ?_
            refine F_val rfl rfl rfl (O_move rfl rfl) ?_
            refine F_val rfl rfl rfl (O_lt rfl rfl rfl) ?_
            refine F_nil ?_
            refine L_condP rfl (fun c583 => ?_) (fun c583 => ?_)
            · have H := of_pos H c583
              refine L_skip ?_
              refine L_blk (fun Q584 hN584 hX584 hO584 => ?_)
              refine L_seq ?_
              refine L_region ?_
              refine F_val rfl rfl rfl (O_move rfl rfl) ?_
              refine F_val rfl rfl rfl (O_move rfl rfl) ?_
              refine F_val rfl rfl rfl (O_add rfl rfl rfl) ?_
              refine F_val rfl rfl rfl (O_conv rfl rfl ⟨_, Try.underlying3⟩ Try.underlying43) ?_
              refine F_val rfl rfl rfl (O_shr rfl rfl rfl (by decide)) ?_
              refine F_val rfl rfl rfl (O_conv rfl rfl ⟨_, Try.underlying43⟩ Try.underlying3) ?_
              obtain ⟨x585, h586, H⟩ := of_bnd H
              refine F_val rfl rfl rfl (O_assign' rfl rfl (congrArg (Value.int .i64) h586)) ?_
              refine F_nil ?_
              refine L_seq ?_
              refine L_quiet mix (by kernel_rfl) ?_
              refine Q_val rfl rfl rfl (fun wq hq => O_move rfl rfl) ?_
              refine Q_val rfl rfl rfl (fun wq hq => O_move rfl rfl) ?_
              refine Q_val rfl rfl rfl (fun wq hq => O_move rfl rfl) ?_
              obtain ⟨⟨g587, g588⟩, H⟩ := of_gd H
              refine Q_val rfl rfl rfl (fun wq hq => O_idx rfl rfl rfl Try.underlying22 size3 g587 g588 (Cells.isA ((HS582.keep hq).cells_own (i := 0) rfl) (rowC_ne (E := (Eint .i64)) g587 g588 (by decide)))) ?_
              refine Q_val rfl rfl rfl (fun wq hq => O_loadC rfl rfl flat3 ((HS582.keep hq).cells_own (i := 0) rfl) (int_cell g587 g588)) ?_
              refine Q_val rfl rfl rfl (fun wq hq => O_move rfl rfl) ?_
              refine Q_val rfl rfl rfl (fun wq hq => O_move rfl rfl) ?_
              obtain ⟨⟨g589, g590⟩, H⟩ := of_gd H
              refine Q_val rfl rfl rfl (fun wq hq => O_idx rfl rfl rfl Try.underlying22 size3 g589 g590 (Cells.isA ((HS582.keep hq).cells_own (i := 0) rfl) (rowC_ne (E := (Eint .i64)) g589 g590 (by decide)))) ?_
              refine Q_val rfl rfl rfl (fun wq hq => O_loadC rfl rfl flat3 ((HS582.keep hq).cells_own (i := 0) rfl) (int_cell g589 g590)) ?_
              obtain ⟨z593, h592, H⟩ := of_bind H
              refine Q_callV (v := .int .i64 z593) (xs := [.tmp 96, .tmp 100]) (cv := [.pointer (some ⟨g_cmp_4_c0, 0, none⟩)]) rfl rfl rfl rfl rfl Try.func48 nm48 rfl rfl rfl (fun wq hq => (build_Limited_1.calls ((HS582.keep hq).give [] rfl (Lent.rd (HS582.keep hq) (Lent.rd (HS582.keep hq) (Lent.nil) (i := 2) rfl (((HS582.keep hq).cells_rd (i := 2) rfl).self)) (i := 1) rfl ((HS582.keep hq).cells_rd (i := 1) rfl).self)) hc_r_cmp_4_c0_v h592).mono (fun e w hc => ?_)) ?_
              · obtain ⟨rfl, h⟩ := hc
                exact ⟨rfl, hq.trans h.chg0⟩
              refine Q_val rfl rfl rfl (fun wq hq => O_lt rfl rfl rfl) ?_
              refine Q_val rfl rfl rfl (fun wq hq => O_not rfl rfl) ?_
              refine Q_nil (fun w594 hw595 => ?_)
              have HS596 := HS582.keep hw595
              obtain ⟨yj597, Hyj597, H⟩ := of_bind H
              refine L_join (fun a w => ∃ (i_601 : Int), ∃ (j_602 : Int), yj597 = (i_601, j_602) ∧ Is Try.f82.ntmps a [(0, .slice A_data_0 l_data_0.length c_data_0), (2, .int .i64 m_2), (4, .func (.func 48) #[] #[.pointer (some ⟨g_cmp_4_c0, 0, none⟩)]), (14, .int .i64 i_601), (15, .int .i64 j_602)] ∧ Hp S0 w0 w [.own A_data_0 c_data_0 (rowC (Eint .i64) l_data_0) 3 (Eint .i64).sz, .rd (some ⟨g_cmp_4_c0, 0, none⟩) [.slice A_cmp_4_c0_v cmp_4_c0_v.length c_cmp_4_c0_v], .rd A_cmp_4_c0_v (rowC (Eint .i64) cmp_4_c0_v)]) (fun Qj597 hNj597 hOj597 => ?_) (fun a w hR => ?_)
              · skip
                have H := Hyj597
                refine L_condP rfl (fun c603 => ?_) (fun c603 => ?_)
                · have H := of_pos H c603
                  refine L_region ?_
                  refine F_val rfl rfl rfl (O_move rfl rfl) ?_
                  refine F_val rfl rfl rfl (O_add rfl rfl rfl) ?_
                  obtain ⟨x604, h605, H⟩ := of_bnd H
                  refine F_val rfl rfl rfl (O_assign' rfl rfl (congrArg (Value.int .i64) h605)) ?_
                  refine F_nil ?_
                  refine L_nil (fun a ha => hNj597 a _ ⟨_, _, (Option.some.inj H).symm, Is.cons ha (Is.cons ha (Is.cons ha (Is.cons ha (Is.cons ha (Is.nil ha) rfl) rfl) rfl) rfl) rfl, HS596.sel [0, 1, 2] rfl⟩)
                · have H := of_neg H c603
                  refine L_region ?_
                  refine F_val rfl rfl rfl (O_move rfl rfl) ?_
                  refine F_val rfl rfl rfl (O_assign rfl rfl) ?_
                  refine F_nil ?_
                  refine L_nil (fun a ha => hNj597 a _ ⟨_, _, (Option.some.inj H).symm, Is.cons ha (Is.cons ha (Is.cons ha (Is.cons ha (Is.cons ha (Is.nil ha) rfl) rfl) rfl) rfl) rfl, HS596.sel [0, 1, 2] rfl⟩)
              · obtain ⟨i_601, j_602, rfl, ha, HS607⟩ := hR
                refine wpLF_app ?_ ha
                refine L_endB hN584 ?_
                refine L_nil (fun a ha => hNp578 _ a _ (Nat.lt_succ_self _) ⟨_, _, Is.cons ha (Is.cons ha (Is.cons ha (Is.cons ha (Is.cons ha (Is.nil ha) rfl) rfl) rfl) rfl) rfl, HS607.sel [0, 1, 2] rfl, H⟩)
            · have H := of_neg H c583
              refine L_exitB (fun a w h => hOp578 (.exit 4) a w rfl (hXb525 a w h)) ?_
              refine L_nil (fun a ha => hNj440 a _ ⟨_, (Option.some.inj H).symm, Is.cons ha (Is.cons ha (Is.cons ha (Is.nil ha) rfl) rfl) rfl, HS582.sel [0, 1, 2] rfl⟩)
        · obtain ⟨i_524, ej, ha, HS609⟩ := hR
          obtain rfl := ej.symm
          refine wpLF_app ?_ ha
          refine L_seq ?_
          refine L_seq ?_
          refine L_region ?_
          refine F_val rfl rfl rfl (O_move rfl rfl) ?_
          refine F_val rfl rfl rfl (O_assign rfl rfl) ?_
          refine F_nil ?_
          obtain ⟨yj610, Hyj610, H⟩ := of_bind H
          refine L_join (fun a w => ∃ (l742 : List Int), yj610 = l742 ∧ Is Try.f82.ntmps a [] ∧ Hp S0 w0 w [.own A_data_0 c_data_0 (rowC (Eint .i64) l742) 3 (Eint .i64).sz, .rd (some ⟨g_cmp_4_c0, 0, none⟩) [.slice A_cmp_4_c0_v cmp_4_c0_v.length c_cmp_4_c0_v], .rd A_cmp_4_c0_v (rowC (Eint .i64) cmp_4_c0_v)]) (fun Qj610 hNj610 hOj610 => ?_) (fun a w hR => ?_)
          · skip
            have H := Hyj610
            refine L_blk (fun Qb743 hNb743 hXb743 hOb743 => ?_)
            refine L_lp (fun k a w => ∃ (l829 : List Int), ∃ (k_830 : Int), Is Try.f82.ntmps a [(0, .slice A_data_0 l829.length c_data_0), (14, .int .i64 i_524), (17, .int .i64 k_830)] ∧ Hp S0 w0 w [.own A_data_0 c_data_0 (rowC (Eint .i64) l829) 3 (Eint .i64).sz, .rd (some ⟨g_cmp_4_c0, 0, none⟩) [.slice A_cmp_4_c0_v cmp_4_c0_v.length c_cmp_4_c0_v], .rd A_cmp_4_c0_v (rowC (Eint .i64) cmp_4_c0_v)] ∧ slices_symMergeCmpFunc_int_cbuild_Limited_1.l7 k l829 k_830 i_524 = some yj610) FU (fun a ha => ⟨_, _, Is.cons ha (Is.cons ha (Is.cons ha (Is.nil ha) rfl) rfl) rfl, HS609.sel [0, 1, 2] rfl, H⟩) (fun kp828 a w831 hI Qp828 hNp828 hOp828 => ?_)
            obtain ⟨l829, k_830, ha, HS832, HAp828⟩ := hI
            cases kp828 with
            | zero => cases (show (none : Option _) = some _ from HAp828)
            | succ kp828 =>
              have H := (slices_symMergeCmpFunc_int_cbuild_Limited_1.l7.eq_2 ..).symm.trans HAp828
              refine wpLF_app ?_ ha
              refine L_seq ?_
              refine L_seq ?_
              refine L_region ?_
              refine F_val rfl rfl rfl (O_move rfl rfl) ?_
              refine F_val rfl rfl rfl (O_move rfl rfl) ?_
              refine F_val rfl rfl rfl (O_gt rfl rfl rfl) ?_
              refine F_nil ?_
              refine L_condP rfl (fun c833 => ?_) (fun c833 => ?_)
              · have H := of_pos H c833
                refine L_skip ?_
                refine L_seq ?_
                refine L_blk (fun Q834 hN834 hX834 hO834 => ?_)
                refine L_held2 17 1 [17] [15, 17] mix rfl (fun w851 hw852 => ?_)
                have HS853 := HS832.keep hw852
                have HR854 : Hp (HS853.ft [0]) w851 w851 [.own A_data_0 c_data_0 (rowC (Eint .i64) l829) 3 (Eint .i64).sz, .rd (some ⟨g_cmp_4_c0, 0, none⟩) [.slice A_cmp_4_c0_v cmp_4_c0_v.length c_cmp_4_c0_v], .rd A_cmp_4_c0_v (rowC (Eint .i64) cmp_4_c0_v)] := HS853.give [0] rfl (Lent.rd HS853 (Lent.rd HS853 (Lent.nil) (i := 2) rfl (HS853.cells_rd (i := 2) rfl).self) (i := 1) rfl (HS853.cells_rd (i := 1) rfl).self)
                refine ⟨fun w => Hp (HS853.ft [0]) w851 w [.own A_data_0 c_data_0 (rowC (Eint .i64) l829) 3 (Eint .i64).sz, .rd (some ⟨g_cmp_4_c0, 0, none⟩) [.slice A_cmp_4_c0_v cmp_4_c0_v.length c_cmp_4_c0_v], .rd A_cmp_4_c0_v (rowC (Eint .i64) cmp_4_c0_v)], HS853.turns [0], ?_⟩
                refine H2_fval (i := 0) rfl (by kernel_rfl) (by kernel_rfl) (by kernel_rfl) (by kernel_rfl) (by kernel_rfl) rfl rfl rfl (SS_0 (by kernel_rfl) (HR854.sel [0, 1, 2] rfl)) (fun wq => O_move rfl rfl) ?_
                refine H2_fval (i := 1) rfl (by kernel_rfl) (by kernel_rfl) (by kernel_rfl) (by kernel_rfl) (by kernel_rfl) rfl rfl rfl (SS_0 (by kernel_rfl) (HR854.sel [0, 1, 2] rfl)) (fun wq => O_move rfl rfl) ?_
                refine H2_fval (i := 2) rfl (by kernel_rfl) (by kernel_rfl) (by kernel_rfl) (by kernel_rfl) (by kernel_rfl) rfl rfl rfl (SS_0 (by kernel_rfl) (HR854.sel [0, 1, 2] rfl)) (fun wq => O_move rfl rfl) ?_
                refine H2_fval (i := 3) rfl (by kernel_rfl) (by kernel_rfl) (by kernel_rfl) (by kernel_rfl) (by kernel_rfl) rfl rfl rfl (SS_0 (by kernel_rfl) (HR854.sel [0, 1, 2] rfl)) (fun wq => O_move rfl rfl) ?_
                refine H2_fval (i := 4) rfl (by kernel_rfl) (by kernel_rfl) (by kernel_rfl) (by kernel_rfl) (by kernel_rfl) rfl rfl rfl (SS_0 (by kernel_rfl) (HR854.sel [0, 1, 2] rfl)) (fun wq => O_sub rfl rfl rfl) ?_
                refine H2_fval (i := 5) rfl (by kernel_rfl) (by kernel_rfl) (by kernel_rfl) (by kernel_rfl) (by kernel_rfl) rfl rfl rfl (SS_0 (by kernel_rfl) (HR854.sel [0, 1, 2] rfl)) (fun wq => O_move rfl rfl) ?_
                refine H2_fval (i := 6) rfl (by kernel_rfl) (by kernel_rfl) (by kernel_rfl) (by kernel_rfl) (by kernel_rfl) rfl rfl rfl (SS_0 (by kernel_rfl) (HR854.sel [0, 1, 2] rfl)) (fun wq => O_move rfl rfl) ?_
                refine H2_fval (i := 7) rfl (by kernel_rfl) (by kernel_rfl) (by kernel_rfl) (by kernel_rfl) (by kernel_rfl) rfl rfl rfl (SS_0 (by kernel_rfl) (HR854.sel [0, 1, 2] rfl)) (fun wq => O_sub rfl rfl rfl) ?_
                obtain ⟨⟨g855, g856⟩, H⟩ := of_gd H
                refine H2_fval (i := 8) rfl (by kernel_rfl) (by kernel_rfl) (by kernel_rfl) (by kernel_rfl) (by kernel_rfl) rfl rfl rfl (SS_0 (by kernel_rfl) (HR854.sel [0, 1, 2] rfl)) (fun wq => O_idx rfl rfl rfl Try.underlying22 size3 g855 g856 (Cells.isA (HR854.cells_own (i := 0) rfl) (rowC_ne (E := (Eint .i64)) g855 g856 (by decide)))) ?_
                refine H2_val (i := 9) [14, 15, 16, 17] rfl (by kernel_rfl) (by kernel_rfl) (by kernel_rfl) (by kernel_rfl) (by kernel_rfl) (by kernel_rfl) (by kernel_rfl) (by kernel_rfl) rfl rfl rfl (HR854.sel [0, 1, 2] rfl) (fun wq hq => O_loadC rfl rfl flat3 (hq.cells_own (i := 0) rfl) (int_cell g855 g856)) ?_
                refine H2_fval (i := 10) rfl (by kernel_rfl) (by kernel_rfl) (by kernel_rfl) (by kernel_rfl) (by kernel_rfl) rfl rfl rfl (SS_0 (by kernel_rfl) (HR854.sel [0, 1, 2] rfl)) (fun wq => O_move rfl rfl) ?_
                refine H2_fval (i := 11) rfl (by kernel_rfl) (by kernel_rfl) (by kernel_rfl) (by kernel_rfl) (by kernel_rfl) rfl rfl rfl (SS_0 (by kernel_rfl) (HR854.sel [0, 1, 2] rfl)) (fun wq => O_move rfl rfl) ?_
                obtain ⟨⟨g857, g858⟩, H⟩ := of_gd H
                refine H2_fval (i := 12) rfl (by kernel_rfl) (by kernel_rfl) (by kernel_rfl) (by kernel_rfl) (by kernel_rfl) rfl rfl rfl (SS_0 (by kernel_rfl) (HR854.sel [0, 1, 2] rfl)) (fun wq => O_idx rfl rfl rfl Try.underlying22 size3 g857 g858 (Cells.isA (HR854.cells_own (i := 0) rfl) (rowC_ne (E := (Eint .i64)) g857 g858 (by decide)))) ?_
                refine H2_val (i := 13) [14, 15, 16, 17] rfl (by kernel_rfl) (by kernel_rfl) (by kernel_rfl) (by kernel_rfl) (by kernel_rfl) (by kernel_rfl) (by kernel_rfl) (by kernel_rfl) rfl rfl rfl (HR854.sel [0, 1, 2] rfl) (fun wq hq => O_loadC rfl rfl flat3 (hq.cells_own (i := 0) rfl) (int_cell g857 g858)) ?_
                refine H2_fval (i := 14) rfl (by kernel_rfl) (by kernel_rfl) (by kernel_rfl) (by kernel_rfl) (by kernel_rfl) rfl rfl rfl (SS_0 (by kernel_rfl) (HR854.sel [0, 1, 2] rfl)) (fun wq => O_idx rfl rfl rfl Try.underlying22 size3 g857 g858 (Cells.isA (HR854.cells_own (i := 0) rfl) (rowC_ne (E := (Eint .i64)) g857 g858 (by decide)))) ?_
                refine H2_one (i := 15) rfl (by kernel_rfl) (by kernel_rfl) ?_
                obtain ⟨l861, h862, H⟩ := of_bnd H
                refine F_setE (E := (Eint .i64)) (i := 0) (a := rd l829 (IntKind.i64.wrap (k_830 - 1))) (q := k_830) rfl rfl rfl rfl rfl rfl size3 HR854 rfl (by decide) g857 g858 h862 (fun w859 HS860 => ?_)
                have e863 : l829.length = l861.length := by rw [← h862, List.length_set]
                refine F_know (i := 0) rfl (congrArg (fun n => Value.slice A_data_0 n c_data_0) e863) ?_
                refine F_know (i := 113) rfl (congrArg (fun n => Value.slice A_data_0 n c_data_0) e863) ?_
                refine F_know (i := 115) rfl (congrArg (fun n => Value.slice A_data_0 n c_data_0) e863) ?_
                refine F_know (i := 118) rfl (congrArg (fun n => Value.slice A_data_0 n c_data_0) e863) ?_
                refine F_know (i := 123) rfl (congrArg (fun n => Value.slice A_data_0 n c_data_0) e863) ?_
                have HS860 : Hp (HS853.ft [0]) w851 w859 [.own A_data_0 c_data_0 (rowC (Eint .i64) l861) 3 (Eint .i64).sz, .rd (some ⟨g_cmp_4_c0, 0, none⟩) [.slice A_cmp_4_c0_v cmp_4_c0_v.length c_cmp_4_c0_v], .rd A_cmp_4_c0_v (rowC (Eint .i64) cmp_4_c0_v)] := HS860
                refine H2_next (SS_1 (by kernel_rfl) HS860.chg) ?_
                obtain ⟨⟨g864, g865⟩, H⟩ := of_gd H
                refine H2_fval (i := 16) rfl (by kernel_rfl) (by kernel_rfl) (by kernel_rfl) (by kernel_rfl) (by kernel_rfl) rfl rfl rfl (SS_1 (by kernel_rfl) HS860.chg) (fun wq => O_idx rfl rfl rfl Try.underlying22 size3 g864 g865 (Cells.isA (HS860.cells_own (i := 0) rfl) (rowC_ne (E := (Eint .i64)) g864 g865 (by decide)))) ?_
                refine H2_end (by kernel_rfl) ?_
                have HS866 : Hp S0 w0 w859 [.own A_data_0 c_data_0 (rowC (Eint .i64) l861) 3 (Eint .i64).sz, .rd (some ⟨g_cmp_4_c0, 0, none⟩) [.slice A_cmp_4_c0_v cmp_4_c0_v.length c_cmp_4_c0_v], .rd A_cmp_4_c0_v (rowC (Eint .i64) cmp_4_c0_v)] := (HS853.back [0] (HS860.sel [0] rfl) rfl).sel [3, 1, 2] rfl
                refine T_one (i := 17) rfl (by kernel_rfl) ?_
                obtain ⟨l869, h870, H⟩ := of_bnd H
                refine F_setE (E := (Eint .i64)) (i := 0) (a := rd l829 k_830) (q := IntKind.i64.wrap (k_830 - 1)) rfl rfl rfl rfl rfl rfl size3 HS866 rfl (by decide) g864 g865 h870 (fun w867 HS868 => ?_)
                have e871 : l861.length = l869.length := by rw [← h870, List.length_set]
                refine F_know (i := 0) rfl (congrArg (fun n => Value.slice A_data_0 n c_data_0) e871) ?_
                refine F_know (i := 113) rfl (congrArg (fun n => Value.slice A_data_0 n c_data_0) e871) ?_
                refine F_know (i := 115) rfl (congrArg (fun n => Value.slice A_data_0 n c_data_0) e871) ?_
                refine F_know (i := 118) rfl (congrArg (fun n => Value.slice A_data_0 n c_data_0) e871) ?_
                refine F_know (i := 123) rfl (congrArg (fun n => Value.slice A_data_0 n c_data_0) e871) ?_
                have HS868 : Hp S0 w0 w867 [.own A_data_0 c_data_0 (rowC (Eint .i64) l869) 3 (Eint .i64).sz, .rd (some ⟨g_cmp_4_c0, 0, none⟩) [.slice A_cmp_4_c0_v cmp_4_c0_v.length c_cmp_4_c0_v], .rd A_cmp_4_c0_v (rowC (Eint .i64) cmp_4_c0_v)] := HS868
                refine T_next ?_
                refine T_done (by kernel_rfl) ?_
                refine L_endB hN834 ?_
                refine L_region ?_
                refine F_val rfl rfl rfl (O_move rfl rfl) ?_
                refine F_val rfl rfl rfl (O_sub rfl rfl rfl) ?_
                obtain ⟨x872, h873, H⟩ := of_bnd H
                refine F_val rfl rfl rfl (O_assign' rfl rfl (congrArg (Value.int .i64) h873)) ?_
                refine F_nil ?_
                refine L_nil (fun a ha => hNp828 _ a _ (Nat.lt_succ_self _) ⟨_, _, Is.cons ha (Is.cons ha (Is.cons ha (Is.nil ha) rfl) rfl) rfl, HS868.sel [0, 1, 2] rfl, H⟩)
              · have H := of_neg H c833
                refine L_exitB (fun a w h => hOp828 (.exit 6) a w rfl (hXb743 a w h)) ?_
                refine L_nil (fun a ha => hNj610 a _ ⟨_, (Option.some.inj H).symm, Is.nil ha, HS832.sel [0, 1, 2] rfl⟩)
          · obtain ⟨l742, ej, ha, HS875⟩ := hR
            obtain rfl := ej.symm
            refine wpLF_app ?_ ha
            obtain ⟨g876, H⟩ := of_gd H
            refine L_ret (fun a ha => (post_ret0 ha rfl ?_))
            obtain rfl := Option.some.inj H
            exact ⟨rfl, HS875.sel [0] rfl, g876⟩
      · have H := of_neg H c439
        refine L_skip ?_
        refine L_seq ?_
        refine L_region ?_
        refine F_val rfl rfl rfl (O_move rfl rfl) ?_
        refine F_val rfl rfl rfl (O_move rfl rfl) ?_
        refine F_val rfl rfl rfl (O_add rfl rfl rfl) ?_
        refine F_val rfl rfl rfl (O_conv rfl rfl ⟨_, Try.underlying3⟩ Try.underlying43) ?_
        refine F_val rfl rfl rfl (O_shr rfl rfl rfl (by decide)) ?_
        refine F_val rfl rfl rfl (O_conv rfl rfl ⟨_, Try.underlying43⟩ Try.underlying3) ?_
        obtain ⟨x877, h878, H⟩ := of_bnd H
        refine F_val rfl rfl rfl (O_assign' rfl rfl (congrArg (Value.int .i64) h878)) ?_
        refine F_nil ?_
        refine L_seq ?_
        refine L_region ?_
        refine F_val rfl rfl rfl (O_move rfl rfl) ?_
        refine F_val rfl rfl rfl (O_move rfl rfl) ?_
        refine F_val rfl rfl rfl (O_add rfl rfl rfl) ?_
        obtain ⟨x879, h880, H⟩ := of_bnd H
        refine F_val rfl rfl rfl (O_assign' rfl rfl (congrArg (Value.int .i64) h880)) ?_
        refine F_nil ?_
        refine L_seq ?_
        refine L_region ?_
        refine F_val rfl rfl rfl (O_assign rfl rfl) ?_
        refine F_val rfl rfl rfl (O_assign rfl rfl) ?_
        refine F_nil ?_
        refine L_seq ?_
        refine L_seq ?_
        refine L_region ?_
        refine F_val rfl rfl rfl (O_move rfl rfl) ?_
        refine F_val rfl rfl rfl (O_move rfl rfl) ?_
        refine F_val rfl rfl rfl (O_gt rfl rfl rfl) ?_
        refine F_nil ?_
        obtain ⟨yj881, Hyj881, H⟩ := of_bind H
        refine L_join (fun a w => ∃ (start_885 : Int), ∃ (r_886 : Int), yj881 = (start_885, r_886) ∧ Is Try.f82.ntmps a [(0, .slice A_data_0 l_data_0.length c_data_0), (1, .int .i64 a_1), (2, .int .i64 m_2), (3, .int .i64 b_3), (4, .func (.func 48) #[] #[.pointer (some ⟨g_cmp_4_c0, 0, none⟩)]), (18, .int .i64 x877), (19, .int .i64 x879), (20, .int .i64 start_885), (21, .int .i64 r_886)] ∧ Hp S0 w0 w [.own A_data_0 c_data_0 (rowC (Eint .i64) l_data_0) 3 (Eint .i64).sz, .rd (some ⟨g_cmp_4_c0, 0, none⟩) [.slice A_cmp_4_c0_v cmp_4_c0_v.length c_cmp_4_c0_v], .rd A_cmp_4_c0_v (rowC (Eint .i64) cmp_4_c0_v)]) (fun Qj881 hNj881 hOj881 => ?_) (fun a w hR => ?_)
        · skip
          have H := Hyj881
          refine L_condP rfl (fun c887 => ?_) (fun c887 => ?_)
          · have H := of_pos H c887
            refine L_seq ?_
            refine L_region ?_
            refine F_val rfl rfl rfl (O_move rfl rfl) ?_
            refine F_val rfl rfl rfl (O_move rfl rfl) ?_
            refine F_val rfl rfl rfl (O_sub rfl rfl rfl) ?_
            obtain ⟨x888, h889, H⟩ := of_bnd H
            refine F_val rfl rfl rfl (O_assign' rfl rfl (congrArg (Value.int .i64) h889)) ?_
            refine F_nil ?_
            refine L_region ?_
            refine F_val rfl rfl rfl (O_move rfl rfl) ?_
            refine F_val rfl rfl rfl (O_assign rfl rfl) ?_
            refine F_nil ?_
            refine L_nil (fun a ha => hNj881 a _ ⟨_, _, (Option.some.inj H).symm, Is.cons ha (Is.cons ha (Is.cons ha (Is.cons ha (Is.cons ha (Is.cons ha (Is.cons ha (Is.cons ha (Is.cons ha (Is.nil ha) rfl) rfl) rfl) rfl) rfl) rfl) rfl) rfl) rfl, HS0.sel [0, 1, 2] rfl⟩)
          · have H := of_neg H c887
            refine L_seq ?_
            refine L_region ?_
            refine F_val rfl rfl rfl (O_move rfl rfl) ?_
            refine F_val rfl rfl rfl (O_assign rfl rfl) ?_
            refine F_nil ?_
            refine L_region ?_
            refine F_val rfl rfl rfl (O_move rfl rfl) ?_
            refine F_val rfl rfl rfl (O_assign rfl rfl) ?_
            refine F_nil ?_
            refine L_nil (fun a ha => hNj881 a _ ⟨_, _, (Option.some.inj H).symm, Is.cons ha (Is.cons ha (Is.cons ha (Is.cons ha (Is.cons ha (Is.cons ha (Is.cons ha (Is.cons ha (Is.cons ha (Is.nil ha) rfl) rfl) rfl) rfl) rfl) rfl) rfl) rfl) rfl, HS0.sel [0, 1, 2] rfl⟩)
        · obtain ⟨start_885, r_886, rfl, ha, HS891⟩ := hR
          refine wpLF_app ?_ ha
          refine L_seq ?_
          refine L_region ?_
          refine F_val rfl rfl rfl (O_move rfl rfl) ?_
          refine F_val rfl rfl rfl (O_sub rfl rfl rfl) ?_
          obtain ⟨x892, h893, H⟩ := of_bnd H
          refine F_val rfl rfl rfl (O_assign' rfl rfl (congrArg (Value.int .i64) h893)) ?_
          refine F_nil ?_
          refine L_seq ?_
          obtain ⟨yj894, Hyj894, H⟩ := of_bind H
          refine L_join (fun a w => ∃ (start_978 : Int), yj894 = start_978 ∧ Is Try.f82.ntmps a [(0, .slice A_data_0 l_data_0.length c_data_0), (1, .int .i64 a_1), (2, .int .i64 m_2), (3, .int .i64 b_3), (4, .func (.func 48) #[] #[.pointer (some ⟨g_cmp_4_c0, 0, none⟩)]), (18, .int .i64 x877), (19, .int .i64 x879), (20, .int .i64 start_978)] ∧ Hp S0 w0 w [.own A_data_0 c_data_0 (rowC (Eint .i64) l_data_0) 3 (Eint .i64).sz, .rd (some ⟨g_cmp_4_c0, 0, none⟩) [.slice A_cmp_4_c0_v cmp_4_c0_v.length c_cmp_4_c0_v], .rd A_cmp_4_c0_v (rowC (Eint .i64) cmp_4_c0_v)]) (fun Qj894 hNj894 hOj894 => ?_) (fun a w hR => ?_)
          · skip
            have H := Hyj894
            refine L_blk (fun Qb979 hNb979 hXb979 hOb979 => ?_)
            refine L_lp (fun k a w => ∃ (start_1033 : Int), ∃ (r_1034 : Int), Is Try.f82.ntmps a [(0, .slice A_data_0 l_data_0.length c_data_0), (1, .int .i64 a_1), (2, .int .i64 m_2), (3, .int .i64 b_3), (4, .func (.func 48) #[] #[.pointer (some ⟨g_cmp_4_c0, 0, none⟩)]), (18, .int .i64 x877), (19, .int .i64 x879), (20, .int .i64 start_1033), (21, .int .i64 r_1034), (22, .int .i64 x892)] ∧ Hp S0 w0 w [.own A_data_0 c_data_0 (rowC (Eint .i64) l_data_0) 3 (Eint .i64).sz, .rd (some ⟨g_cmp_4_c0, 0, none⟩) [.slice A_cmp_4_c0_v cmp_4_c0_v.length c_cmp_4_c0_v], .rd A_cmp_4_c0_v (rowC (Eint .i64) cmp_4_c0_v)] ∧ slices_symMergeCmpFunc_int_cbuild_Limited_1.l9 k start_1033 r_1034 l_data_0 cmp_4_c0_v x892 = some yj894) FU (fun a ha => ⟨_, _, Is.cons ha (Is.cons ha (Is.cons ha (Is.cons ha (Is.cons ha (Is.cons ha (Is.cons ha (Is.cons ha (Is.cons ha (Is.cons ha (Is.nil ha) rfl) rfl) rfl) rfl) rfl) rfl) rfl) rfl) rfl) rfl, HS891.sel [0, 1, 2] rfl, H⟩) (fun kp1032 a w1035 hI Qp1032 hNp1032 hOp1032 => ?_)
            obtain ⟨start_1033, r_1034, ha, HS1036, HAp1032⟩ := hI
            cases kp1032 with
            | zero => cases (show (none : Option _) = some _ from HAp1032)
            | succ kp1032 =>
              have H := (slices_symMergeCmpFunc_int_cbuild_Limited_1.l9.eq_2 ..).symm.trans HAp1032
              refine wpLF_app ?_ ha
              refine L_seq ?_
              refine L_seq ?_
              refine L_region ?_
              refine F_val rfl rfl rfl (O_move rfl rfl) ?_
              refine F_val rfl rfl rfl (O_move rfl rfl) ?_
              refine F_val rfl rfl rfl (O_lt rfl rfl rfl) ?_
              refine F_nil ?_
              refine L_condP rfl (fun c1037 => ?_) (fun c1037 => ?_)
              · have H := of_pos H c1037
                refine L_skip ?_
                refine L_blk (fun Q1038 hN1038 hX1038 hO1038 => ?_)
                refine L_seq ?_
                refine L_region ?_
                refine F_val rfl rfl rfl (O_move rfl rfl) ?_
                refine F_val rfl rfl rfl (O_move rfl rfl) ?_
                refine F_val rfl rfl rfl (O_add rfl rfl rfl) ?_
                refine F_val rfl rfl rfl (O_conv rfl rfl ⟨_, Try.underlying3⟩ Try.underlying43) ?_
                refine F_val rfl rfl rfl (O_shr rfl rfl rfl (by decide)) ?_
                refine F_val rfl rfl rfl (O_conv rfl rfl ⟨_, Try.underlying43⟩ Try.underlying3) ?_
                obtain ⟨x1039, h1040, H⟩ := of_bnd H
                refine F_val rfl rfl rfl (O_assign' rfl rfl (congrArg (Value.int .i64) h1040)) ?_
                refine F_nil ?_
                refine L_seq ?_
                refine L_quiet mix (by kernel_rfl) ?_
                refine Q_val rfl rfl rfl (fun wq hq => O_move rfl rfl) ?_
                refine Q_val rfl rfl rfl (fun wq hq => O_move rfl rfl) ?_
                refine Q_val rfl rfl rfl (fun wq hq => O_move rfl rfl) ?_
                refine Q_val rfl rfl rfl (fun wq hq => O_move rfl rfl) ?_
                refine Q_val rfl rfl rfl (fun wq hq => O_sub rfl rfl rfl) ?_
                obtain ⟨⟨g1041, g1042⟩, H⟩ := of_gd H
                refine Q_val rfl rfl rfl (fun wq hq => O_idx rfl rfl rfl Try.underlying22 size3 g1041 g1042 (Cells.isA ((HS1036.keep hq).cells_own (i := 0) rfl) (rowC_ne (E := (Eint .i64)) g1041 g1042 (by decide)))) ?_
                refine Q_val rfl rfl rfl (fun wq hq => O_loadC rfl rfl flat3 ((HS1036.keep hq).cells_own (i := 0) rfl) (int_cell g1041 g1042)) ?_
                refine Q_val rfl rfl rfl (fun wq hq => O_move rfl rfl) ?_
                refine Q_val rfl rfl rfl (fun wq hq => O_move rfl rfl) ?_
                obtain ⟨⟨g1043, g1044⟩, H⟩ := of_gd H
                refine Q_val rfl rfl rfl (fun wq hq => O_idx rfl rfl rfl Try.underlying22 size3 g1043 g1044 (Cells.isA ((HS1036.keep hq).cells_own (i := 0) rfl) (rowC_ne (E := (Eint .i64)) g1043 g1044 (by decide)))) ?_
                refine Q_val rfl rfl rfl (fun wq hq => O_loadC rfl rfl flat3 ((HS1036.keep hq).cells_own (i := 0) rfl) (int_cell g1043 g1044)) ?_
                obtain ⟨z1047, h1046, H⟩ := of_bind H
                refine Q_callV (v := .int .i64 z1047) (xs := [.tmp 164, .tmp 168]) (cv := [.pointer (some ⟨g_cmp_4_c0, 0, none⟩)]) rfl rfl rfl rfl rfl Try.func48 nm48 rfl rfl rfl (fun wq hq => (build_Limited_1.calls ((HS1036.keep hq).give [] rfl (Lent.rd (HS1036.keep hq) (Lent.rd (HS1036.keep hq) (Lent.nil) (i := 2) rfl (((HS1036.keep hq).cells_rd (i := 2) rfl).self)) (i := 1) rfl ((HS1036.keep hq).cells_rd (i := 1) rfl).self)) hc_r_cmp_4_c0_v h1046).mono (fun e w hc => ?_)) ?_
                · obtain ⟨rfl, h⟩ := hc
                  exact ⟨rfl, hq.trans h.chg0⟩
                refine Q_val rfl rfl rfl (fun wq hq => O_lt rfl rfl rfl) ?_
                refine Q_val rfl rfl rfl (fun wq hq => O_not rfl rfl) ?_
                refine Q_nil (fun w1048 hw1049 => ?_)
                have HS1050 := HS1036.keep hw1049
                obtain ⟨yj1051, Hyj1051, H⟩ := of_bind H
                refine L_join (fun a w => ∃ (start_1055 : Int), ∃ (r_1056 : Int), yj1051 = (start_1055, r_1056) ∧ Is Try.f82.ntmps a [(0, .slice A_data_0 l_data_0.length c_data_0), (1, .int .i64 a_1), (2, .int .i64 m_2), (3, .int .i64 b_3), (4, .func (.func 48) #[] #[.pointer (some ⟨g_cmp_4_c0, 0, none⟩)]), (18, .int .i64 x877), (19, .int .i64 x879), (20, .int .i64 start_1055), (21, .int .i64 r_1056), (22, .int .i64 x892)] ∧ Hp S0 w0 w [.own A_data_0 c_data_0 (rowC (Eint .i64) l_data_0) 3 (Eint .i64).sz, .rd (some ⟨g_cmp_4_c0, 0, none⟩) [.slice A_cmp_4_c0_v cmp_4_c0_v.length c_cmp_4_c0_v], .rd A_cmp_4_c0_v (rowC (Eint .i64) cmp_4_c0_v)]) (fun Qj1051 hNj1051 hOj1051 => ?_) (fun a w hR => ?_)
                · skip
                  have H := Hyj1051
                  refine L_condP rfl (fun c1057 => ?_) (fun c1057 => ?_)
                  · have H := of_pos H c1057
                    refine L_region ?_
                    refine F_val rfl rfl rfl (O_move rfl rfl) ?_
                    refine F_val rfl rfl rfl (O_add rfl rfl rfl) ?_
                    obtain ⟨x1058, h1059, H⟩ := of_bnd H
                    refine F_val rfl rfl rfl (O_assign' rfl rfl (congrArg (Value.int .i64) h1059)) ?_
                    refine F_nil ?_
                    refine L_nil (fun a ha => hNj1051 a _ ⟨_, _, (Option.some.inj H).symm, Is.cons ha (Is.cons ha (Is.cons ha (Is.cons ha (Is.cons ha (Is.cons ha (Is.cons ha (Is.cons ha (Is.cons ha (Is.cons ha (Is.nil ha) rfl) rfl) rfl) rfl) rfl) rfl) rfl) rfl) rfl) rfl, HS1050.sel [0, 1, 2] rfl⟩)
                  · have H := of_neg H c1057
                    refine L_region ?_
                    refine F_val rfl rfl rfl (O_move rfl rfl) ?_
                    refine F_val rfl rfl rfl (O_assign rfl rfl) ?_
                    refine F_nil ?_
                    refine L_nil (fun a ha => hNj1051 a _ ⟨_, _, (Option.some.inj H).symm, Is.cons ha (Is.cons ha (Is.cons ha (Is.cons ha (Is.cons ha (Is.cons ha (Is.cons ha (Is.cons ha (Is.cons ha (Is.cons ha (Is.nil ha) rfl) rfl) rfl) rfl) rfl) rfl) rfl) rfl) rfl) rfl, HS1050.sel [0, 1, 2] rfl⟩)
                · obtain ⟨start_1055, r_1056, rfl, ha, HS1061⟩ := hR
                  refine wpLF_app ?_ ha
                  refine L_endB hN1038 ?_
                  refine L_nil (fun a ha => hNp1032 _ a _ (Nat.lt_succ_self _) ⟨_, _, Is.cons ha (Is.cons ha (Is.cons ha (Is.cons ha (Is.cons ha (Is.cons ha (Is.cons ha (Is.cons ha (Is.cons ha (Is.cons ha (Is.nil ha) rfl) rfl) rfl) rfl) rfl) rfl) rfl) rfl) rfl) rfl, HS1061.sel [0, 1, 2] rfl, H⟩)
              · have H := of_neg H c1037
                refine L_exitB (fun a w h => hOp1032 (.exit 8) a w rfl (hXb979 a w h)) ?_
                refine L_nil (fun a ha => hNj894 a _ ⟨_, (Option.some.inj H).symm, Is.cons ha (Is.cons ha (Is.cons ha (Is.cons ha (Is.cons ha (Is.cons ha (Is.cons ha (Is.cons ha (Is.nil ha) rfl) rfl) rfl) rfl) rfl) rfl) rfl) rfl, HS1036.sel [0, 1, 2] rfl⟩)
          · obtain ⟨start_978, ej, ha, HS1063⟩ := hR
            obtain rfl := ej.symm
            refine wpLF_app ?_ ha
            refine L_seq ?_
            refine L_region ?_
            refine F_val rfl rfl rfl (O_move rfl rfl) ?_
            refine F_val rfl rfl rfl (O_move rfl rfl) ?_
            refine F_val rfl rfl rfl (O_sub rfl rfl rfl) ?_
            obtain ⟨x1064, h1065, H⟩ := of_bnd H
            refine F_val rfl rfl rfl (O_assign' rfl rfl (congrArg (Value.int .i64) h1065)) ?_
            refine F_nil ?_
            refine L_seq ?_
            refine L_seq ?_
            refine L_region ?_
            refine F_val rfl rfl rfl (O_move rfl rfl) ?_
            refine F_val rfl rfl rfl (O_move rfl rfl) ?_
            refine F_val rfl rfl rfl (O_lt rfl rfl rfl) ?_
            refine F_val rfl rfl rfl (O_move rfl rfl) ?_
            refine F_grp 4 [(185, .bool (decide ((start_978 < m_2) ∧ (m_2 < x1064)))), (0, .slice A_data_0 l_data_0.length c_data_0), (1, .int .i64 a_1), (2, .int .i64 m_2), (3, .int .i64 b_3), (4, .func (.func 48) #[] #[.pointer (some ⟨g_cmp_4_c0, 0, none⟩)]), (18, .int .i64 x877), (20, .int .i64 start_978), (24, .int .i64 x1064)] ?_ ?_
            · rcases Decidable.em (start_978 < m_2) with c1069 | c1069
              · refine F_know (i := 181) rfl (dec_t c1069) ?_
                refine F_gval rfl rfl rfl rfl rfl rfl (O_move rfl rfl) ?_
                refine F_gval rfl rfl rfl rfl rfl rfl (O_move rfl rfl) ?_
                refine F_gval rfl rfl rfl rfl rfl rfl (O_lt rfl rfl rfl) ?_
                refine F_val rfl rfl rfl (O_pickT rfl rfl rfl) ?_
                refine F_know (i := 185) rfl (dec_and_t (q := m_2 < x1064) c1069) ?_
                exact F_grpE (fun a ha => Is.cons ha (Is.cons ha (Is.cons ha (Is.cons ha (Is.cons ha (Is.cons ha (Is.cons ha (Is.cons ha (Is.cons ha (Is.nil ha) rfl) rfl) rfl) rfl) rfl) rfl) rfl) rfl) rfl)
              · refine F_know (i := 181) rfl (dec_f c1069) ?_
                refine F_gskip rfl rfl rfl rfl rfl rfl rfl ?_
                refine F_gskip rfl rfl rfl rfl rfl rfl rfl ?_
                refine F_gskip rfl rfl rfl rfl rfl rfl rfl ?_
                refine F_val rfl rfl rfl (O_pickF rfl rfl rfl) ?_
                refine F_know (i := 185) rfl (dec_and_f (q := m_2 < x1064) c1069) ?_
                exact F_grpE (fun a ha => Is.cons ha (Is.cons ha (Is.cons ha (Is.cons ha (Is.cons ha (Is.cons ha (Is.cons ha (Is.cons ha (Is.cons ha (Is.nil ha) rfl) rfl) rfl) rfl) rfl) rfl) rfl) rfl) rfl)
            · skip
              refine F_nil ?_
              obtain ⟨yj1070, Hyj1070, H⟩ := of_bind H
              refine L_join (fun a w => ∃ (l1081 : List Int), yj1070 = l1081 ∧ Is Try.f82.ntmps a [(0, .slice A_data_0 l1081.length c_data_0), (1, .int .i64 a_1), (3, .int .i64 b_3), (4, .func (.func 48) #[] #[.pointer (some ⟨g_cmp_4_c0, 0, none⟩)]), (18, .int .i64 x877), (20, .int .i64 start_978), (24, .int .i64 x1064)] ∧ Hp S0 w0 w [.own A_data_0 c_data_0 (rowC (Eint .i64) l1081) 3 (Eint .i64).sz, .rd (some ⟨g_cmp_4_c0, 0, none⟩) [.slice A_cmp_4_c0_v cmp_4_c0_v.length c_cmp_4_c0_v], .rd A_cmp_4_c0_v (rowC (Eint .i64) cmp_4_c0_v)]) (fun Qj1070 hNj1070 hOj1070 => ?_) (fun a w hR => ?_)
              · skip
                have H := Hyj1070
                refine L_condP rfl (fun c1082 => ?_) (fun c1082 => ?_)
                · have H := of_pos H c1082
                  refine L_region ?_
                  refine F_val rfl rfl rfl (O_move rfl rfl) ?_
                  refine F_val rfl rfl rfl (O_move rfl rfl) ?_
                  refine F_val rfl rfl rfl (O_move rfl rfl) ?_
                  refine F_val rfl rfl rfl (O_move rfl rfl) ?_
                  refine F_val rfl rfl rfl (O_move rfl rfl) ?_
                  obtain ⟨z1087, h1086, H⟩ := of_bind H
                  refine F_call (xs := [.tmp 186, .tmp 187, .tmp 188, .tmp 189, .tmp 190]) rfl rfl rfl rfl Try.func88 nm88 rfl rfl ((slices_rotateCmpFunc_int_cbuild_Limited_1.calls (HS1063.give [0] rfl (Lent.rd HS1063 (Lent.rd HS1063 (Lent.nil) (i := 2) rfl ((HS1063.cells_rd (i := 2) rfl).self)) (i := 1) rfl (HS1063.cells_rd (i := 1) rfl).self)) hc_r_cmp_4_c0_v h1086).mono (fun e w hc => ?_))
                  obtain ⟨rfl, HSo, hl1090⟩ := hc
                  refine ⟨.tuple #[], rfl, ?_⟩
                  have HS1089 : Hp S0 w0 w [.own A_data_0 c_data_0 (rowC (Eint .i64) z1087) 3 (Eint .i64).sz, .rd (some ⟨g_cmp_4_c0, 0, none⟩) [.slice A_cmp_4_c0_v cmp_4_c0_v.length c_cmp_4_c0_v], .rd A_cmp_4_c0_v (rowC (Eint .i64) cmp_4_c0_v)] := (HS1063.back [0] HSo rfl).sel [3, 1, 2] rfl
                  have e1091 : l_data_0.length = z1087.length := hl1090.symm
                  refine F_know (i := 0) rfl (congrArg (fun n => Value.slice A_data_0 n c_data_0) e1091) ?_
                  refine F_nil ?_
                  refine L_nil (fun a ha => hNj1070 a _ ⟨_, (Option.some.inj H).symm, Is.cons ha (Is.cons ha (Is.cons ha (Is.cons ha (Is.cons ha (Is.cons ha (Is.cons ha (Is.nil ha) rfl) rfl) rfl) rfl) rfl) rfl) rfl, HS1089.sel [0, 1, 2] rfl⟩)
                · have H := of_neg H c1082
                  refine L_skip ?_
                  refine L_nil (fun a ha => hNj1070 a _ ⟨_, (Option.some.inj H).symm, Is.cons ha (Is.cons ha (Is.cons ha (Is.cons ha (Is.cons ha (Is.cons ha (Is.cons ha (Is.nil ha) rfl) rfl) rfl) rfl) rfl) rfl) rfl, HS1063.sel [0, 1, 2] rfl⟩)
              · obtain ⟨l1081, ej, ha, HS1093⟩ := hR
                obtain rfl := ej.symm
                refine wpLF_app ?_ ha
                refine L_seq ?_
                refine L_seq ?_
                refine L_region ?_
                refine F_val rfl rfl rfl (O_move rfl rfl) ?_
                refine F_val rfl rfl rfl (O_move rfl rfl) ?_
                refine F_val rfl rfl rfl (O_lt rfl rfl rfl) ?_
                refine F_val rfl rfl rfl (O_move rfl rfl) ?_
                refine F_grp 4 [(199, .bool (decide ((a_1 < start_978) ∧ (start_978 < x877)))), (0, .slice A_data_0 l1081.length c_data_0), (1, .int .i64 a_1), (3, .int .i64 b_3), (4, .func (.func 48) #[] #[.pointer (some ⟨g_cmp_4_c0, 0, none⟩)]), (18, .int .i64 x877), (20, .int .i64 start_978), (24, .int .i64 x1064)] ?_ ?_
                · rcases Decidable.em (a_1 < start_978) with c1097 | c1097
                  · refine F_know (i := 195) rfl (dec_t c1097) ?_
                    refine F_gval rfl rfl rfl rfl rfl rfl (O_move rfl rfl) ?_
                    refine F_gval rfl rfl rfl rfl rfl rfl (O_move rfl rfl) ?_
                    refine F_gval rfl rfl rfl rfl rfl rfl (O_lt rfl rfl rfl) ?_
                    refine F_val rfl rfl rfl (O_pickT rfl rfl rfl) ?_
                    refine F_know (i := 199) rfl (dec_and_t (q := start_978 < x877) c1097) ?_
                    exact F_grpE (fun a ha => Is.cons ha (Is.cons ha (Is.cons ha (Is.cons ha (Is.cons ha (Is.cons ha (Is.cons ha (Is.cons ha (Is.nil ha) rfl) rfl) rfl) rfl) rfl) rfl) rfl) rfl)
                  · refine F_know (i := 195) rfl (dec_f c1097) ?_
                    refine F_gskip rfl rfl rfl rfl rfl rfl rfl ?_
                    refine F_gskip rfl rfl rfl rfl rfl rfl rfl ?_
                    refine F_gskip rfl rfl rfl rfl rfl rfl rfl ?_
                    refine F_val rfl rfl rfl (O_pickF rfl rfl rfl) ?_
                    refine F_know (i := 199) rfl (dec_and_f (q := start_978 < x877) c1097) ?_
                    exact F_grpE (fun a ha => Is.cons ha (Is.cons ha (Is.cons ha (Is.cons ha (Is.cons ha (Is.cons ha (Is.cons ha (Is.cons ha (Is.nil ha) rfl) rfl) rfl) rfl) rfl) rfl) rfl) rfl)
                · skip
                  refine F_nil ?_
                  obtain ⟨yj1098, Hyj1098, H⟩ := of_bind H
                  refine L_join (fun a w => ∃ (l1109 : List Int), yj1098 = l1109 ∧ Is Try.f82.ntmps a [(0, .slice A_data_0 l1109.length c_data_0), (3, .int .i64 b_3), (4, .func (.func 48) #[] #[.pointer (some ⟨g_cmp_4_c0, 0, none⟩)]), (18, .int .i64 x877), (24, .int .i64 x1064)] ∧ Hp S0 w0 w [.own A_data_0 c_data_0 (rowC (Eint .i64) l1109) 3 (Eint .i64).sz, .rd (some ⟨g_cmp_4_c0, 0, none⟩) [.slice A_cmp_4_c0_v cmp_4_c0_v.length c_cmp_4_c0_v], .rd A_cmp_4_c0_v (rowC (Eint .i64) cmp_4_c0_v)]) (fun Qj1098 hNj1098 hOj1098 => ?_) (fun a w hR => ?_)
                  · skip
                    have H := Hyj1098
                    refine L_condP rfl (fun c1110 => ?_) (fun c1110 => ?_)
                    · have H := of_pos H c1110
                      refine L_region ?_
                      refine F_val rfl rfl rfl (O_move rfl rfl) ?_
                      refine F_val rfl rfl rfl (O_move rfl rfl) ?_
                      refine F_val rfl rfl rfl (O_move rfl rfl) ?_
                      refine F_val rfl rfl rfl (O_move rfl rfl) ?_
                      refine F_val rfl rfl rfl (O_move rfl rfl) ?_
                      obtain ⟨z1115, h1114, H⟩ := of_bind H
                      refine F_call (xs := [.tmp 200, .tmp 201, .tmp 202, .tmp 203, .tmp 204]) rfl rfl rfl rfl Try.func82 nm82 rfl rfl ((IH (HS1093.give [0] rfl (Lent.rd HS1093 (Lent.rd HS1093 (Lent.nil) (i := 2) rfl ((HS1093.cells_rd (i := 2) rfl).self)) (i := 1) rfl (HS1093.cells_rd (i := 1) rfl).self)) hc_r_cmp_4_c0_v h1114).mono (fun e w hc => ?_))
                      obtain ⟨rfl, HSo, hl1118⟩ := hc
                      refine ⟨.tuple #[], rfl, ?_⟩
                      have HS1117 : Hp S0 w0 w [.own A_data_0 c_data_0 (rowC (Eint .i64) z1115) 3 (Eint .i64).sz, .rd (some ⟨g_cmp_4_c0, 0, none⟩) [.slice A_cmp_4_c0_v cmp_4_c0_v.length c_cmp_4_c0_v], .rd A_cmp_4_c0_v (rowC (Eint .i64) cmp_4_c0_v)] := (HS1093.back [0] HSo rfl).sel [3, 1, 2] rfl
                      have e1119 : l1081.length = z1115.length := hl1118.symm
                      refine F_know (i := 0) rfl (congrArg (fun n => Value.slice A_data_0 n c_data_0) e1119) ?_
                      refine F_nil ?_
                      refine L_nil (fun a ha => hNj1098 a _ ⟨_, (Option.some.inj H).symm, Is.cons ha (Is.cons ha (Is.cons ha (Is.cons ha (Is.cons ha (Is.nil ha) rfl) rfl) rfl) rfl) rfl, HS1117.sel [0, 1, 2] rfl⟩)
                    · have H := of_neg H c1110
                      refine L_skip ?_
                      refine L_nil (fun a ha => hNj1098 a _ ⟨_, (Option.some.inj H).symm, Is.cons ha (Is.cons ha (Is.cons ha (Is.cons ha (Is.cons ha (Is.nil ha) rfl) rfl) rfl) rfl) rfl, HS1093.sel [0, 1, 2] rfl⟩)
                  · obtain ⟨l1109, ej, ha, HS1121⟩ := hR
                    obtain rfl := ej.symm
                    refine wpLF_app ?_ ha
                    refine L_seq ?_
                    refine L_region ?_
                    refine F_val rfl rfl rfl (O_move rfl rfl) ?_
                    refine F_val rfl rfl rfl (O_move rfl rfl) ?_
                    refine F_val rfl rfl rfl (O_lt rfl rfl rfl) ?_
                    refine F_val rfl rfl rfl (O_move rfl rfl) ?_
                    refine F_grp 4 [(213, .bool (decide ((x877 < x1064) ∧ (x1064 < b_3)))), (0, .slice A_data_0 l1109.length c_data_0), (3, .int .i64 b_3), (4, .func (.func 48) #[] #[.pointer (some ⟨g_cmp_4_c0, 0, none⟩)]), (18, .int .i64 x877), (24, .int .i64 x1064)] ?_ ?_
                    · rcases Decidable.em (x877 < x1064) with c1125 | c1125
                      · refine F_know (i := 209) rfl (dec_t c1125) ?_
                        refine F_gval rfl rfl rfl rfl rfl rfl (O_move rfl rfl) ?_
                        refine F_gval rfl rfl rfl rfl rfl rfl (O_move rfl rfl) ?_
                        refine F_gval rfl rfl rfl rfl rfl rfl (O_lt rfl rfl rfl) ?_
                        refine F_val rfl rfl rfl (O_pickT rfl rfl rfl) ?_
                        refine F_know (i := 213) rfl (dec_and_t (q := x1064 < b_3) c1125) ?_
                        exact F_grpE (fun a ha => Is.cons ha (Is.cons ha (Is.cons ha (Is.cons ha (Is.cons ha (Is.cons ha (Is.nil ha) rfl) rfl) rfl) rfl) rfl) rfl)
                      · refine F_know (i := 209) rfl (dec_f c1125) ?_
                        refine F_gskip rfl rfl rfl rfl rfl rfl rfl ?_
                        refine F_gskip rfl rfl rfl rfl rfl rfl rfl ?_
                        refine F_gskip rfl rfl rfl rfl rfl rfl rfl ?_
                        refine F_val rfl rfl rfl (O_pickF rfl rfl rfl) ?_
                        refine F_know (i := 213) rfl (dec_and_f (q := x1064 < b_3) c1125) ?_
                        exact F_grpE (fun a ha => Is.cons ha (Is.cons ha (Is.cons ha (Is.cons ha (Is.cons ha (Is.cons ha (Is.nil ha) rfl) rfl) rfl) rfl) rfl) rfl)
                    · skip
                      refine F_nil ?_
                      obtain ⟨yj1126, Hyj1126, H⟩ := of_bind H
                      refine L_join (fun a w => ∃ (l1137 : List Int), yj1126 = l1137 ∧ Is Try.f82.ntmps a [] ∧ Hp S0 w0 w [.own A_data_0 c_data_0 (rowC (Eint .i64) l1137) 3 (Eint .i64).sz, .rd (some ⟨g_cmp_4_c0, 0, none⟩) [.slice A_cmp_4_c0_v cmp_4_c0_v.length c_cmp_4_c0_v], .rd A_cmp_4_c0_v (rowC (Eint .i64) cmp_4_c0_v)]) (fun Qj1126 hNj1126 hOj1126 => ?_) (fun a w hR => ?_)
                      · skip
                        have H := Hyj1126
                        refine L_condP rfl (fun c1138 => ?_) (fun c1138 => ?_)
                        · have H := of_pos H c1138
                          refine L_region ?_
                          refine F_val rfl rfl rfl (O_move rfl rfl) ?_
                          refine F_val rfl rfl rfl (O_move rfl rfl) ?_
                          refine F_val rfl rfl rfl (O_move rfl rfl) ?_
                          refine F_val rfl rfl rfl (O_move rfl rfl) ?_
                          refine F_val rfl rfl rfl (O_move rfl rfl) ?_
                          obtain ⟨z1143, h1142, H⟩ := of_bind H
                          refine F_call (xs := [.tmp 214, .tmp 215, .tmp 216, .tmp 217, .tmp 218]) rfl rfl rfl rfl Try.func82 nm82 rfl rfl ((IH (HS1121.give [0] rfl (Lent.rd HS1121 (Lent.rd HS1121 (Lent.nil) (i := 2) rfl ((HS1121.cells_rd (i := 2) rfl).self)) (i := 1) rfl (HS1121.cells_rd (i := 1) rfl).self)) hc_r_cmp_4_c0_v h1142).mono (fun e w hc => ?_))
                          obtain ⟨rfl, HSo, hl1146⟩ := hc
                          refine ⟨.tuple #[], rfl, ?_⟩
                          have HS1145 : Hp S0 w0 w [.own A_data_0 c_data_0 (rowC (Eint .i64) z1143) 3 (Eint .i64).sz, .rd (some ⟨g_cmp_4_c0, 0, none⟩) [.slice A_cmp_4_c0_v cmp_4_c0_v.length c_cmp_4_c0_v], .rd A_cmp_4_c0_v (rowC (Eint .i64) cmp_4_c0_v)] := (HS1121.back [0] HSo rfl).sel [3, 1, 2] rfl
                          have e1147 : l1109.length = z1143.length := hl1146.symm
                          refine F_know (i := 0) rfl (congrArg (fun n => Value.slice A_data_0 n c_data_0) e1147) ?_
                          refine F_nil ?_
                          refine L_nil (fun a ha => hNj1126 a _ ⟨_, (Option.some.inj H).symm, Is.nil ha, HS1145.sel [0, 1, 2] rfl⟩)
                        · have H := of_neg H c1138
                          refine L_skip ?_
                          refine L_nil (fun a ha => hNj1126 a _ ⟨_, (Option.some.inj H).symm, Is.nil ha, HS1121.sel [0, 1, 2] rfl⟩)
                      · obtain ⟨l1137, ej, ha, HS1149⟩ := hR
                        obtain rfl := ej.symm
                        refine wpLF_app ?_ ha
                        obtain ⟨g1150, H⟩ := of_gd H
                        refine L_nil (fun a ha => (post_end0 ha rfl ?_))
                        obtain rfl := Option.some.inj H
                        exact ⟨rfl, HS1149.sel [0] rfl, g1150⟩

/-! function 69: slices.stableCmpFunc[int] -/
theorem slices_stableCmpFunc_int_cbuild_Limited_1.calls {S0 : Nat → Prop} {w0 : World} {A_data_0 : Option Addr} {c_data_0 : Nat} {g_cmp_2_c0 : Nat} {A_cmp_2_c0_v : Option Addr} {c_cmp_2_c0_v : Nat} {l_data_0 : List Int} {n_1 : Int} {cmp_2_c0_v : List Int} {r : List Int} (HS0 : Hp S0 w0 w0 [.own A_data_0 c_data_0 (rowC (Eint .i64) l_data_0) 3 (Eint .i64).sz, .rd (some ⟨g_cmp_2_c0, 0, none⟩) [.slice A_cmp_2_c0_v cmp_2_c0_v.length c_cmp_2_c0_v], .rd A_cmp_2_c0_v (rowC (Eint .i64) cmp_2_c0_v)]) (hc_r_cmp_2_c0_v : cmp_2_c0_v.length ≤ c_cmp_2_c0_v) (h : slices_stableCmpFunc_int_cbuild_Limited_1.f l_data_0 n_1 cmp_2_c0_v = some r) :
    Calls Try.prog 69 ([.slice A_data_0 l_data_0.length c_data_0, .int .i64 n_1, .func (.func 48) #[] #[.pointer (some ⟨g_cmp_2_c0, 0, none⟩)]] : List Value).toArray w0 (fun e w => e = .returned (.tuple #[]) ∧ Hp S0 w0 w [.own A_data_0 c_data_0 (rowC (Eint .i64) r) 3 (Eint .i64).sz] ∧ r.length = l_data_0.length) := by
  have H : (((slices_stableCmpFunc_int_cbuild_Limited_1.l1 FU l_data_0 0 20 n_1 cmp_2_c0_v).bind fun (l51, a_52) => (slices_insertionSortCmpFunc_int_cbuild_Limited_1.f l51 a_52 n_1 cmp_2_c0_v).bind fun z108 => (slices_stableCmpFunc_int_cbuild_Limited_1.l13 FU z108 20 n_1 cmp_2_c0_v).bind fun l527 => gd (l527.length = l_data_0.length) (some l527)) : Option (List Int)) = some r := h
  refine calls_start Try.func69 rfl rfl ?_
  refine L_seq ?_
  refine L_region ?_
  refine F_val rfl rfl rfl (O_assign rfl rfl) ?_
  refine F_nil ?_
  refine L_seq ?_
  refine L_region ?_
  refine F_val rfl rfl rfl (O_move rfl rfl) ?_
  refine F_val rfl rfl rfl (O_assign rfl rfl) ?_
  refine F_val rfl rfl rfl (O_assign rfl rfl) ?_
  refine F_nil ?_
  refine L_seq ?_
  obtain ⟨yj1, Hyj1, H⟩ := of_bind H
  refine L_join (fun a w => ∃ (l51 : List Int), ∃ (a_52 : Int), yj1 = (l51, a_52) ∧ Is Try.f69.ntmps a [(0, .slice A_data_0 l51.length c_data_0), (1, .int .i64 n_1), (2, .func (.func 48) #[] #[.pointer (some ⟨g_cmp_2_c0, 0, none⟩)]), (6, .int .i64 20), (7, .int .i64 a_52)] ∧ Hp S0 w0 w [.own A_data_0 c_data_0 (rowC (Eint .i64) l51) 3 (Eint .i64).sz, .rd (some ⟨g_cmp_2_c0, 0, none⟩) [.slice A_cmp_2_c0_v cmp_2_c0_v.length c_cmp_2_c0_v], .rd A_cmp_2_c0_v (rowC (Eint .i64) cmp_2_c0_v)]) (fun Qj1 hNj1 hOj1 => ?_) (fun a w hR => ?_)
  · skip
    have H := Hyj1
    refine L_blk (fun Qb53 hNb53 hXb53 hOb53 => ?_)
    refine L_lp (fun k a w => ∃ (l84 : List Int), ∃ (a_85 : Int), ∃ (b_86 : Int), Is Try.f69.ntmps a [(0, .slice A_data_0 l84.length c_data_0), (1, .int .i64 n_1), (2, .func (.func 48) #[] #[.pointer (some ⟨g_cmp_2_c0, 0, none⟩)]), (6, .int .i64 20), (7, .int .i64 a_85), (8, .int .i64 b_86)] ∧ Hp S0 w0 w [.own A_data_0 c_data_0 (rowC (Eint .i64) l84) 3 (Eint .i64).sz, .rd (some ⟨g_cmp_2_c0, 0, none⟩) [.slice A_cmp_2_c0_v cmp_2_c0_v.length c_cmp_2_c0_v], .rd A_cmp_2_c0_v (rowC (Eint .i64) cmp_2_c0_v)] ∧ slices_stableCmpFunc_int_cbuild_Limited_1.l1 k l84 a_85 b_86 n_1 cmp_2_c0_v = some yj1) FU (fun a ha => ⟨_, _, _, Is.cons ha (Is.cons ha (Is.cons ha (Is.cons ha (Is.cons ha (Is.cons ha (Is.nil ha) rfl) rfl) rfl) rfl) rfl) rfl, HS0.sel [0, 1, 2] rfl, H⟩) (fun kp83 a w87 hI Qp83 hNp83 hOp83 => ?_)
    obtain ⟨l84, a_85, b_86, ha, HS88, HAp83⟩ := hI
    cases kp83 with
    | zero => cases (show (none : Option _) = some _ from HAp83)
    | succ kp83 =>
      have H := (slices_stableCmpFunc_int_cbuild_Limited_1.l1.eq_2 ..).symm.trans HAp83
      refine wpLF_app ?_ ha
      refine L_seq ?_
      refine L_seq ?_
      refine L_region ?_
      refine F_val rfl rfl rfl (O_move rfl rfl) ?_
      refine F_val rfl rfl rfl (O_move rfl rfl) ?_
      refine F_val rfl rfl rfl (O_le rfl rfl rfl) ?_
      refine F_nil ?_
      refine L_condP rfl (fun c89 => ?_) (fun c89 => ?_)
      · have H := of_pos H c89
        refine L_skip ?_
        refine L_blk (fun Q90 hN90 hX90 hO90 => ?_)
        refine L_seq ?_
        refine L_region ?_
        refine F_val rfl rfl rfl (O_move rfl rfl) ?_
        refine F_val rfl rfl rfl (O_move rfl rfl) ?_
        refine F_val rfl rfl rfl (O_move rfl rfl) ?_
        refine F_val rfl rfl rfl (O_move rfl rfl) ?_
        obtain ⟨z95, h94, H⟩ := of_bind H
        refine F_call (xs := [.tmp 14, .tmp 15, .tmp 16, .tmp 17]) rfl rfl rfl rfl Try.func81 nm81 rfl rfl ((slices_insertionSortCmpFunc_int_cbuild_Limited_1.calls (HS88.give [0] rfl (Lent.rd HS88 (Lent.rd HS88 (Lent.nil) (i := 2) rfl ((HS88.cells_rd (i := 2) rfl).self)) (i := 1) rfl (HS88.cells_rd (i := 1) rfl).self)) hc_r_cmp_2_c0_v h94).mono (fun e w hc => ?_))
        obtain ⟨rfl, HSo, hl98⟩ := hc
        refine ⟨.tuple #[], rfl, ?_⟩
        have HS97 : Hp S0 w0 w [.own A_data_0 c_data_0 (rowC (Eint .i64) z95) 3 (Eint .i64).sz, .rd (some ⟨g_cmp_2_c0, 0, none⟩) [.slice A_cmp_2_c0_v cmp_2_c0_v.length c_cmp_2_c0_v], .rd A_cmp_2_c0_v (rowC (Eint .i64) cmp_2_c0_v)] := (HS88.back [0] HSo rfl).sel [3, 1, 2] rfl
        have e99 : l84.length = z95.length := hl98.symm
        refine F_know (i := 0) rfl (congrArg (fun n => Value.slice A_data_0 n c_data_0) e99) ?_
        refine F_nil ?_
        refine L_seq ?_
        refine L_region ?_
        refine F_val rfl rfl rfl (O_move rfl rfl) ?_
        refine F_val rfl rfl rfl (O_assign rfl rfl) ?_
        refine F_nil ?_
        refine L_region ?_
        refine F_val rfl rfl rfl (O_move rfl rfl) ?_
        refine F_val rfl rfl rfl (O_move rfl rfl) ?_
        refine F_val rfl rfl rfl (O_add rfl rfl rfl) ?_
        obtain ⟨x100, h101, H⟩ := of_bnd H
        refine F_val rfl rfl rfl (O_assign' rfl rfl (congrArg (Value.int .i64) h101)) ?_
        refine F_nil ?_
        refine L_endB hN90 ?_
        refine L_nil (fun a ha => hNp83 _ a _ (Nat.lt_succ_self _) ⟨_, _, _, Is.cons ha (Is.cons ha (Is.cons ha (Is.cons ha (Is.cons ha (Is.cons ha (Is.nil ha) rfl) rfl) rfl) rfl) rfl) rfl, HS97.sel [0, 1, 2] rfl, H⟩)
      · have H := of_neg H c89
        refine L_exitB (fun a w h => hOp83 (.exit 0) a w rfl (hXb53 a w h)) ?_
        refine L_nil (fun a ha => hNj1 a _ ⟨_, _, (Option.some.inj H).symm, Is.cons ha (Is.cons ha (Is.cons ha (Is.cons ha (Is.cons ha (Is.nil ha) rfl) rfl) rfl) rfl) rfl, HS88.sel [0, 1, 2] rfl⟩)
  · obtain ⟨l51, a_52, rfl, ha, HS103⟩ := hR
    refine wpLF_app ?_ ha
    refine L_seq ?_
    refine L_region ?_
    refine F_val rfl rfl rfl (O_move rfl rfl) ?_
    refine F_val rfl rfl rfl (O_move rfl rfl) ?_
    refine F_val rfl rfl rfl (O_move rfl rfl) ?_
    refine F_val rfl rfl rfl (O_move rfl rfl) ?_
    obtain ⟨z108, h107, H⟩ := of_bind H
    refine F_call (xs := [.tmp 23, .tmp 24, .tmp 25, .tmp 26]) rfl rfl rfl rfl Try.func81 nm81 rfl rfl ((slices_insertionSortCmpFunc_int_cbuild_Limited_1.calls (HS103.give [0] rfl (Lent.rd HS103 (Lent.rd HS103 (Lent.nil) (i := 2) rfl ((HS103.cells_rd (i := 2) rfl).self)) (i := 1) rfl (HS103.cells_rd (i := 1) rfl).self)) hc_r_cmp_2_c0_v h107).mono (fun e w hc => ?_))
    obtain ⟨rfl, HSo, hl111⟩ := hc
    refine ⟨.tuple #[], rfl, ?_⟩
    have HS110 : Hp S0 w0 w [.own A_data_0 c_data_0 (rowC (Eint .i64) z108) 3 (Eint .i64).sz, .rd (some ⟨g_cmp_2_c0, 0, none⟩) [.slice A_cmp_2_c0_v cmp_2_c0_v.length c_cmp_2_c0_v], .rd A_cmp_2_c0_v (rowC (Eint .i64) cmp_2_c0_v)] := (HS103.back [0] HSo rfl).sel [3, 1, 2] rfl
    have e112 : l51.length = z108.length := hl111.symm
    refine F_know (i := 0) rfl (congrArg (fun n => Value.slice A_data_0 n c_data_0) e112) ?_
    refine F_nil ?_
    obtain ⟨yj113, Hyj113, H⟩ := of_bind H
    refine L_join (fun a w => ∃ (l527 : List Int), yj113 = l527 ∧ Is Try.f69.ntmps a [] ∧ Hp S0 w0 w [.own A_data_0 c_data_0 (rowC (Eint .i64) l527) 3 (Eint .i64).sz, .rd (some ⟨g_cmp_2_c0, 0, none⟩) [.slice A_cmp_2_c0_v cmp_2_c0_v.length c_cmp_2_c0_v], .rd A_cmp_2_c0_v (rowC (Eint .i64) cmp_2_c0_v)]) (fun Qj113 hNj113 hOj113 => ?_) (fun a w hR => ?_)
    · skip
      have H := Hyj113
      refine L_blk (fun Qb528 hNb528 hXb528 hOb528 => ?_)
      refine L_lp (fun k a w => ∃ (l802 : List Int), ∃ (blockSize_803 : Int), Is Try.f69.ntmps a [(0, .slice A_data_0 l802.length c_data_0), (1, .int .i64 n_1), (2, .func (.func 48) #[] #[.pointer (some ⟨g_cmp_2_c0, 0, none⟩)]), (6, .int .i64 blockSize_803)] ∧ Hp S0 w0 w [.own A_data_0 c_data_0 (rowC (Eint .i64) l802) 3 (Eint .i64).sz, .rd (some ⟨g_cmp_2_c0, 0, none⟩) [.slice A_cmp_2_c0_v cmp_2_c0_v.length c_cmp_2_c0_v], .rd A_cmp_2_c0_v (rowC (Eint .i64) cmp_2_c0_v)] ∧ slices_stableCmpFunc_int_cbuild_Limited_1.l13 k l802 blockSize_803 n_1 cmp_2_c0_v = some yj113) FU (fun a ha => ⟨_, _, Is.cons ha (Is.cons ha (Is.cons ha (Is.cons ha (Is.nil ha) rfl) rfl) rfl) rfl, HS110.sel [0, 1, 2] rfl, H⟩) (fun kp801 a w804 hI Qp801 hNp801 hOp801 => ?_)
      obtain ⟨l802, blockSize_803, ha, HS805, HAp801⟩ := hI
      cases kp801 with
      | zero => cases (show (none : Option _) = some _ from HAp801)
      | succ kp801 =>
        have H := (slices_stableCmpFunc_int_cbuild_Limited_1.l13.eq_2 ..).symm.trans HAp801
        refine wpLF_app ?_ ha
        refine L_seq ?_
        refine L_seq ?_
        refine L_region ?_
        refine F_val rfl rfl rfl (O_move rfl rfl) ?_
        refine F_val rfl rfl rfl (O_move rfl rfl) ?_
        refine F_val rfl rfl rfl (O_lt rfl rfl rfl) ?_
        refine F_nil ?_
        refine L_condP rfl (fun c806 => ?_) (fun c806 => ?_)
        · have H := of_pos H c806
          refine L_skip ?_
          refine L_blk (fun Q807 hN807 hX807 hO807 => ?_)
          refine L_seq ?_
          refine L_region ?_
          refine F_val rfl rfl rfl (O_move rfl rfl) ?_
          refine F_val rfl rfl rfl (O_mul rfl rfl rfl) ?_
          refine F_val rfl rfl rfl (O_assign rfl rfl) ?_
          obtain ⟨x808, h809, H⟩ := of_bnd H
          refine F_val rfl rfl rfl (O_assign' rfl rfl (congrArg (Value.int .i64) h809)) ?_
          refine F_nil ?_
          refine L_seq ?_
          obtain ⟨yj810, Hyj810, H⟩ := of_bind H
          refine L_join (fun a w => ∃ (l860 : List Int), ∃ (a_861 : Int), yj810 = (l860, a_861) ∧ Is Try.f69.ntmps a [(0, .slice A_data_0 l860.length c_data_0), (1, .int .i64 n_1), (2, .func (.func 48) #[] #[.pointer (some ⟨g_cmp_2_c0, 0, none⟩)]), (6, .int .i64 blockSize_803), (7, .int .i64 a_861)] ∧ Hp S0 w0 w [.own A_data_0 c_data_0 (rowC (Eint .i64) l860) 3 (Eint .i64).sz, .rd (some ⟨g_cmp_2_c0, 0, none⟩) [.slice A_cmp_2_c0_v cmp_2_c0_v.length c_cmp_2_c0_v], .rd A_cmp_2_c0_v (rowC (Eint .i64) cmp_2_c0_v)]) (fun Qj810 hNj810 hOj810 => ?_) (fun a w hR => ?_)
          · skip
            have H := Hyj810
            refine L_blk (fun Qb862 hNb862 hXb862 hOb862 => ?_)
            refine L_lp (fun k a w => ∃ (l893 : List Int), ∃ (a_894 : Int), ∃ (b_895 : Int), Is Try.f69.ntmps a [(0, .slice A_data_0 l893.length c_data_0), (1, .int .i64 n_1), (2, .func (.func 48) #[] #[.pointer (some ⟨g_cmp_2_c0, 0, none⟩)]), (6, .int .i64 blockSize_803), (7, .int .i64 a_894), (8, .int .i64 b_895)] ∧ Hp S0 w0 w [.own A_data_0 c_data_0 (rowC (Eint .i64) l893) 3 (Eint .i64).sz, .rd (some ⟨g_cmp_2_c0, 0, none⟩) [.slice A_cmp_2_c0_v cmp_2_c0_v.length c_cmp_2_c0_v], .rd A_cmp_2_c0_v (rowC (Eint .i64) cmp_2_c0_v)] ∧ slices_stableCmpFunc_int_cbuild_Limited_1.l15 k l893 a_894 b_895 n_1 cmp_2_c0_v blockSize_803 = some yj810) FU (fun a ha => ⟨_, _, _, Is.cons ha (Is.cons ha (Is.cons ha (Is.cons ha (Is.cons ha (Is.cons ha (Is.nil ha) rfl) rfl) rfl) rfl) rfl) rfl, HS805.sel [0, 1, 2] rfl, H⟩) (fun kp892 a w896 hI Qp892 hNp892 hOp892 => ?_)
            obtain ⟨l893, a_894, b_895, ha, HS897, HAp892⟩ := hI
            cases kp892 with
            | zero => cases (show (none : Option _) = some _ from HAp892)
            | succ kp892 =>
              have H := (slices_stableCmpFunc_int_cbuild_Limited_1.l15.eq_2 ..).symm.trans HAp892
              refine wpLF_app ?_ ha
              refine L_seq ?_
              refine L_seq ?_
              refine L_region ?_
              refine F_val rfl rfl rfl (O_move rfl rfl) ?_
              refine F_val rfl rfl rfl (O_move rfl rfl) ?_
              refine F_val rfl rfl rfl (O_le rfl rfl rfl) ?_
              refine F_nil ?_
              refine L_condP rfl (fun c898 => ?_) (fun c898 => ?_)
              · have H := of_pos H c898
                refine L_skip ?_
                refine L_blk (fun Q899 hN899 hX899 hO899 => ?_)
                refine L_seq ?_
                refine L_region ?_
                refine F_val rfl rfl rfl (O_move rfl rfl) ?_
                refine F_val rfl rfl rfl (O_move rfl rfl) ?_
                refine F_val rfl rfl rfl (O_move rfl rfl) ?_
                refine F_val rfl rfl rfl (O_move rfl rfl) ?_
                refine F_val rfl rfl rfl (O_add rfl rfl rfl) ?_
                refine F_val rfl rfl rfl (O_move rfl rfl) ?_
                refine F_val rfl rfl rfl (O_move rfl rfl) ?_
                obtain ⟨z904, h903, H⟩ := of_bind H
                refine F_call (xs := [.tmp 36, .tmp 37, .tmp 40, .tmp 41, .tmp 42]) rfl rfl rfl rfl Try.func82 nm82 rfl rfl ((slices_symMergeCmpFunc_int_cbuild_Limited_1.calls FU (HS897.give [0] rfl (Lent.rd HS897 (Lent.rd HS897 (Lent.nil) (i := 2) rfl ((HS897.cells_rd (i := 2) rfl).self)) (i := 1) rfl (HS897.cells_rd (i := 1) rfl).self)) hc_r_cmp_2_c0_v h903).mono (fun e w hc => ?_))
                obtain ⟨rfl, HSo, hl907⟩ := hc
                refine ⟨.tuple #[], rfl, ?_⟩
                have HS906 : Hp S0 w0 w [.own A_data_0 c_data_0 (rowC (Eint .i64) z904) 3 (Eint .i64).sz, .rd (some ⟨g_cmp_2_c0, 0, none⟩) [.slice A_cmp_2_c0_v cmp_2_c0_v.length c_cmp_2_c0_v], .rd A_cmp_2_c0_v (rowC (Eint .i64) cmp_2_c0_v)] := (HS897.back [0] HSo rfl).sel [3, 1, 2] rfl
                have e908 : l893.length = z904.length := hl907.symm
                refine F_know (i := 0) rfl (congrArg (fun n => Value.slice A_data_0 n c_data_0) e908) ?_
                refine F_nil ?_
                refine L_seq ?_
                refine L_region ?_
                refine F_val rfl rfl rfl (O_move rfl rfl) ?_
                refine F_val rfl rfl rfl (O_assign rfl rfl) ?_
                refine F_nil ?_
                refine L_region ?_
                refine F_val rfl rfl rfl (O_move rfl rfl) ?_
                refine F_val rfl rfl rfl (O_move rfl rfl) ?_
                refine F_val rfl rfl rfl (O_mul rfl rfl rfl) ?_
                refine F_val rfl rfl rfl (O_add rfl rfl rfl) ?_
                obtain ⟨x909, h910, H⟩ := of_bnd H
                refine F_val rfl rfl rfl (O_assign' rfl rfl (congrArg (Value.int .i64) h910)) ?_
                refine F_nil ?_
                refine L_endB hN899 ?_
                refine L_nil (fun a ha => hNp892 _ a _ (Nat.lt_succ_self _) ⟨_, _, _, Is.cons ha (Is.cons ha (Is.cons ha (Is.cons ha (Is.cons ha (Is.cons ha (Is.nil ha) rfl) rfl) rfl) rfl) rfl) rfl, HS906.sel [0, 1, 2] rfl, H⟩)
              · have H := of_neg H c898
                refine L_exitB (fun a w h => hOp892 (.exit 4) a w rfl (hXb862 a w h)) ?_
                refine L_nil (fun a ha => hNj810 a _ ⟨_, _, (Option.some.inj H).symm, Is.cons ha (Is.cons ha (Is.cons ha (Is.cons ha (Is.cons ha (Is.nil ha) rfl) rfl) rfl) rfl) rfl, HS897.sel [0, 1, 2] rfl⟩)
          · obtain ⟨l860, a_861, rfl, ha, HS912⟩ := hR
            refine wpLF_app ?_ ha
            refine L_seq ?_
            refine L_seq ?_
            refine L_region ?_
            refine F_val rfl rfl rfl (O_move rfl rfl) ?_
            refine F_val rfl rfl rfl (O_move rfl rfl) ?_
            refine F_val rfl rfl rfl (O_add rfl rfl rfl) ?_
            obtain ⟨x913, h914, H⟩ := of_bnd H
            refine F_val rfl rfl rfl (O_assign' rfl rfl (congrArg (Value.int .i64) h914)) ?_
            refine F_nil ?_
            refine L_seq ?_
            refine L_region ?_
            refine F_val rfl rfl rfl (O_move rfl rfl) ?_
            refine F_val rfl rfl rfl (O_move rfl rfl) ?_
            refine F_val rfl rfl rfl (O_lt rfl rfl rfl) ?_
            refine F_nil ?_
            obtain ⟨yj915, Hyj915, H⟩ := of_bind H
            refine L_join (fun a w => ∃ (l926 : List Int), yj915 = l926 ∧ Is Try.f69.ntmps a [(0, .slice A_data_0 l926.length c_data_0), (1, .int .i64 n_1), (2, .func (.func 48) #[] #[.pointer (some ⟨g_cmp_2_c0, 0, none⟩)]), (6, .int .i64 blockSize_803)] ∧ Hp S0 w0 w [.own A_data_0 c_data_0 (rowC (Eint .i64) l926) 3 (Eint .i64).sz, .rd (some ⟨g_cmp_2_c0, 0, none⟩) [.slice A_cmp_2_c0_v cmp_2_c0_v.length c_cmp_2_c0_v], .rd A_cmp_2_c0_v (rowC (Eint .i64) cmp_2_c0_v)]) (fun Qj915 hNj915 hOj915 => ?_) (fun a w hR => ?_)
            · skip
              have H := Hyj915
              refine L_condP rfl (fun c927 => ?_) (fun c927 => ?_)
              · have H := of_pos H c927
                refine L_region ?_
                refine F_val rfl rfl rfl (O_move rfl rfl) ?_
                refine F_val rfl rfl rfl (O_move rfl rfl) ?_
                refine F_val rfl rfl rfl (O_move rfl rfl) ?_
                refine F_val rfl rfl rfl (O_move rfl rfl) ?_
                refine F_val rfl rfl rfl (O_move rfl rfl) ?_
                obtain ⟨z932, h931, H⟩ := of_bind H
                refine F_call (xs := [.tmp 55, .tmp 56, .tmp 57, .tmp 58, .tmp 59]) rfl rfl rfl rfl Try.func82 nm82 rfl rfl ((slices_symMergeCmpFunc_int_cbuild_Limited_1.calls FU (HS912.give [0] rfl (Lent.rd HS912 (Lent.rd HS912 (Lent.nil) (i := 2) rfl ((HS912.cells_rd (i := 2) rfl).self)) (i := 1) rfl (HS912.cells_rd (i := 1) rfl).self)) hc_r_cmp_2_c0_v h931).mono (fun e w hc => ?_))
                obtain ⟨rfl, HSo, hl935⟩ := hc
                refine ⟨.tuple #[], rfl, ?_⟩
                have HS934 : Hp S0 w0 w [.own A_data_0 c_data_0 (rowC (Eint .i64) z932) 3 (Eint .i64).sz, .rd (some ⟨g_cmp_2_c0, 0, none⟩) [.slice A_cmp_2_c0_v cmp_2_c0_v.length c_cmp_2_c0_v], .rd A_cmp_2_c0_v (rowC (Eint .i64) cmp_2_c0_v)] := (HS912.back [0] HSo rfl).sel [3, 1, 2] rfl
                have e936 : l860.length = z932.length := hl935.symm
                refine F_know (i := 0) rfl (congrArg (fun n => Value.slice A_data_0 n c_data_0) e936) ?_
                refine F_nil ?_
                refine L_nil (fun a ha => hNj915 a _ ⟨_, (Option.some.inj H).symm, Is.cons ha (Is.cons ha (Is.cons ha (Is.cons ha (Is.nil ha) rfl) rfl) rfl) rfl, HS934.sel [0, 1, 2] rfl⟩)
              · have H := of_neg H c927
                refine L_skip ?_
                refine L_nil (fun a ha => hNj915 a _ ⟨_, (Option.some.inj H).symm, Is.cons ha (Is.cons ha (Is.cons ha (Is.cons ha (Is.nil ha) rfl) rfl) rfl) rfl, HS912.sel [0, 1, 2] rfl⟩)
            · obtain ⟨l926, ej, ha, HS938⟩ := hR
              obtain rfl := ej.symm
              refine wpLF_app ?_ ha
              refine L_region ?_
              refine F_val rfl rfl rfl (O_move rfl rfl) ?_
              refine F_val rfl rfl rfl (O_mul rfl rfl rfl) ?_
              obtain ⟨x939, h940, H⟩ := of_bnd H
              refine F_val rfl rfl rfl (O_assign' rfl rfl (congrArg (Value.int .i64) h940)) ?_
              refine F_nil ?_
              refine L_endB hN807 ?_
              refine L_nil (fun a ha => hNp801 _ a _ (Nat.lt_succ_self _) ⟨_, _, Is.cons ha (Is.cons ha (Is.cons ha (Is.cons ha (Is.nil ha) rfl) rfl) rfl) rfl, HS938.sel [0, 1, 2] rfl, H⟩)
        · have H := of_neg H c806
          refine L_exitB (fun a w h => hOp801 (.exit 2) a w rfl (hXb528 a w h)) ?_
          refine L_nil (fun a ha => hNj113 a _ ⟨_, (Option.some.inj H).symm, Is.nil ha, HS805.sel [0, 1, 2] rfl⟩)
    · obtain ⟨l527, ej, ha, HS942⟩ := hR
      obtain rfl := ej.symm
      refine wpLF_app ?_ ha
      obtain ⟨g943, H⟩ := of_gd H
      refine L_nil (fun a ha => (post_end0 ha rfl ?_))
      obtain rfl := Option.some.inj H
      exact ⟨rfl, HS942.sel [0] rfl, g943⟩

/-! function 47: slices.SortStableFunc[[]int,int] -/
theorem slices_SortStableFunc_int_int_cbuild_Limited_1.calls {S0 : Nat → Prop} {w0 : World} {A_x_0 : Option Addr} {c_x_0 : Nat} {g_cmp_1_c0 : Nat} {A_cmp_1_c0_v : Option Addr} {c_cmp_1_c0_v : Nat} {l_x_0 : List Int} {cmp_1_c0_v : List Int} {r : List Int} (HS0 : Hp S0 w0 w0 [.own A_x_0 c_x_0 (rowC (Eint .i64) l_x_0) 3 (Eint .i64).sz, .rd (some ⟨g_cmp_1_c0, 0, none⟩) [.slice A_cmp_1_c0_v cmp_1_c0_v.length c_cmp_1_c0_v], .rd A_cmp_1_c0_v (rowC (Eint .i64) cmp_1_c0_v)]) (hc_r_cmp_1_c0_v : cmp_1_c0_v.length ≤ c_cmp_1_c0_v) (h : slices_SortStableFunc_int_int_cbuild_Limited_1.f l_x_0 cmp_1_c0_v = some r) :
    Calls Try.prog 47 ([.slice A_x_0 l_x_0.length c_x_0, .func (.func 48) #[] #[.pointer (some ⟨g_cmp_1_c0, 0, none⟩)]] : List Value).toArray w0 (fun e w => e = .returned (.tuple #[]) ∧ Hp S0 w0 w [.own A_x_0 c_x_0 (rowC (Eint .i64) r) 3 (Eint .i64).sz] ∧ r.length = l_x_0.length) := by
  have H : (((slices_stableCmpFunc_int_cbuild_Limited_1.f l_x_0 (l_x_0.length : Int) cmp_1_c0_v).bind fun z5 => gd (z5.length = l_x_0.length) (some z5)) : Option (List Int)) = some r := h
  refine calls_start Try.func47 rfl rfl ?_
  refine L_region ?_
  refine F_val rfl rfl rfl (O_move rfl rfl) ?_
  refine F_val rfl rfl rfl (O_move rfl rfl) ?_
  refine F_val rfl rfl rfl (O_len rfl rfl Try.underlying22) ?_
  refine F_val rfl rfl rfl (O_move rfl rfl) ?_
  obtain ⟨z5, h4, H⟩ := of_bind H
  refine F_call (xs := [.tmp 4, .tmp 6, .tmp 7]) rfl rfl rfl rfl Try.func69 nm69 rfl rfl ((slices_stableCmpFunc_int_cbuild_Limited_1.calls (HS0.give [0] rfl (Lent.rd HS0 (Lent.rd HS0 (Lent.nil) (i := 2) rfl ((HS0.cells_rd (i := 2) rfl).self)) (i := 1) rfl (HS0.cells_rd (i := 1) rfl).self)) hc_r_cmp_1_c0_v h4).mono (fun e w hc => ?_))
  obtain ⟨rfl, HSo, hl8⟩ := hc
  refine ⟨.tuple #[], rfl, ?_⟩
  have HS7 : Hp S0 w0 w [.own A_x_0 c_x_0 (rowC (Eint .i64) z5) 3 (Eint .i64).sz, .rd (some ⟨g_cmp_1_c0, 0, none⟩) [.slice A_cmp_1_c0_v cmp_1_c0_v.length c_cmp_1_c0_v], .rd A_cmp_1_c0_v (rowC (Eint .i64) cmp_1_c0_v)] := (HS0.back [0] HSo rfl).sel [3, 1, 2] rfl
  have e9 : l_x_0.length = z5.length := hl8.symm
  refine F_know (i := 0) rfl (congrArg (fun n => Value.slice A_x_0 n c_x_0) e9) ?_
  refine F_nil ?_
  obtain ⟨g10, H⟩ := of_gd H
  refine L_nil (fun a ha => (post_end0 ha rfl ?_))
  obtain rfl := Option.some.inj H
  exact ⟨rfl, HS7.sel [0] rfl, g10⟩

/-! function 51: valise/build.packages -/
theorem build_packages.calls {S0 : Nat → Prop} {w0 : World} {A_row_0 : Option Addr} {c_row_0 : Nat} {ds_row_0 : List DC} {B_row_0 : Nat → Prop} {l_row_0 : List Co} {r : List Co} (HS0 : Hp S0 w0 w0 [.rd A_row_0 (rowC E_coin ds_row_0), Dz D_coin anyB 0 B_row_0 ds_row_0 l_row_0]) (hc_row_0 : l_row_0.length ≤ c_row_0) (h : build_packages.f l_row_0 = some r) :
    Calls Try.prog 51 ([.slice A_row_0 l_row_0.length c_row_0] : List Value).toArray w0 (fun e w => ∃ (A1 : Option Addr), ∃ (c1 : Nat), ∃ (ds1 : List DC), ∃ (B1 : Nat → Prop), e = .returned (.slice A1 r.length c1) ∧ Hp S0 w0 w [.own A1 c1 (rowC E_coin ds1) 69 E_coin.sz, Dz D_coin (orB S0 B_row_0) w0.heap.size B1 ds1 r]) := by
  have H : (((build_packages.l1 FU ([] : List Co) 0 l_row_0).bind fun l254 => some l254) : Option (List Co)) = some r := h
  refine calls_start Try.func51 rfl rfl ?_
  have hSF : ∀ b, S0 b → (orB S0 B_row_0) b ∨ w0.heap.size ≤ b := (fun b hb => .inl (.inl hb))
  have HS1 : Hp S0 w0 w0 [.rd A_row_0 (rowC E_coin ds_row_0), Dz D_coin (orB S0 B_row_0) w0.heap.size B_row_0 ds_row_0 l_row_0] := HS0.dzProv (i := 1) rfl (fun b _ hb => .inl (.inr hb))
  refine L_seq ?_
  refine L_region ?_
  refine F_val rfl rfl rfl (O_assign rfl rfl) ?_
  refine F_nil ?_
  refine L_seq ?_
  refine L_region ?_
  refine F_val rfl rfl rfl (O_assign rfl rfl) ?_
  have HS2 := (HS1.addNil 69 E_coin.sz).dzNil D_coin (orB S0 B_row_0) w0.heap.size
  have HS2 : Hp S0 w0 w0 [.rd A_row_0 (rowC E_coin ds_row_0), Dz D_coin (orB S0 B_row_0) w0.heap.size B_row_0 ds_row_0 l_row_0, .own none 0 (rowC E_coin ([] : List DC)) 69 E_coin.sz, Dz D_coin (orB S0 B_row_0) w0.heap.size NoB ([] : List DC) ([] : List Co)] := HS2
  refine F_nil ?_
  refine L_seq ?_
  refine L_seq ?_
  refine L_region ?_
  refine F_val rfl rfl rfl (O_assign rfl rfl) ?_
  refine F_nil ?_
  obtain ⟨yj5, Hyj5, H⟩ := of_bind H
  refine L_join (fun a w => ∃ (l254 : List Co), ∃ (A250 : Option Addr), ∃ (c251 : Nat), ∃ (ds252 : List DC), ∃ (B253 : Nat → Prop), yj5 = l254 ∧ Is Try.f51.ntmps a [(3, .slice A250 l254.length c251)] ∧ Hp S0 w0 w [.rd A_row_0 (rowC E_coin ds_row_0), Dz D_coin (orB S0 B_row_0) w0.heap.size B_row_0 ds_row_0 l_row_0, .own A250 c251 (rowC E_coin ds252) 69 E_coin.sz, Dz D_coin (orB S0 B_row_0) w0.heap.size B253 ds252 l254]) (fun Qj5 hNj5 hOj5 => ?_) (fun a w hR => ?_)
  · skip
    have H := Hyj5
    refine L_blk (fun Qb255 hNb255 hXb255 hOb255 => ?_)
    refine L_lp (fun k a w => ∃ (l419 : List Co), ∃ (i_420 : Int), ∃ (A415 : Option Addr), ∃ (c416 : Nat), ∃ (ds417 : List DC), ∃ (B418 : Nat → Prop), Is Try.f51.ntmps a [(0, .slice A_row_0 l_row_0.length c_row_0), (3, .slice A415 l419.length c416), (4, .int .i64 i_420)] ∧ Hp S0 w0 w [.rd A_row_0 (rowC E_coin ds_row_0), Dz D_coin (orB S0 B_row_0) w0.heap.size B_row_0 ds_row_0 l_row_0, .own A415 c416 (rowC E_coin ds417) 69 E_coin.sz, Dz D_coin (orB S0 B_row_0) w0.heap.size B418 ds417 l419] ∧ build_packages.l1 k l419 i_420 l_row_0 = some yj5) FU (fun a ha => ⟨_, _, _, _, _, _, Is.cons ha (Is.cons ha (Is.cons ha (Is.nil ha) rfl) rfl) rfl, HS2.sel [0, 1, 2, 3] rfl, H⟩) (fun kp414 a w421 hI Qp414 hNp414 hOp414 => ?_)
    obtain ⟨l419, i_420, A415, c416, ds417, B418, ha, HS422, HAp414⟩ := hI
    cases kp414 with
    | zero => cases (show (none : Option _) = some _ from HAp414)
    | succ kp414 =>
      have H := (build_packages.l1.eq_2 ..).symm.trans HAp414
      refine wpLF_app ?_ ha
      refine L_seq ?_
      refine L_seq ?_
      refine L_region ?_
      refine F_val rfl rfl rfl (O_move rfl rfl) ?_
      refine F_val rfl rfl rfl (O_add rfl rfl rfl) ?_
      refine F_val rfl rfl rfl (O_move rfl rfl) ?_
      refine F_val rfl rfl rfl (O_len rfl rfl Try.underlying66) ?_
      refine F_val rfl rfl rfl (O_lt rfl rfl rfl) ?_
      refine F_nil ?_
      refine L_condP rfl (fun c423 => ?_) (fun c423 => ?_)
      · have H := of_pos H c423
        refine L_skip ?_
        refine L_seq ?_
        refine L_blk (fun Q424 hN424 hX424 hO424 => ?_)
        obtain ⟨⟨g425, g426⟩, H⟩ := of_gd H
        have HS428 : Hp S0 w0 w421 [.rd A_row_0 (rowC E_coin ds_row_0), Dz D_coin (orB S0 B_row_0) w0.heap.size B_row_0 ds_row_0 l_row_0, .own A415 c416 (rowC E_coin ds417) 69 E_coin.sz, Dz D_coin (orB S0 B_row_0) w0.heap.size B418 ds417 l419, Dz D_coin (orB S0 B_row_0) w0.heap.size B_row_0 [(rdx E_coin ds_row_0 i_420)] [(rdp (Co.leaf 0 0) l_row_0 i_420)]] := HS422.dzOne (i := 1) rfl dz_self (HS422.dze (i := 1) rfl) g425 g426
        obtain ⟨⟨g429, g430⟩, H⟩ := of_gd H
        have HS432 : Hp S0 w0 w421 [.rd A_row_0 (rowC E_coin ds_row_0), Dz D_coin (orB S0 B_row_0) w0.heap.size B_row_0 ds_row_0 l_row_0, .own A415 c416 (rowC E_coin ds417) 69 E_coin.sz, Dz D_coin (orB S0 B_row_0) w0.heap.size B418 ds417 l419, Dz D_coin (orB S0 B_row_0) w0.heap.size B_row_0 [(rdx E_coin ds_row_0 i_420)] [(rdp (Co.leaf 0 0) l_row_0 i_420)], Dz D_coin (orB S0 B_row_0) w0.heap.size B_row_0 [(rdx E_coin ds_row_0 (IntKind.i64.wrap (i_420 + 1)))] [(rdp (Co.leaf 0 0) l_row_0 (IntKind.i64.wrap (i_420 + 1)))]] := HS428.dzOne (i := 1) rfl dz_self (HS428.dze (i := 1) rfl) g429 g430
        refine L_heldS 28 0 [] mix rfl (fun w460 hw461 => ?_)
        have HS462 := HS432.keep hw461
        refine ⟨HS462.turns [2], ?_⟩
        have HR463 : Hp (HS462.ft [2]) w460 w460 [.own A415 c416 (rowC E_coin ds417) 69 E_coin.sz, .rd A_row_0 (rowC E_coin ds_row_0), Dz D_coin anyB 0 B_row_0 ds_row_0 l_row_0, Dz D_coin anyB 0 B418 ds417 l419, Dz D_coin anyB 0 B_row_0 [(rdx E_coin ds_row_0 i_420)] [(rdp (Co.leaf 0 0) l_row_0 i_420)], Dz D_coin anyB 0 B_row_0 [(rdx E_coin ds_row_0 (IntKind.i64.wrap (i_420 + 1)))] [(rdp (Co.leaf 0 0) l_row_0 (IntKind.i64.wrap (i_420 + 1)))]] := HS462.give [2] rfl (Lent.rd HS462 (Lent.dz HS462 (Lent.dz HS462 (Lent.dz HS462 (Lent.dz HS462 (Lent.nil) (i := 5) rfl dz_self (HS462.dze (i := 5) rfl)) (i := 4) rfl dz_self (HS462.dze (i := 4) rfl)) (i := 3) rfl dz_self (HS462.dze (i := 3) rfl)) (i := 1) rfl dz_self (HS462.dze (i := 1) rfl)) (i := 0) rfl (HS462.cells_rd (i := 0) rfl).self)
        have hSF464 : ∀ b, HS462.ft [2] b → (orB (orB (orB (orB (HS462.ft [2]) B_row_0) B418) B_row_0) B_row_0) b ∨ w460.heap.size ≤ b := fun b hb => .inl (.inl (.inl (.inl (.inl hb))))
        have HS465 : Hp (HS462.ft [2]) w460 w460 [.own A415 c416 (rowC E_coin ds417) 69 E_coin.sz, .rd A_row_0 (rowC E_coin ds_row_0), Dz D_coin (orB (orB (orB (orB (HS462.ft [2]) B_row_0) B418) B_row_0) B_row_0) w460.heap.size B_row_0 ds_row_0 l_row_0, Dz D_coin anyB 0 B418 ds417 l419, Dz D_coin anyB 0 B_row_0 [(rdx E_coin ds_row_0 i_420)] [(rdp (Co.leaf 0 0) l_row_0 i_420)], Dz D_coin anyB 0 B_row_0 [(rdx E_coin ds_row_0 (IntKind.i64.wrap (i_420 + 1)))] [(rdp (Co.leaf 0 0) l_row_0 (IntKind.i64.wrap (i_420 + 1)))]] := HR463.dzProv (i := 2) rfl (fun b _ hb => .inl (.inl (.inl (.inl (.inr hb)))))
        have HS466 : Hp (HS462.ft [2]) w460 w460 [.own A415 c416 (rowC E_coin ds417) 69 E_coin.sz, .rd A_row_0 (rowC E_coin ds_row_0), Dz D_coin (orB (orB (orB (orB (HS462.ft [2]) B_row_0) B418) B_row_0) B_row_0) w460.heap.size B_row_0 ds_row_0 l_row_0, Dz D_coin (orB (orB (orB (orB (HS462.ft [2]) B_row_0) B418) B_row_0) B_row_0) w460.heap.size B418 ds417 l419, Dz D_coin anyB 0 B_row_0 [(rdx E_coin ds_row_0 i_420)] [(rdp (Co.leaf 0 0) l_row_0 i_420)], Dz D_coin anyB 0 B_row_0 [(rdx E_coin ds_row_0 (IntKind.i64.wrap (i_420 + 1)))] [(rdp (Co.leaf 0 0) l_row_0 (IntKind.i64.wrap (i_420 + 1)))]] := HS465.dzProv (i := 3) rfl (fun b _ hb => .inl (.inl (.inl (.inr hb))))
        have HS467 : Hp (HS462.ft [2]) w460 w460 [.own A415 c416 (rowC E_coin ds417) 69 E_coin.sz, .rd A_row_0 (rowC E_coin ds_row_0), Dz D_coin (orB (orB (orB (orB (HS462.ft [2]) B_row_0) B418) B_row_0) B_row_0) w460.heap.size B_row_0 ds_row_0 l_row_0, Dz D_coin (orB (orB (orB (orB (HS462.ft [2]) B_row_0) B418) B_row_0) B_row_0) w460.heap.size B418 ds417 l419, Dz D_coin (orB (orB (orB (orB (HS462.ft [2]) B_row_0) B418) B_row_0) B_row_0) w460.heap.size B_row_0 [(rdx E_coin ds_row_0 i_420)] [(rdp (Co.leaf 0 0) l_row_0 i_420)], Dz D_coin anyB 0 B_row_0 [(rdx E_coin ds_row_0 (IntKind.i64.wrap (i_420 + 1)))] [(rdp (Co.leaf 0 0) l_row_0 (IntKind.i64.wrap (i_420 + 1)))]] := HS466.dzProv (i := 4) rfl (fun b _ hb => .inl (.inl (.inr hb)))
        have HS468 : Hp (HS462.ft [2]) w460 w460 [.own A415 c416 (rowC E_coin ds417) 69 E_coin.sz, .rd A_row_0 (rowC E_coin ds_row_0), Dz D_coin (orB (orB (orB (orB (HS462.ft [2]) B_row_0) B418) B_row_0) B_row_0) w460.heap.size B_row_0 ds_row_0 l_row_0, Dz D_coin (orB (orB (orB (orB (HS462.ft [2]) B_row_0) B418) B_row_0) B_row_0) w460.heap.size B418 ds417 l419, Dz D_coin (orB (orB (orB (orB (HS462.ft [2]) B_row_0) B418) B_row_0) B_row_0) w460.heap.size B_row_0 [(rdx E_coin ds_row_0 i_420)] [(rdp (Co.leaf 0 0) l_row_0 i_420)], Dz D_coin (orB (orB (orB (orB (HS462.ft [2]) B_row_0) B418) B_row_0) B_row_0) w460.heap.size B_row_0 [(rdx E_coin ds_row_0 (IntKind.i64.wrap (i_420 + 1)))] [(rdp (Co.leaf 0 0) l_row_0 (IntKind.i64.wrap (i_420 + 1)))]] := HS467.dzProv (i := 5) rfl (fun b _ hb => .inl (.inr hb))
        refine H_val (i := 0) rfl (by kernel_rfl) (by kernel_rfl) (by kernel_rfl) (by kernel_rfl) rfl rfl rfl HS468.chg (fun wq hq => O_move rfl rfl) ?_
        refine H_val (i := 1) rfl (by kernel_rfl) (by kernel_rfl) (by kernel_rfl) (by kernel_rfl) rfl rfl rfl HS468.chg (fun wq hq => O_move rfl rfl) ?_
        refine H_val (i := 2) rfl (by kernel_rfl) (by kernel_rfl) (by kernel_rfl) (by kernel_rfl) rfl rfl rfl HS468.chg (fun wq hq => O_move rfl rfl) ?_
        refine H_val (i := 3) rfl (by kernel_rfl) (by kernel_rfl) (by kernel_rfl) (by kernel_rfl) rfl rfl rfl HS468.chg (fun wq hq => O_idx rfl rfl rfl Try.underlying66 size69 g425 g426 (Cells.isA ((HS462.keepT [2] hq).cells_rd (i := 0) rfl) (dz_ne (D := D_coin) ((HS462.keepT [2] hq).dze (i := 1) rfl) g425 g426 (by decide)))) ?_
        refine H_val (i := 4) rfl (by kernel_rfl) (by kernel_rfl) (by kernel_rfl) (by kernel_rfl) rfl rfl rfl HS468.chg (fun wq hq => O_fieldC rfl rfl (Cells.isA ((HS462.keepT [2] hq).cells_rd (i := 0) rfl) (dz_ne (D := D_coin) ((HS462.keepT [2] hq).dze (i := 1) rfl) g425 g426 (by decide))) field69_0) ?_
        refine H_val (i := 5) rfl (by kernel_rfl) (by kernel_rfl) (by kernel_rfl) (by kernel_rfl) rfl rfl rfl HS468.chg (fun wq hq => O_loadC rfl rfl flat3 ((HS462.keepT [2] hq).cells_rd (i := 0) rfl) (dz_cell (D := D_coin) (f := fun x => .int .i64 x.w) 0 co_w ((HS462.keepT [2] hq).dze (i := 1) rfl) g425 g426)) ?_
        refine H_val (i := 6) rfl (by kernel_rfl) (by kernel_rfl) (by kernel_rfl) (by kernel_rfl) rfl rfl rfl HS468.chg (fun wq hq => O_move rfl rfl) ?_
        refine H_val (i := 7) rfl (by kernel_rfl) (by kernel_rfl) (by kernel_rfl) (by kernel_rfl) rfl rfl rfl HS468.chg (fun wq hq => O_move rfl rfl) ?_
        refine H_val (i := 8) rfl (by kernel_rfl) (by kernel_rfl) (by kernel_rfl) (by kernel_rfl) rfl rfl rfl HS468.chg (fun wq hq => O_add rfl rfl rfl) ?_
        refine H_val (i := 9) rfl (by kernel_rfl) (by kernel_rfl) (by kernel_rfl) (by kernel_rfl) rfl rfl rfl HS468.chg (fun wq hq => O_idx rfl rfl rfl Try.underlying66 size69 g429 g430 (Cells.isA ((HS462.keepT [2] hq).cells_rd (i := 0) rfl) (dz_ne (D := D_coin) ((HS462.keepT [2] hq).dze (i := 1) rfl) g429 g430 (by decide)))) ?_
        refine H_val (i := 10) rfl (by kernel_rfl) (by kernel_rfl) (by kernel_rfl) (by kernel_rfl) rfl rfl rfl HS468.chg (fun wq hq => O_fieldC rfl rfl (Cells.isA ((HS462.keepT [2] hq).cells_rd (i := 0) rfl) (dz_ne (D := D_coin) ((HS462.keepT [2] hq).dze (i := 1) rfl) g429 g430 (by decide))) field69_0) ?_
        refine H_val (i := 11) rfl (by kernel_rfl) (by kernel_rfl) (by kernel_rfl) (by kernel_rfl) rfl rfl rfl HS468.chg (fun wq hq => O_loadC rfl rfl flat3 ((HS462.keepT [2] hq).cells_rd (i := 0) rfl) (dz_cell (D := D_coin) (f := fun x => .int .i64 x.w) 0 co_w ((HS462.keepT [2] hq).dze (i := 1) rfl) g429 g430)) ?_
        refine H_val (i := 12) rfl (by kernel_rfl) (by kernel_rfl) (by kernel_rfl) (by kernel_rfl) rfl rfl rfl HS468.chg (fun wq hq => O_add rfl rfl rfl) ?_
        refine H_val (i := 13) rfl (by kernel_rfl) (by kernel_rfl) (by kernel_rfl) (by kernel_rfl) rfl rfl rfl HS468.chg (fun wq hq => O_move rfl rfl) ?_
        refine H_val (i := 14) rfl (by kernel_rfl) (by kernel_rfl) (by kernel_rfl) (by kernel_rfl) rfl rfl rfl HS468.chg (fun wq hq => O_move rfl rfl) ?_
        refine H_val (i := 15) rfl (by kernel_rfl) (by kernel_rfl) (by kernel_rfl) (by kernel_rfl) rfl rfl rfl HS468.chg (fun wq hq => O_idx rfl rfl rfl Try.underlying66 size69 g425 g426 (Cells.isA ((HS462.keepT [2] hq).cells_rd (i := 0) rfl) (dz_ne (D := D_coin) ((HS462.keepT [2] hq).dze (i := 1) rfl) g425 g426 (by decide)))) ?_
        refine H_val (i := 16) rfl (by kernel_rfl) (by kernel_rfl) (by kernel_rfl) (by kernel_rfl) rfl rfl rfl HS468.chg (fun wq hq => O_loadElD (D := D_coin) rfl rfl wide69 ((HS462.keepT [2] hq).cells_rd (i := 0) rfl) ((HS462.keepT [2] hq).dze (i := 1) rfl) g425 g426 (by decide)) ?_
        refine H_val (i := 17) rfl (by kernel_rfl) (by kernel_rfl) (by kernel_rfl) (by kernel_rfl) rfl rfl rfl HS468.chg (fun wq hq => O_move rfl rfl) ?_
        refine H_val (i := 18) rfl (by kernel_rfl) (by kernel_rfl) (by kernel_rfl) (by kernel_rfl) rfl rfl rfl HS468.chg (fun wq hq => O_move rfl rfl) ?_
        refine H_val (i := 19) rfl (by kernel_rfl) (by kernel_rfl) (by kernel_rfl) (by kernel_rfl) rfl rfl rfl HS468.chg (fun wq hq => O_add rfl rfl rfl) ?_
        refine H_val (i := 20) rfl (by kernel_rfl) (by kernel_rfl) (by kernel_rfl) (by kernel_rfl) rfl rfl rfl HS468.chg (fun wq hq => O_idx rfl rfl rfl Try.underlying66 size69 g429 g430 (Cells.isA ((HS462.keepT [2] hq).cells_rd (i := 0) rfl) (dz_ne (D := D_coin) ((HS462.keepT [2] hq).dze (i := 1) rfl) g429 g430 (by decide)))) ?_
        refine H_val (i := 21) rfl (by kernel_rfl) (by kernel_rfl) (by kernel_rfl) (by kernel_rfl) rfl rfl rfl HS468.chg (fun wq hq => O_loadElD (D := D_coin) rfl rfl wide69 ((HS462.keepT [2] hq).cells_rd (i := 0) rfl) ((HS462.keepT [2] hq).dze (i := 1) rfl) g429 g430 (by decide)) ?_
        refine H_val (i := 22) rfl (by kernel_rfl) (by kernel_rfl) (by kernel_rfl) (by kernel_rfl) rfl rfl rfl HS468.chg (fun wq hq => O_build (vs := [(0, .agg (E_coin.enc (rdx E_coin ds_row_0 i_420)).toArray), (1, .agg (E_coin.enc (rdx E_coin ds_row_0 (IntKind.i64.wrap (i_420 + 1)))).toArray)]) (v := .agg (E_coin.enc (rdx E_coin ds_row_0 i_420) ++ E_coin.enc (rdx E_coin ds_row_0 (IntKind.i64.wrap (i_420 + 1)))).toArray) rfl rfl rfl (fun w => by kernel_rfl)) ?_
        refine H_one (i := 23) rfl (by kernel_rfl) (by kernel_rfl) ?_
        refine F_box (C := E_coin.enc (rdx E_coin ds_row_0 i_420) ++ E_coin.enc (rdx E_coin ds_row_0 (IntKind.i64.wrap (i_420 + 1)))) rfl rfl rfl rfl rfl rfl HS468 (fun w473 g475 HS474 => ?_)
        have HS474 : Hp (HS462.ft [2]) w460 w473 [.own A415 c416 (rowC E_coin ds417) 69 E_coin.sz, .rd A_row_0 (rowC E_coin ds_row_0), Dz D_coin (orB (orB (orB (orB (HS462.ft [2]) B_row_0) B418) B_row_0) B_row_0) w460.heap.size B_row_0 ds_row_0 l_row_0, Dz D_coin (orB (orB (orB (orB (HS462.ft [2]) B_row_0) B418) B_row_0) B_row_0) w460.heap.size B418 ds417 l419, Dz D_coin (orB (orB (orB (orB (HS462.ft [2]) B_row_0) B418) B_row_0) B_row_0) w460.heap.size B_row_0 [(rdx E_coin ds_row_0 i_420)] [(rdp (Co.leaf 0 0) l_row_0 i_420)], Dz D_coin (orB (orB (orB (orB (HS462.ft [2]) B_row_0) B418) B_row_0) B_row_0) w460.heap.size B_row_0 [(rdx E_coin ds_row_0 (IntKind.i64.wrap (i_420 + 1)))] [(rdp (Co.leaf 0 0) l_row_0 (IntKind.i64.wrap (i_420 + 1)))], .box g475 (E_coin.enc (rdx E_coin ds_row_0 i_420) ++ E_coin.enc (rdx E_coin ds_row_0 (IntKind.i64.wrap (i_420 + 1)))) 99] := HS474
        refine H_next HS474.chg ?_
        refine H_val (i := 24) rfl (by kernel_rfl) (by kernel_rfl) (by kernel_rfl) (by kernel_rfl) rfl rfl rfl HS474.chg (fun wq hq => O_build (vs := [(0, .int .i64 (IntKind.i64.wrap (((rdp (Co.leaf 0 0) l_row_0 i_420).w) + ((rdp (Co.leaf 0 0) l_row_0 (IntKind.i64.wrap (i_420 + 1))).w)))), (2, .pointer (some ⟨g475, 0, none⟩))]) (v := .agg #[.int .i64 (IntKind.i64.wrap (((rdp (Co.leaf 0 0) l_row_0 i_420).w) + ((rdp (Co.leaf 0 0) l_row_0 (IntKind.i64.wrap (i_420 + 1))).w))), .int .i64 0, .pointer (some ⟨g475, 0, none⟩)]) rfl rfl rfl (fun w => by kernel_rfl)) ?_
        refine H_one (i := 25) rfl (by kernel_rfl) (by kernel_rfl) ?_
        have HS480 : Hp (HS462.ft [2]) w460 w473 [.own A415 c416 (rowC E_coin ds417) 69 E_coin.sz, .rd A_row_0 (rowC E_coin ds_row_0), Dz D_coin (orB (orB (orB (orB (HS462.ft [2]) B_row_0) B418) B_row_0) B_row_0) w460.heap.size B_row_0 ds_row_0 l_row_0, Dz D_coin (orB (orB (orB (orB (HS462.ft [2]) B_row_0) B418) B_row_0) B_row_0) w460.heap.size B418 ds417 l419, Dz D_coin (orB (orB (orB (orB (HS462.ft [2]) B_row_0) B418) B_row_0) B_row_0) w460.heap.size B_row_0 [(rdx E_coin ds_row_0 i_420)] [(rdp (Co.leaf 0 0) l_row_0 i_420)], Dz D_coin (orB (orB (orB (orB (HS462.ft [2]) B_row_0) B418) B_row_0) B_row_0) w460.heap.size B_row_0 [(rdx E_coin ds_row_0 (IntKind.i64.wrap (i_420 + 1)))] [(rdp (Co.leaf 0 0) l_row_0 (IntKind.i64.wrap (i_420 + 1)))], Dz D_coin (orB (orB (orB (orB (HS462.ft [2]) B_row_0) B418) B_row_0) B_row_0) w460.heap.size (orB (fun b => b = g475) (orB B_row_0 B_row_0)) [(DC.pack (IntKind.i64.wrap (((rdp (Co.leaf 0 0) l_row_0 i_420).w) + ((rdp (Co.leaf 0 0) l_row_0 (IntKind.i64.wrap (i_420 + 1))).w))) 0 g475 (rdx E_coin ds_row_0 i_420) (rdx E_coin ds_row_0 (IntKind.i64.wrap (i_420 + 1))))] [(Co.pack (IntKind.i64.wrap (((rdp (Co.leaf 0 0) l_row_0 i_420).w) + ((rdp (Co.leaf 0 0) l_row_0 (IntKind.i64.wrap (i_420 + 1))).w))) 0 (rdp (Co.leaf 0 0) l_row_0 i_420) (rdp (Co.leaf 0 0) l_row_0 (IntKind.i64.wrap (i_420 + 1))))]] := HS474.coPack (i := 6) (j := 4) (k := 5) (IntKind.i64.wrap (((rdp (Co.leaf 0 0) l_row_0 i_420).w) + ((rdp (Co.leaf 0 0) l_row_0 (IntKind.i64.wrap (i_420 + 1))).w))) 0 rfl rfl rfl hSF464 (Nat.le_refl _)
        refine F_litE (E := E_coin) (e := 69) [(0, .agg #[.int .i64 (IntKind.i64.wrap (((rdp (Co.leaf 0 0) l_row_0 i_420).w) + ((rdp (Co.leaf 0 0) l_row_0 (IntKind.i64.wrap (i_420 + 1))).w))), .int .i64 0, .pointer (some ⟨g475, 0, none⟩)])] [(DC.pack (IntKind.i64.wrap (((rdp (Co.leaf 0 0) l_row_0 i_420).w) + ((rdp (Co.leaf 0 0) l_row_0 (IntKind.i64.wrap (i_420 + 1))).w))) 0 g475 (rdx E_coin ds_row_0 i_420) (rdx E_coin ds_row_0 (IntKind.i64.wrap (i_420 + 1))))] rfl rfl rfl rfl rfl rfl rfl (by decide) (fun w => by kernel_rfl) HS480 (fun w477 A481 c482 HS478 => ?_)
        have HS478 : Hp (HS462.ft [2]) w460 w477 [.own A415 c416 (rowC E_coin ds417) 69 E_coin.sz, .rd A_row_0 (rowC E_coin ds_row_0), Dz D_coin (orB (orB (orB (orB (HS462.ft [2]) B_row_0) B418) B_row_0) B_row_0) w460.heap.size B_row_0 ds_row_0 l_row_0, Dz D_coin (orB (orB (orB (orB (HS462.ft [2]) B_row_0) B418) B_row_0) B_row_0) w460.heap.size B418 ds417 l419, Dz D_coin (orB (orB (orB (orB (HS462.ft [2]) B_row_0) B418) B_row_0) B_row_0) w460.heap.size B_row_0 [(rdx E_coin ds_row_0 i_420)] [(rdp (Co.leaf 0 0) l_row_0 i_420)], Dz D_coin (orB (orB (orB (orB (HS462.ft [2]) B_row_0) B418) B_row_0) B_row_0) w460.heap.size B_row_0 [(rdx E_coin ds_row_0 (IntKind.i64.wrap (i_420 + 1)))] [(rdp (Co.leaf 0 0) l_row_0 (IntKind.i64.wrap (i_420 + 1)))], Dz D_coin (orB (orB (orB (orB (HS462.ft [2]) B_row_0) B418) B_row_0) B_row_0) w460.heap.size (orB (fun b => b = g475) (orB B_row_0 B_row_0)) [(DC.pack (IntKind.i64.wrap (((rdp (Co.leaf 0 0) l_row_0 i_420).w) + ((rdp (Co.leaf 0 0) l_row_0 (IntKind.i64.wrap (i_420 + 1))).w))) 0 g475 (rdx E_coin ds_row_0 i_420) (rdx E_coin ds_row_0 (IntKind.i64.wrap (i_420 + 1))))] [(Co.pack (IntKind.i64.wrap (((rdp (Co.leaf 0 0) l_row_0 i_420).w) + ((rdp (Co.leaf 0 0) l_row_0 (IntKind.i64.wrap (i_420 + 1))).w))) 0 (rdp (Co.leaf 0 0) l_row_0 i_420) (rdp (Co.leaf 0 0) l_row_0 (IntKind.i64.wrap (i_420 + 1))))], .own A481 c482 (rowC E_coin [(DC.pack (IntKind.i64.wrap (((rdp (Co.leaf 0 0) l_row_0 i_420).w) + ((rdp (Co.leaf 0 0) l_row_0 (IntKind.i64.wrap (i_420 + 1))).w))) 0 g475 (rdx E_coin ds_row_0 i_420) (rdx E_coin ds_row_0 (IntKind.i64.wrap (i_420 + 1))))]) 69 E_coin.sz] := HS478
        have HS485 : Hp (HS462.ft [2]) w460 w477 [.own A415 c416 (rowC E_coin ds417) 69 E_coin.sz, .rd A_row_0 (rowC E_coin ds_row_0), Dz D_coin (orB (orB (orB (orB (HS462.ft [2]) B_row_0) B418) B_row_0) B_row_0) w460.heap.size B_row_0 ds_row_0 l_row_0, Dz D_coin (orB (orB (orB (orB (HS462.ft [2]) B_row_0) B418) B_row_0) B_row_0) w460.heap.size B418 ds417 l419, Dz D_coin (orB (orB (orB (orB (HS462.ft [2]) B_row_0) B418) B_row_0) B_row_0) w460.heap.size B_row_0 [(rdx E_coin ds_row_0 i_420)] [(rdp (Co.leaf 0 0) l_row_0 i_420)], Dz D_coin (orB (orB (orB (orB (HS462.ft [2]) B_row_0) B418) B_row_0) B_row_0) w460.heap.size B_row_0 [(rdx E_coin ds_row_0 (IntKind.i64.wrap (i_420 + 1)))] [(rdp (Co.leaf 0 0) l_row_0 (IntKind.i64.wrap (i_420 + 1)))], Dz D_coin (orB (orB (orB (orB (HS462.ft [2]) B_row_0) B418) B_row_0) B_row_0) w460.heap.size (orB (fun b => b = g475) (orB B_row_0 B_row_0)) [(DC.pack (IntKind.i64.wrap (((rdp (Co.leaf 0 0) l_row_0 i_420).w) + ((rdp (Co.leaf 0 0) l_row_0 (IntKind.i64.wrap (i_420 + 1))).w))) 0 g475 (rdx E_coin ds_row_0 i_420) (rdx E_coin ds_row_0 (IntKind.i64.wrap (i_420 + 1))))] [(Co.pack (IntKind.i64.wrap (((rdp (Co.leaf 0 0) l_row_0 i_420).w) + ((rdp (Co.leaf 0 0) l_row_0 (IntKind.i64.wrap (i_420 + 1))).w))) 0 (rdp (Co.leaf 0 0) l_row_0 i_420) (rdp (Co.leaf 0 0) l_row_0 (IntKind.i64.wrap (i_420 + 1))))], .own A481 c482 (rowC E_coin [(DC.pack (IntKind.i64.wrap (((rdp (Co.leaf 0 0) l_row_0 i_420).w) + ((rdp (Co.leaf 0 0) l_row_0 (IntKind.i64.wrap (i_420 + 1))).w))) 0 g475 (rdx E_coin ds_row_0 i_420) (rdx E_coin ds_row_0 (IntKind.i64.wrap (i_420 + 1))))]) 69 E_coin.sz, Dz D_coin (orB (orB (orB (orB (HS462.ft [2]) B_row_0) B418) B_row_0) B_row_0) w460.heap.size (orB (fun b => b = g475) (orB B_row_0 B_row_0)) [(DC.pack (IntKind.i64.wrap (((rdp (Co.leaf 0 0) l_row_0 i_420).w) + ((rdp (Co.leaf 0 0) l_row_0 (IntKind.i64.wrap (i_420 + 1))).w))) 0 g475 (rdx E_coin ds_row_0 i_420) (rdx E_coin ds_row_0 (IntKind.i64.wrap (i_420 + 1))))] [(Co.pack (IntKind.i64.wrap (((rdp (Co.leaf 0 0) l_row_0 i_420).w) + ((rdp (Co.leaf 0 0) l_row_0 (IntKind.i64.wrap (i_420 + 1))).w))) 0 (rdp (Co.leaf 0 0) l_row_0 i_420) (rdp (Co.leaf 0 0) l_row_0 (IntKind.i64.wrap (i_420 + 1))))]] := HS478.dzSub (i := 6) rfl dz_self (HS478.dze (i := 6) rfl)
        refine H_next HS485.chg ?_
        refine H_one (i := 26) rfl (by kernel_rfl) (by kernel_rfl) ?_
        obtain ⟨l488, h489, H⟩ := of_bnd H
        obtain ⟨g490, H⟩ := of_gd H
        refine F_appD (D := D_coin) (ds := ds417) (ds' := [(DC.pack (IntKind.i64.wrap (((rdp (Co.leaf 0 0) l_row_0 i_420).w) + ((rdp (Co.leaf 0 0) l_row_0 (IntKind.i64.wrap (i_420 + 1))).w))) 0 g475 (rdx E_coin ds_row_0 i_420) (rdx E_coin ds_row_0 (IntKind.i64.wrap (i_420 + 1))))]) (xs := l419) (ys := [(Co.pack (IntKind.i64.wrap (((rdp (Co.leaf 0 0) l_row_0 i_420).w) + ((rdp (Co.leaf 0 0) l_row_0 (IntKind.i64.wrap (i_420 + 1))).w))) 0 (rdp (Co.leaf 0 0) l_row_0 i_420) (rdp (Co.leaf 0 0) l_row_0 (IntKind.i64.wrap (i_420 + 1))))]) (i := 0) rfl rfl rfl rfl Try.underlying66 info69 rfl (by decide) (by decide) rfl rfl HS485 rfl (HS485.dze (i := 3) rfl) (HS485.dze (i := 8) rfl) (HS485.cells_own (i := 7) rfl) h489 g490 (fun w486 A491 c492 HS487 => ?_)
        have HS487 : Hp (HS462.ft [2]) w460 w486 [.own A491 c492 (rowC E_coin (ds417 ++ [(DC.pack (IntKind.i64.wrap (((rdp (Co.leaf 0 0) l_row_0 i_420).w) + ((rdp (Co.leaf 0 0) l_row_0 (IntKind.i64.wrap (i_420 + 1))).w))) 0 g475 (rdx E_coin ds_row_0 i_420) (rdx E_coin ds_row_0 (IntKind.i64.wrap (i_420 + 1))))])) 69 E_coin.sz, .rd A_row_0 (rowC E_coin ds_row_0), Dz D_coin (orB (orB (orB (orB (HS462.ft [2]) B_row_0) B418) B_row_0) B_row_0) w460.heap.size B_row_0 ds_row_0 l_row_0, Dz D_coin (orB (orB (orB (orB (HS462.ft [2]) B_row_0) B418) B_row_0) B_row_0) w460.heap.size B418 ds417 l419, Dz D_coin (orB (orB (orB (orB (HS462.ft [2]) B_row_0) B418) B_row_0) B_row_0) w460.heap.size B_row_0 [(rdx E_coin ds_row_0 i_420)] [(rdp (Co.leaf 0 0) l_row_0 i_420)], Dz D_coin (orB (orB (orB (orB (HS462.ft [2]) B_row_0) B418) B_row_0) B_row_0) w460.heap.size B_row_0 [(rdx E_coin ds_row_0 (IntKind.i64.wrap (i_420 + 1)))] [(rdp (Co.leaf 0 0) l_row_0 (IntKind.i64.wrap (i_420 + 1)))], Dz D_coin (orB (orB (orB (orB (HS462.ft [2]) B_row_0) B418) B_row_0) B_row_0) w460.heap.size (orB (fun b => b = g475) (orB B_row_0 B_row_0)) [(DC.pack (IntKind.i64.wrap (((rdp (Co.leaf 0 0) l_row_0 i_420).w) + ((rdp (Co.leaf 0 0) l_row_0 (IntKind.i64.wrap (i_420 + 1))).w))) 0 g475 (rdx E_coin ds_row_0 i_420) (rdx E_coin ds_row_0 (IntKind.i64.wrap (i_420 + 1))))] [(Co.pack (IntKind.i64.wrap (((rdp (Co.leaf 0 0) l_row_0 i_420).w) + ((rdp (Co.leaf 0 0) l_row_0 (IntKind.i64.wrap (i_420 + 1))).w))) 0 (rdp (Co.leaf 0 0) l_row_0 i_420) (rdp (Co.leaf 0 0) l_row_0 (IntKind.i64.wrap (i_420 + 1))))], .own A481 c482 (rowC E_coin [(DC.pack (IntKind.i64.wrap (((rdp (Co.leaf 0 0) l_row_0 i_420).w) + ((rdp (Co.leaf 0 0) l_row_0 (IntKind.i64.wrap (i_420 + 1))).w))) 0 g475 (rdx E_coin ds_row_0 i_420) (rdx E_coin ds_row_0 (IntKind.i64.wrap (i_420 + 1))))]) 69 E_coin.sz, Dz D_coin (orB (orB (orB (orB (HS462.ft [2]) B_row_0) B418) B_row_0) B_row_0) w460.heap.size (orB (fun b => b = g475) (orB B_row_0 B_row_0)) [(DC.pack (IntKind.i64.wrap (((rdp (Co.leaf 0 0) l_row_0 i_420).w) + ((rdp (Co.leaf 0 0) l_row_0 (IntKind.i64.wrap (i_420 + 1))).w))) 0 g475 (rdx E_coin ds_row_0 i_420) (rdx E_coin ds_row_0 (IntKind.i64.wrap (i_420 + 1))))] [(Co.pack (IntKind.i64.wrap (((rdp (Co.leaf 0 0) l_row_0 i_420).w) + ((rdp (Co.leaf 0 0) l_row_0 (IntKind.i64.wrap (i_420 + 1))).w))) 0 (rdp (Co.leaf 0 0) l_row_0 i_420) (rdp (Co.leaf 0 0) l_row_0 (IntKind.i64.wrap (i_420 + 1))))]] := HS487
        have HS493 : Hp (HS462.ft [2]) w460 w486 [.own A491 c492 (rowC E_coin (ds417 ++ [(DC.pack (IntKind.i64.wrap (((rdp (Co.leaf 0 0) l_row_0 i_420).w) + ((rdp (Co.leaf 0 0) l_row_0 (IntKind.i64.wrap (i_420 + 1))).w))) 0 g475 (rdx E_coin ds_row_0 i_420) (rdx E_coin ds_row_0 (IntKind.i64.wrap (i_420 + 1))))])) 69 E_coin.sz, .rd A_row_0 (rowC E_coin ds_row_0), Dz D_coin (orB (orB (orB (orB (HS462.ft [2]) B_row_0) B418) B_row_0) B_row_0) w460.heap.size B_row_0 ds_row_0 l_row_0, Dz D_coin (orB (orB (orB (orB (HS462.ft [2]) B_row_0) B418) B_row_0) B_row_0) w460.heap.size (orB B418 (orB (fun b => b = g475) (orB B_row_0 B_row_0))) (ds417 ++ [(DC.pack (IntKind.i64.wrap (((rdp (Co.leaf 0 0) l_row_0 i_420).w) + ((rdp (Co.leaf 0 0) l_row_0 (IntKind.i64.wrap (i_420 + 1))).w))) 0 g475 (rdx E_coin ds_row_0 i_420) (rdx E_coin ds_row_0 (IntKind.i64.wrap (i_420 + 1))))]) l488, Dz D_coin (orB (orB (orB (orB (HS462.ft [2]) B_row_0) B418) B_row_0) B_row_0) w460.heap.size B_row_0 [(rdx E_coin ds_row_0 i_420)] [(rdp (Co.leaf 0 0) l_row_0 i_420)], Dz D_coin (orB (orB (orB (orB (HS462.ft [2]) B_row_0) B418) B_row_0) B_row_0) w460.heap.size B_row_0 [(rdx E_coin ds_row_0 (IntKind.i64.wrap (i_420 + 1)))] [(rdp (Co.leaf 0 0) l_row_0 (IntKind.i64.wrap (i_420 + 1)))], Dz D_coin (orB (orB (orB (orB (HS462.ft [2]) B_row_0) B418) B_row_0) B_row_0) w460.heap.size (orB (fun b => b = g475) (orB B_row_0 B_row_0)) [(DC.pack (IntKind.i64.wrap (((rdp (Co.leaf 0 0) l_row_0 i_420).w) + ((rdp (Co.leaf 0 0) l_row_0 (IntKind.i64.wrap (i_420 + 1))).w))) 0 g475 (rdx E_coin ds_row_0 i_420) (rdx E_coin ds_row_0 (IntKind.i64.wrap (i_420 + 1))))] [(Co.pack (IntKind.i64.wrap (((rdp (Co.leaf 0 0) l_row_0 i_420).w) + ((rdp (Co.leaf 0 0) l_row_0 (IntKind.i64.wrap (i_420 + 1))).w))) 0 (rdp (Co.leaf 0 0) l_row_0 i_420) (rdp (Co.leaf 0 0) l_row_0 (IntKind.i64.wrap (i_420 + 1))))], .own A481 c482 (rowC E_coin [(DC.pack (IntKind.i64.wrap (((rdp (Co.leaf 0 0) l_row_0 i_420).w) + ((rdp (Co.leaf 0 0) l_row_0 (IntKind.i64.wrap (i_420 + 1))).w))) 0 g475 (rdx E_coin ds_row_0 i_420) (rdx E_coin ds_row_0 (IntKind.i64.wrap (i_420 + 1))))]) 69 E_coin.sz, Dz D_coin (orB (orB (orB (orB (HS462.ft [2]) B_row_0) B418) B_row_0) B_row_0) w460.heap.size (orB (fun b => b = g475) (orB B_row_0 B_row_0)) [(DC.pack (IntKind.i64.wrap (((rdp (Co.leaf 0 0) l_row_0 i_420).w) + ((rdp (Co.leaf 0 0) l_row_0 (IntKind.i64.wrap (i_420 + 1))).w))) 0 g475 (rdx E_coin ds_row_0 i_420) (rdx E_coin ds_row_0 (IntKind.i64.wrap (i_420 + 1))))] [(Co.pack (IntKind.i64.wrap (((rdp (Co.leaf 0 0) l_row_0 i_420).w) + ((rdp (Co.leaf 0 0) l_row_0 (IntKind.i64.wrap (i_420 + 1))).w))) 0 (rdp (Co.leaf 0 0) l_row_0 i_420) (rdp (Co.leaf 0 0) l_row_0 (IntKind.i64.wrap (i_420 + 1))))]] := HS487.dzApp (i := 3) (j := 8) rfl rfl h489
        refine H_next HS493.chg ?_
        refine H_val (i := 27) rfl (by kernel_rfl) (by kernel_rfl) (by kernel_rfl) (by kernel_rfl) rfl rfl rfl HS493.chg (fun wq hq => O_assign rfl rfl) ?_
        refine H_end (by kernel_rfl) ?_
        have HS495 := HS493.sel [0, 7, 3, 6, 8] rfl
        have HS494 : Hp S0 w0 w486 [.rd A_row_0 (rowC E_coin ds_row_0), Dz D_coin (orB S0 B_row_0) w0.heap.size B_row_0 ds_row_0 l_row_0, .own A491 c492 (rowC E_coin (ds417 ++ [(DC.pack (IntKind.i64.wrap (((rdp (Co.leaf 0 0) l_row_0 i_420).w) + ((rdp (Co.leaf 0 0) l_row_0 (IntKind.i64.wrap (i_420 + 1))).w))) 0 g475 (rdx E_coin ds_row_0 i_420) (rdx E_coin ds_row_0 (IntKind.i64.wrap (i_420 + 1))))])) 69 E_coin.sz, Dz D_coin (orB S0 B_row_0) w0.heap.size (orB B418 (orB (fun b => b = g475) (orB B_row_0 B_row_0))) (ds417 ++ [(DC.pack (IntKind.i64.wrap (((rdp (Co.leaf 0 0) l_row_0 i_420).w) + ((rdp (Co.leaf 0 0) l_row_0 (IntKind.i64.wrap (i_420 + 1))).w))) 0 g475 (rdx E_coin ds_row_0 i_420) (rdx E_coin ds_row_0 (IntKind.i64.wrap (i_420 + 1))))]) l488, Dz D_coin (orB S0 B_row_0) w0.heap.size B_row_0 [(rdx E_coin ds_row_0 i_420)] [(rdp (Co.leaf 0 0) l_row_0 i_420)], Dz D_coin (orB S0 B_row_0) w0.heap.size B_row_0 [(rdx E_coin ds_row_0 (IntKind.i64.wrap (i_420 + 1)))] [(rdp (Co.leaf 0 0) l_row_0 (IntKind.i64.wrap (i_420 + 1)))], .own A481 c482 (rowC E_coin [(DC.pack (IntKind.i64.wrap (((rdp (Co.leaf 0 0) l_row_0 i_420).w) + ((rdp (Co.leaf 0 0) l_row_0 (IntKind.i64.wrap (i_420 + 1))).w))) 0 g475 (rdx E_coin ds_row_0 i_420) (rdx E_coin ds_row_0 (IntKind.i64.wrap (i_420 + 1))))]) 69 E_coin.sz, Dz D_coin (orB S0 B_row_0) w0.heap.size (orB (fun b => b = g475) (orB B_row_0 B_row_0)) [(DC.pack (IntKind.i64.wrap (((rdp (Co.leaf 0 0) l_row_0 i_420).w) + ((rdp (Co.leaf 0 0) l_row_0 (IntKind.i64.wrap (i_420 + 1))).w))) 0 g475 (rdx E_coin ds_row_0 i_420) (rdx E_coin ds_row_0 (IntKind.i64.wrap (i_420 + 1))))] [(Co.pack (IntKind.i64.wrap (((rdp (Co.leaf 0 0) l_row_0 i_420).w) + ((rdp (Co.leaf 0 0) l_row_0 (IntKind.i64.wrap (i_420 + 1))).w))) 0 (rdp (Co.leaf 0 0) l_row_0 i_420) (rdp (Co.leaf 0 0) l_row_0 (IntKind.i64.wrap (i_420 + 1))))], Dz D_coin (orB S0 B_row_0) w0.heap.size (orB (fun b => b = g475) (orB B_row_0 B_row_0)) [(DC.pack (IntKind.i64.wrap (((rdp (Co.leaf 0 0) l_row_0 i_420).w) + ((rdp (Co.leaf 0 0) l_row_0 (IntKind.i64.wrap (i_420 + 1))).w))) 0 g475 (rdx E_coin ds_row_0 i_420) (rdx E_coin ds_row_0 (IntKind.i64.wrap (i_420 + 1))))] [(Co.pack (IntKind.i64.wrap (((rdp (Co.leaf 0 0) l_row_0 i_420).w) + ((rdp (Co.leaf 0 0) l_row_0 (IntKind.i64.wrap (i_420 + 1))).w))) 0 (rdp (Co.leaf 0 0) l_row_0 i_420) (rdp (Co.leaf 0 0) l_row_0 (IntKind.i64.wrap (i_420 + 1))))]] := ((((HS462.backD [2] HS495 (Pv.backG (Pv.own (Pv.own (Pv.per (HS495.dz (i := 2) rfl).1 (Pv.per (HS495.dz (i := 3) rfl).1 (Pv.per (HS495.dz (i := 4) rfl).1 Pv.nil))))) (fun b => (fun hb => Or.elim hb (fun hb => Or.elim hb (fun hb => Or.elim hb (fun hb => Or.elim hb (fun hb => .inl hb) (fun hb => .inr ⟨_, _, nth_mem (i := 1) rfl, hb⟩)) (fun hb => .inr ⟨_, _, nth_mem (i := 3) rfl, hb⟩)) (fun hb => .inr ⟨_, _, nth_mem (i := 4) rfl, hb⟩)) (fun hb => .inr ⟨_, _, nth_mem (i := 5) rfl, hb⟩))))).sel [0, 1, 6, 8, 4, 5, 7, 9, 10] rfl).dzProv (i := 3) rfl (fun b hb _ => Or.elim hb (fun hb => Or.elim hb (fun hb => Or.elim hb (fun hb => Or.elim hb (fun hb => Or.elim hb (fun hb => (HS462.mine _ (feet_pick_le hb)).elim (hSF _) .inr) (fun hb => (HS462.dz (i := 1) rfl).1 _ hb)) (fun hb => (HS462.dz (i := 3) rfl).1 _ hb)) (fun hb => (HS462.dz (i := 4) rfl).1 _ hb)) (fun hb => (HS462.dz (i := 5) rfl).1 _ hb)) (fun h => .inr (Nat.le_trans HS462.chg.size h)))).dzProv (i := 7) rfl (fun b hb _ => Or.elim hb (fun hb => Or.elim hb (fun hb => Or.elim hb (fun hb => Or.elim hb (fun hb => Or.elim hb (fun hb => (HS462.mine _ (feet_pick_le hb)).elim (hSF _) .inr) (fun hb => (HS462.dz (i := 1) rfl).1 _ hb)) (fun hb => (HS462.dz (i := 3) rfl).1 _ hb)) (fun hb => (HS462.dz (i := 4) rfl).1 _ hb)) (fun hb => (HS462.dz (i := 5) rfl).1 _ hb)) (fun h => .inr (Nat.le_trans HS462.chg.size h)))).dzProv (i := 8) rfl (fun b hb _ => Or.elim hb (fun hb => Or.elim hb (fun hb => Or.elim hb (fun hb => Or.elim hb (fun hb => Or.elim hb (fun hb => (HS462.mine _ (feet_pick_le hb)).elim (hSF _) .inr) (fun hb => (HS462.dz (i := 1) rfl).1 _ hb)) (fun hb => (HS462.dz (i := 3) rfl).1 _ hb)) (fun hb => (HS462.dz (i := 4) rfl).1 _ hb)) (fun hb => (HS462.dz (i := 5) rfl).1 _ hb)) (fun h => .inr (Nat.le_trans HS462.chg.size h)))
        refine T_done (by kernel_rfl) ?_
        refine L_endB hN424 ?_
        have HS496 : Hp S0 w0 w486 [.rd A_row_0 (rowC E_coin ds_row_0), Dz D_coin (orB S0 B_row_0) w0.heap.size B_row_0 ds_row_0 l_row_0, .own A491 c492 (rowC E_coin (ds417 ++ [(DC.pack (IntKind.i64.wrap (((rdp (Co.leaf 0 0) l_row_0 i_420).w) + ((rdp (Co.leaf 0 0) l_row_0 (IntKind.i64.wrap (i_420 + 1))).w))) 0 g475 (rdx E_coin ds_row_0 i_420) (rdx E_coin ds_row_0 (IntKind.i64.wrap (i_420 + 1))))])) 69 E_coin.sz, Dz D_coin (orB S0 B_row_0) w0.heap.size (orB B418 (orB (fun b => b = g475) (orB B_row_0 B_row_0))) (ds417 ++ [(DC.pack (IntKind.i64.wrap (((rdp (Co.leaf 0 0) l_row_0 i_420).w) + ((rdp (Co.leaf 0 0) l_row_0 (IntKind.i64.wrap (i_420 + 1))).w))) 0 g475 (rdx E_coin ds_row_0 i_420) (rdx E_coin ds_row_0 (IntKind.i64.wrap (i_420 + 1))))]) l488] := HS494.sel [0, 1, 2, 3] rfl
        refine L_region ?_
        refine F_val rfl rfl rfl (O_move rfl rfl) ?_
        refine F_val rfl rfl rfl (O_add rfl rfl rfl) ?_
        obtain ⟨x497, h498, H⟩ := of_bnd H
        refine F_val rfl rfl rfl (O_assign' rfl rfl (congrArg (Value.int .i64) h498)) ?_
        refine F_nil ?_
        refine L_nil (fun a ha => hNp414 _ a _ (Nat.lt_succ_self _) ⟨_, _, _, _, _, _, Is.cons ha (Is.cons ha (Is.cons ha (Is.nil ha) rfl) rfl) rfl, HS496.sel [0, 1, 2, 3] rfl, H⟩)
      · have H := of_neg H c423
        refine L_exitB (fun a w h => hOp414 (.exit 0) a w rfl (hXb255 a w h)) ?_
        refine L_nil (fun a ha => hNj5 a _ ⟨_, _, _, _, _, (Option.some.inj H).symm, Is.cons ha (Is.nil ha) rfl, HS422.sel [0, 1, 2, 3] rfl⟩)
  · obtain ⟨l254, A250, c251, ds252, B253, ej, ha, HS500⟩ := hR
    obtain rfl := ej.symm
    refine wpLF_app ?_ ha
    refine L_seq ?_
    refine L_region ?_
    refine F_val rfl rfl rfl (O_move rfl rfl) ?_
    refine F_val rfl rfl rfl (O_assign rfl rfl) ?_
    refine F_nil ?_
    refine L_ret (fun a ha => (post_ret1 ha rfl rfl ?_))
    obtain rfl := Option.some.inj H
    exact ⟨_, _, _, _, rfl, HS500.sel [2, 3] rfl⟩

end Go.Proofs.Ytbegkkmngkpjmaa
