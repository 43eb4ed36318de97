import Derived.Test.YtpcenecgmecgmaaChecked
import Derived.Test.YtpcenecgmecgmaaGNamesHighPure
set_option linter.unusedVariables false
set_option linter.unusedSimpArgs false
set_option maxRecDepth 10000
namespace Go.Proofs.Ytpcenecgmecgmaa
open Go Go.V Go.V.Pu
theorem mix : Try.prog.follows .mixedOrders = true := by kernel_rfl
theorem nm4 : (Try.f4.name == "runtime.NumGoroutine") = false := by kernel_rfl
/-! function 4: valise/valisetop.num -/
theorem valisetop_num.calls {S0 : Nat → Prop} {w0 : World} {e_0 : Int} {r : Int} (HS0 : Hp S0 w0 w0 []) (h : valisetop_num.f e_0 = some r) :
    Calls Try.prog 4 ([.int .i64 e_0] : List Value).toArray w0 (fun e w => e = .returned (.int .i64 r) ∧ Hp S0 w0 w []) := by
  have H : ((some e_0) : Option (Int)) = some r := h
  refine calls_start Try.func4 rfl rfl ?_
  refine L_seq ?_
  refine L_region ?_
  refine F_val rfl rfl rfl (O_assign rfl rfl) ?_
  refine F_nil ?_
  refine L_seq ?_
  refine L_region ?_
  refine F_val rfl rfl rfl (O_move rfl rfl) ?_
  refine F_val rfl rfl rfl (O_assign rfl rfl) ?_
  refine F_nil ?_
  refine L_ret (fun a ha => (post_ret1 ha rfl rfl ?_))
  obtain rfl := Option.some.inj H
  exact ⟨rfl, HS0.sel [] rfl⟩

/-! function 3: valise/valisetop.NamesHigh -/
theorem valisetop_NamesHigh.calls {S0 : Nat → Prop} {w0 : World} {r : Bool} (HS0 : Hp S0 w0 w0 []) (h : valisetop_NamesHigh.f = some r) :
    Calls Try.prog 3 ([] : List Value).toArray w0 (fun e w => e = .returned (.bool r) ∧ Hp S0 w0 w []) := by
  have H : ((some true) : Option (Bool)) = some r := h
  refine calls_start Try.func3 rfl rfl ?_
  refine L_seq ?_
  refine L_region ?_
  refine F_val rfl rfl rfl (O_assign rfl rfl) ?_
  refine F_nil ?_
  refine L_seq ?_
  refine L_region ?_
  refine F_qcall (v := .int .i64 90) (xs := [.const (.int .i64 90)]) rfl rfl rfl rfl Try.func4 nm4 rfl rfl ((valisetop_num.calls (HS0.give [] rfl (Lent.nil)) (rfl : valisetop_num.f 90 = some 90)).mono (fun e w hc => ?_)) (fun w4 hw5 => ?_)
  · obtain ⟨rfl, h⟩ := hc
    exact ⟨rfl, h.chg0⟩
  have HS6 := HS0.keep hw5
  refine F_val rfl rfl rfl (O_eq rfl rfl rfl) ?_
  refine F_know (i := 13) rfl (dec_t (by decide)) ?_
  refine F_val rfl rfl rfl (O_move rfl rfl) ?_
  refine F_gqcall (v := .int .i64 91) (xs := [.const (.int .i64 91)]) rfl rfl rfl rfl rfl rfl rfl Try.func4 nm4 rfl rfl ((valisetop_num.calls (HS6.give [] rfl (Lent.nil)) (rfl : valisetop_num.f 91 = some 91)).mono (fun e w hc => ?_)) (fun w10 hw11 => ?_)
  · obtain ⟨rfl, h⟩ := hc
    exact ⟨rfl, h.chg0⟩
  have HS12 := HS6.keep hw11
  refine F_gval rfl rfl rfl rfl rfl rfl (O_eq rfl rfl rfl) ?_
  refine F_know (i := 16) rfl (dec_t (by decide)) ?_
  refine F_val rfl rfl rfl (O_pickT rfl rfl rfl) ?_
  refine F_val rfl rfl rfl (O_move rfl rfl) ?_
  refine F_gqcall (v := .int .i64 92) (xs := [.const (.int .i64 92)]) rfl rfl rfl rfl rfl rfl rfl Try.func4 nm4 rfl rfl ((valisetop_num.calls (HS12.give [] rfl (Lent.nil)) (rfl : valisetop_num.f 92 = some 92)).mono (fun e w hc => ?_)) (fun w16 hw17 => ?_)
  · obtain ⟨rfl, h⟩ := hc
    exact ⟨rfl, h.chg0⟩
  have HS18 := HS12.keep hw17
  refine F_gval rfl rfl rfl rfl rfl rfl (O_eq rfl rfl rfl) ?_
  refine F_know (i := 20) rfl (dec_t (by decide)) ?_
  refine F_val rfl rfl rfl (O_pickT rfl rfl rfl) ?_
  refine F_val rfl rfl rfl (O_assign rfl rfl) ?_
  refine F_nil ?_
  refine L_seq ?_
  refine L_region ?_
  refine F_qcall (v := .int .i64 100) (xs := [.const (.int .i64 100)]) rfl rfl rfl rfl Try.func4 nm4 rfl rfl ((valisetop_num.calls (HS18.give [] rfl (Lent.nil)) (rfl : valisetop_num.f 100 = some 100)).mono (fun e w hc => ?_)) (fun w22 hw23 => ?_)
  · obtain ⟨rfl, h⟩ := hc
    exact ⟨rfl, h.chg0⟩
  have HS24 := HS18.keep hw23
  refine F_val rfl rfl rfl (O_eq rfl rfl rfl) ?_
  refine F_know (i := 23) rfl (dec_t (by decide)) ?_
  refine F_val rfl rfl rfl (O_move rfl rfl) ?_
  refine F_gqcall (v := .int .i64 101) (xs := [.const (.int .i64 101)]) rfl rfl rfl rfl rfl rfl rfl Try.func4 nm4 rfl rfl ((valisetop_num.calls (HS24.give [] rfl (Lent.nil)) (rfl : valisetop_num.f 101 = some 101)).mono (fun e w hc => ?_)) (fun w28 hw29 => ?_)
  · obtain ⟨rfl, h⟩ := hc
    exact ⟨rfl, h.chg0⟩
  have HS30 := HS24.keep hw29
  refine F_gval rfl rfl rfl rfl rfl rfl (O_eq rfl rfl rfl) ?_
  refine F_know (i := 26) rfl (dec_t (by decide)) ?_
  refine F_val rfl rfl rfl (O_pickT rfl rfl rfl) ?_
  refine F_val rfl rfl rfl (O_move rfl rfl) ?_
  refine F_gqcall (v := .int .i64 102) (xs := [.const (.int .i64 102)]) rfl rfl rfl rfl rfl rfl rfl Try.func4 nm4 rfl rfl ((valisetop_num.calls (HS30.give [] rfl (Lent.nil)) (rfl : valisetop_num.f 102 = some 102)).mono (fun e w hc => ?_)) (fun w34 hw35 => ?_)
  · obtain ⟨rfl, h⟩ := hc
    exact ⟨rfl, h.chg0⟩
  have HS36 := HS30.keep hw35
  refine F_gval rfl rfl rfl rfl rfl rfl (O_eq rfl rfl rfl) ?_
  refine F_know (i := 30) rfl (dec_t (by decide)) ?_
  refine F_val rfl rfl rfl (O_pickT rfl rfl rfl) ?_
  refine F_val rfl rfl rfl (O_move rfl rfl) ?_
  refine F_gqcall (v := .int .i64 103) (xs := [.const (.int .i64 103)]) rfl rfl rfl rfl rfl rfl rfl Try.func4 nm4 rfl rfl ((valisetop_num.calls (HS36.give [] rfl (Lent.nil)) (rfl : valisetop_num.f 103 = some 103)).mono (fun e w hc => ?_)) (fun w40 hw41 => ?_)
  · obtain ⟨rfl, h⟩ := hc
    exact ⟨rfl, h.chg0⟩
  have HS42 := HS36.keep hw41
  refine F_gval rfl rfl rfl rfl rfl rfl (O_eq rfl rfl rfl) ?_
  refine F_know (i := 34) rfl (dec_t (by decide)) ?_
  refine F_val rfl rfl rfl (O_pickT rfl rfl rfl) ?_
  refine F_val rfl rfl rfl (O_assign rfl rfl) ?_
  refine F_nil ?_
  refine L_seq ?_
  refine L_region ?_
  refine F_qcall (v := .int .i64 110) (xs := [.const (.int .i64 110)]) rfl rfl rfl rfl Try.func4 nm4 rfl rfl ((valisetop_num.calls (HS42.give [] rfl (Lent.nil)) (rfl : valisetop_num.f 110 = some 110)).mono (fun e w hc => ?_)) (fun w46 hw47 => ?_)
  · obtain ⟨rfl, h⟩ := hc
    exact ⟨rfl, h.chg0⟩
  have HS48 := HS42.keep hw47
  refine F_val rfl rfl rfl (O_eq rfl rfl rfl) ?_
  refine F_know (i := 37) rfl (dec_t (by decide)) ?_
  refine F_val rfl rfl rfl (O_move rfl rfl) ?_
  refine F_gqcall (v := .int .i64 120) (xs := [.const (.int .i64 120)]) rfl rfl rfl rfl rfl rfl rfl Try.func4 nm4 rfl rfl ((valisetop_num.calls (HS48.give [] rfl (Lent.nil)) (rfl : valisetop_num.f 120 = some 120)).mono (fun e w hc => ?_)) (fun w52 hw53 => ?_)
  · obtain ⟨rfl, h⟩ := hc
    exact ⟨rfl, h.chg0⟩
  have HS54 := HS48.keep hw53
  refine F_gval rfl rfl rfl rfl rfl rfl (O_eq rfl rfl rfl) ?_
  refine F_know (i := 40) rfl (dec_t (by decide)) ?_
  refine F_val rfl rfl rfl (O_pickT rfl rfl rfl) ?_
  refine F_val rfl rfl rfl (O_move rfl rfl) ?_
  refine F_gqcall (v := .int .i64 121) (xs := [.const (.int .i64 121)]) rfl rfl rfl rfl rfl rfl rfl Try.func4 nm4 rfl rfl ((valisetop_num.calls (HS54.give [] rfl (Lent.nil)) (rfl : valisetop_num.f 121 = some 121)).mono (fun e w hc => ?_)) (fun w58 hw59 => ?_)
  · obtain ⟨rfl, h⟩ := hc
    exact ⟨rfl, h.chg0⟩
  have HS60 := HS54.keep hw59
  refine F_gval rfl rfl rfl rfl rfl rfl (O_eq rfl rfl rfl) ?_
  refine F_know (i := 44) rfl (dec_t (by decide)) ?_
  refine F_val rfl rfl rfl (O_pickT rfl rfl rfl) ?_
  refine F_val rfl rfl rfl (O_assign rfl rfl) ?_
  refine F_nil ?_
  refine L_seq ?_
  refine L_region ?_
  refine F_qcall (v := .int .i64 122) (xs := [.const (.int .i64 122)]) rfl rfl rfl rfl Try.func4 nm4 rfl rfl ((valisetop_num.calls (HS60.give [] rfl (Lent.nil)) (rfl : valisetop_num.f 122 = some 122)).mono (fun e w hc => ?_)) (fun w64 hw65 => ?_)
  · obtain ⟨rfl, h⟩ := hc
    exact ⟨rfl, h.chg0⟩
  have HS66 := HS60.keep hw65
  refine F_val rfl rfl rfl (O_eq rfl rfl rfl) ?_
  refine F_know (i := 47) rfl (dec_t (by decide)) ?_
  refine F_val rfl rfl rfl (O_move rfl rfl) ?_
  refine F_gqcall (v := .int .i64 123) (xs := [.const (.int .i64 123)]) rfl rfl rfl rfl rfl rfl rfl Try.func4 nm4 rfl rfl ((valisetop_num.calls (HS66.give [] rfl (Lent.nil)) (rfl : valisetop_num.f 123 = some 123)).mono (fun e w hc => ?_)) (fun w70 hw71 => ?_)
  · obtain ⟨rfl, h⟩ := hc
    exact ⟨rfl, h.chg0⟩
  have HS72 := HS66.keep hw71
  refine F_gval rfl rfl rfl rfl rfl rfl (O_eq rfl rfl rfl) ?_
  refine F_know (i := 50) rfl (dec_t (by decide)) ?_
  refine F_val rfl rfl rfl (O_pickT rfl rfl rfl) ?_
  refine F_val rfl rfl rfl (O_move rfl rfl) ?_
  refine F_gqcall (v := .int .i64 124) (xs := [.const (.int .i64 124)]) rfl rfl rfl rfl rfl rfl rfl Try.func4 nm4 rfl rfl ((valisetop_num.calls (HS72.give [] rfl (Lent.nil)) (rfl : valisetop_num.f 124 = some 124)).mono (fun e w hc => ?_)) (fun w76 hw77 => ?_)
  · obtain ⟨rfl, h⟩ := hc
    exact ⟨rfl, h.chg0⟩
  have HS78 := HS72.keep hw77
  refine F_gval rfl rfl rfl rfl rfl rfl (O_eq rfl rfl rfl) ?_
  refine F_know (i := 54) rfl (dec_t (by decide)) ?_
  refine F_val rfl rfl rfl (O_pickT rfl rfl rfl) ?_
  refine F_val rfl rfl rfl (O_assign rfl rfl) ?_
  refine F_nil ?_
  refine L_seq ?_
  refine L_region ?_
  refine F_qcall (v := .int .i64 130) (xs := [.const (.int .i64 130)]) rfl rfl rfl rfl Try.func4 nm4 rfl rfl ((valisetop_num.calls (HS78.give [] rfl (Lent.nil)) (rfl : valisetop_num.f 130 = some 130)).mono (fun e w hc => ?_)) (fun w82 hw83 => ?_)
  · obtain ⟨rfl, h⟩ := hc
    exact ⟨rfl, h.chg0⟩
  have HS84 := HS78.keep hw83
  refine F_val rfl rfl rfl (O_eq rfl rfl rfl) ?_
  refine F_know (i := 57) rfl (dec_t (by decide)) ?_
  refine F_val rfl rfl rfl (O_move rfl rfl) ?_
  refine F_gqcall (v := .int .i64 131) (xs := [.const (.int .i64 131)]) rfl rfl rfl rfl rfl rfl rfl Try.func4 nm4 rfl rfl ((valisetop_num.calls (HS84.give [] rfl (Lent.nil)) (rfl : valisetop_num.f 131 = some 131)).mono (fun e w hc => ?_)) (fun w88 hw89 => ?_)
  · obtain ⟨rfl, h⟩ := hc
    exact ⟨rfl, h.chg0⟩
  have HS90 := HS84.keep hw89
  refine F_gval rfl rfl rfl rfl rfl rfl (O_eq rfl rfl rfl) ?_
  refine F_know (i := 60) rfl (dec_t (by decide)) ?_
  refine F_val rfl rfl rfl (O_pickT rfl rfl rfl) ?_
  refine F_val rfl rfl rfl (O_move rfl rfl) ?_
  refine F_gqcall (v := .int .i64 132) (xs := [.const (.int .i64 132)]) rfl rfl rfl rfl rfl rfl rfl Try.func4 nm4 rfl rfl ((valisetop_num.calls (HS90.give [] rfl (Lent.nil)) (rfl : valisetop_num.f 132 = some 132)).mono (fun e w hc => ?_)) (fun w94 hw95 => ?_)
  · obtain ⟨rfl, h⟩ := hc
    exact ⟨rfl, h.chg0⟩
  have HS96 := HS90.keep hw95
  refine F_gval rfl rfl rfl rfl rfl rfl (O_eq rfl rfl rfl) ?_
  refine F_know (i := 64) rfl (dec_t (by decide)) ?_
  refine F_val rfl rfl rfl (O_pickT rfl rfl rfl) ?_
  refine F_val rfl rfl rfl (O_move rfl rfl) ?_
  refine F_gqcall (v := .int .i64 133) (xs := [.const (.int .i64 133)]) rfl rfl rfl rfl rfl rfl rfl Try.func4 nm4 rfl rfl ((valisetop_num.calls (HS96.give [] rfl (Lent.nil)) (rfl : valisetop_num.f 133 = some 133)).mono (fun e w hc => ?_)) (fun w100 hw101 => ?_)
  · obtain ⟨rfl, h⟩ := hc
    exact ⟨rfl, h.chg0⟩
  have HS102 := HS96.keep hw101
  refine F_gval rfl rfl rfl rfl rfl rfl (O_eq rfl rfl rfl) ?_
  refine F_know (i := 68) rfl (dec_t (by decide)) ?_
  refine F_val rfl rfl rfl (O_pickT rfl rfl rfl) ?_
  refine F_val rfl rfl rfl (O_assign rfl rfl) ?_
  refine F_nil ?_
  refine L_seq ?_
  refine L_region ?_
  refine F_qcall (v := .int .i64 134) (xs := [.const (.int .i64 134)]) rfl rfl rfl rfl Try.func4 nm4 rfl rfl ((valisetop_num.calls (HS102.give [] rfl (Lent.nil)) (rfl : valisetop_num.f 134 = some 134)).mono (fun e w hc => ?_)) (fun w106 hw107 => ?_)
  · obtain ⟨rfl, h⟩ := hc
    exact ⟨rfl, h.chg0⟩
  have HS108 := HS102.keep hw107
  refine F_val rfl rfl rfl (O_eq rfl rfl rfl) ?_
  refine F_know (i := 71) rfl (dec_t (by decide)) ?_
  refine F_val rfl rfl rfl (O_move rfl rfl) ?_
  refine F_gqcall (v := .int .i64 135) (xs := [.const (.int .i64 135)]) rfl rfl rfl rfl rfl rfl rfl Try.func4 nm4 rfl rfl ((valisetop_num.calls (HS108.give [] rfl (Lent.nil)) (rfl : valisetop_num.f 135 = some 135)).mono (fun e w hc => ?_)) (fun w112 hw113 => ?_)
  · obtain ⟨rfl, h⟩ := hc
    exact ⟨rfl, h.chg0⟩
  have HS114 := HS108.keep hw113
  refine F_gval rfl rfl rfl rfl rfl rfl (O_eq rfl rfl rfl) ?_
  refine F_know (i := 74) rfl (dec_t (by decide)) ?_
  refine F_val rfl rfl rfl (O_pickT rfl rfl rfl) ?_
  refine F_val rfl rfl rfl (O_move rfl rfl) ?_
  refine F_gqcall (v := .int .i64 136) (xs := [.const (.int .i64 136)]) rfl rfl rfl rfl rfl rfl rfl Try.func4 nm4 rfl rfl ((valisetop_num.calls (HS114.give [] rfl (Lent.nil)) (rfl : valisetop_num.f 136 = some 136)).mono (fun e w hc => ?_)) (fun w118 hw119 => ?_)
  · obtain ⟨rfl, h⟩ := hc
    exact ⟨rfl, h.chg0⟩
  have HS120 := HS114.keep hw119
  refine F_gval rfl rfl rfl rfl rfl rfl (O_eq rfl rfl rfl) ?_
  refine F_know (i := 78) rfl (dec_t (by decide)) ?_
  refine F_val rfl rfl rfl (O_pickT rfl rfl rfl) ?_
  refine F_val rfl rfl rfl (O_move rfl rfl) ?_
  refine F_gqcall (v := .int .i64 137) (xs := [.const (.int .i64 137)]) rfl rfl rfl rfl rfl rfl rfl Try.func4 nm4 rfl rfl ((valisetop_num.calls (HS120.give [] rfl (Lent.nil)) (rfl : valisetop_num.f 137 = some 137)).mono (fun e w hc => ?_)) (fun w124 hw125 => ?_)
  · obtain ⟨rfl, h⟩ := hc
    exact ⟨rfl, h.chg0⟩
  have HS126 := HS120.keep hw125
  refine F_gval rfl rfl rfl rfl rfl rfl (O_eq rfl rfl rfl) ?_
  refine F_know (i := 82) rfl (dec_t (by decide)) ?_
  refine F_val rfl rfl rfl (O_pickT rfl rfl rfl) ?_
  refine F_val rfl rfl rfl (O_assign rfl rfl) ?_
  refine F_nil ?_
  refine L_seq ?_
  refine L_region ?_
  refine F_qcall (v := .int .i64 140) (xs := [.const (.int .i64 140)]) rfl rfl rfl rfl Try.func4 nm4 rfl rfl ((valisetop_num.calls (HS126.give [] rfl (Lent.nil)) (rfl : valisetop_num.f 140 = some 140)).mono (fun e w hc => ?_)) (fun w130 hw131 => ?_)
  · obtain ⟨rfl, h⟩ := hc
    exact ⟨rfl, h.chg0⟩
  have HS132 := HS126.keep hw131
  refine F_val rfl rfl rfl (O_eq rfl rfl rfl) ?_
  refine F_know (i := 85) rfl (dec_t (by decide)) ?_
  refine F_val rfl rfl rfl (O_move rfl rfl) ?_
  refine F_gqcall (v := .int .i64 141) (xs := [.const (.int .i64 141)]) rfl rfl rfl rfl rfl rfl rfl Try.func4 nm4 rfl rfl ((valisetop_num.calls (HS132.give [] rfl (Lent.nil)) (rfl : valisetop_num.f 141 = some 141)).mono (fun e w hc => ?_)) (fun w136 hw137 => ?_)
  · obtain ⟨rfl, h⟩ := hc
    exact ⟨rfl, h.chg0⟩
  have HS138 := HS132.keep hw137
  refine F_gval rfl rfl rfl rfl rfl rfl (O_eq rfl rfl rfl) ?_
  refine F_know (i := 88) rfl (dec_t (by decide)) ?_
  refine F_val rfl rfl rfl (O_pickT rfl rfl rfl) ?_
  refine F_val rfl rfl rfl (O_move rfl rfl) ?_
  refine F_gqcall (v := .int .i64 142) (xs := [.const (.int .i64 142)]) rfl rfl rfl rfl rfl rfl rfl Try.func4 nm4 rfl rfl ((valisetop_num.calls (HS138.give [] rfl (Lent.nil)) (rfl : valisetop_num.f 142 = some 142)).mono (fun e w hc => ?_)) (fun w142 hw143 => ?_)
  · obtain ⟨rfl, h⟩ := hc
    exact ⟨rfl, h.chg0⟩
  have HS144 := HS138.keep hw143
  refine F_gval rfl rfl rfl rfl rfl rfl (O_eq rfl rfl rfl) ?_
  refine F_know (i := 92) rfl (dec_t (by decide)) ?_
  refine F_val rfl rfl rfl (O_pickT rfl rfl rfl) ?_
  refine F_val rfl rfl rfl (O_move rfl rfl) ?_
  refine F_gqcall (v := .int .i64 143) (xs := [.const (.int .i64 143)]) rfl rfl rfl rfl rfl rfl rfl Try.func4 nm4 rfl rfl ((valisetop_num.calls (HS144.give [] rfl (Lent.nil)) (rfl : valisetop_num.f 143 = some 143)).mono (fun e w hc => ?_)) (fun w148 hw149 => ?_)
  · obtain ⟨rfl, h⟩ := hc
    exact ⟨rfl, h.chg0⟩
  have HS150 := HS144.keep hw149
  refine F_gval rfl rfl rfl rfl rfl rfl (O_eq rfl rfl rfl) ?_
  refine F_know (i := 96) rfl (dec_t (by decide)) ?_
  refine F_val rfl rfl rfl (O_pickT rfl rfl rfl) ?_
  refine F_val rfl rfl rfl (O_assign rfl rfl) ?_
  refine F_nil ?_
  refine L_seq ?_
  refine L_region ?_
  refine F_qcall (v := .int .i64 150) (xs := [.const (.int .i64 150)]) rfl rfl rfl rfl Try.func4 nm4 rfl rfl ((valisetop_num.calls (HS150.give [] rfl (Lent.nil)) (rfl : valisetop_num.f 150 = some 150)).mono (fun e w hc => ?_)) (fun w154 hw155 => ?_)
  · obtain ⟨rfl, h⟩ := hc
    exact ⟨rfl, h.chg0⟩
  have HS156 := HS150.keep hw155
  refine F_val rfl rfl rfl (O_eq rfl rfl rfl) ?_
  refine F_know (i := 99) rfl (dec_t (by decide)) ?_
  refine F_val rfl rfl rfl (O_move rfl rfl) ?_
  refine F_gqcall (v := .int .i64 151) (xs := [.const (.int .i64 151)]) rfl rfl rfl rfl rfl rfl rfl Try.func4 nm4 rfl rfl ((valisetop_num.calls (HS156.give [] rfl (Lent.nil)) (rfl : valisetop_num.f 151 = some 151)).mono (fun e w hc => ?_)) (fun w160 hw161 => ?_)
  · obtain ⟨rfl, h⟩ := hc
    exact ⟨rfl, h.chg0⟩
  have HS162 := HS156.keep hw161
  refine F_gval rfl rfl rfl rfl rfl rfl (O_eq rfl rfl rfl) ?_
  refine F_know (i := 102) rfl (dec_t (by decide)) ?_
  refine F_val rfl rfl rfl (O_pickT rfl rfl rfl) ?_
  refine F_val rfl rfl rfl (O_move rfl rfl) ?_
  refine F_gqcall (v := .int .i64 152) (xs := [.const (.int .i64 152)]) rfl rfl rfl rfl rfl rfl rfl Try.func4 nm4 rfl rfl ((valisetop_num.calls (HS162.give [] rfl (Lent.nil)) (rfl : valisetop_num.f 152 = some 152)).mono (fun e w hc => ?_)) (fun w166 hw167 => ?_)
  · obtain ⟨rfl, h⟩ := hc
    exact ⟨rfl, h.chg0⟩
  have HS168 := HS162.keep hw167
  refine F_gval rfl rfl rfl rfl rfl rfl (O_eq rfl rfl rfl) ?_
  refine F_know (i := 106) rfl (dec_t (by decide)) ?_
  refine F_val rfl rfl rfl (O_pickT rfl rfl rfl) ?_
  refine F_val rfl rfl rfl (O_move rfl rfl) ?_
  refine F_gqcall (v := .int .i64 153) (xs := [.const (.int .i64 153)]) rfl rfl rfl rfl rfl rfl rfl Try.func4 nm4 rfl rfl ((valisetop_num.calls (HS168.give [] rfl (Lent.nil)) (rfl : valisetop_num.f 153 = some 153)).mono (fun e w hc => ?_)) (fun w172 hw173 => ?_)
  · obtain ⟨rfl, h⟩ := hc
    exact ⟨rfl, h.chg0⟩
  have HS174 := HS168.keep hw173
  refine F_gval rfl rfl rfl rfl rfl rfl (O_eq rfl rfl rfl) ?_
  refine F_know (i := 110) rfl (dec_t (by decide)) ?_
  refine F_val rfl rfl rfl (O_pickT rfl rfl rfl) ?_
  refine F_val rfl rfl rfl (O_assign rfl rfl) ?_
  refine F_nil ?_
  refine L_seq ?_
  refine L_region ?_
  refine F_qcall (v := .int .i64 154) (xs := [.const (.int .i64 154)]) rfl rfl rfl rfl Try.func4 nm4 rfl rfl ((valisetop_num.calls (HS174.give [] rfl (Lent.nil)) (rfl : valisetop_num.f 154 = some 154)).mono (fun e w hc => ?_)) (fun w178 hw179 => ?_)
  · obtain ⟨rfl, h⟩ := hc
    exact ⟨rfl, h.chg0⟩
  have HS180 := HS174.keep hw179
  refine F_val rfl rfl rfl (O_eq rfl rfl rfl) ?_
  refine F_know (i := 113) rfl (dec_t (by decide)) ?_
  refine F_val rfl rfl rfl (O_move rfl rfl) ?_
  refine F_gqcall (v := .int .i64 155) (xs := [.const (.int .i64 155)]) rfl rfl rfl rfl rfl rfl rfl Try.func4 nm4 rfl rfl ((valisetop_num.calls (HS180.give [] rfl (Lent.nil)) (rfl : valisetop_num.f 155 = some 155)).mono (fun e w hc => ?_)) (fun w184 hw185 => ?_)
  · obtain ⟨rfl, h⟩ := hc
    exact ⟨rfl, h.chg0⟩
  have HS186 := HS180.keep hw185
  refine F_gval rfl rfl rfl rfl rfl rfl (O_eq rfl rfl rfl) ?_
  refine F_know (i := 116) rfl (dec_t (by decide)) ?_
  refine F_val rfl rfl rfl (O_pickT rfl rfl rfl) ?_
  refine F_val rfl rfl rfl (O_move rfl rfl) ?_
  refine F_gqcall (v := .int .i64 160) (xs := [.const (.int .i64 160)]) rfl rfl rfl rfl rfl rfl rfl Try.func4 nm4 rfl rfl ((valisetop_num.calls (HS186.give [] rfl (Lent.nil)) (rfl : valisetop_num.f 160 = some 160)).mono (fun e w hc => ?_)) (fun w190 hw191 => ?_)
  · obtain ⟨rfl, h⟩ := hc
    exact ⟨rfl, h.chg0⟩
  have HS192 := HS186.keep hw191
  refine F_gval rfl rfl rfl rfl rfl rfl (O_eq rfl rfl rfl) ?_
  refine F_know (i := 120) rfl (dec_t (by decide)) ?_
  refine F_val rfl rfl rfl (O_pickT rfl rfl rfl) ?_
  refine F_val rfl rfl rfl (O_move rfl rfl) ?_
  refine F_gqcall (v := .int .i64 161) (xs := [.const (.int .i64 161)]) rfl rfl rfl rfl rfl rfl rfl Try.func4 nm4 rfl rfl ((valisetop_num.calls (HS192.give [] rfl (Lent.nil)) (rfl : valisetop_num.f 161 = some 161)).mono (fun e w hc => ?_)) (fun w196 hw197 => ?_)
  · obtain ⟨rfl, h⟩ := hc
    exact ⟨rfl, h.chg0⟩
  have HS198 := HS192.keep hw197
  refine F_gval rfl rfl rfl rfl rfl rfl (O_eq rfl rfl rfl) ?_
  refine F_know (i := 124) rfl (dec_t (by decide)) ?_
  refine F_val rfl rfl rfl (O_pickT rfl rfl rfl) ?_
  refine F_val rfl rfl rfl (O_assign rfl rfl) ?_
  refine F_nil ?_
  refine L_seq ?_
  refine L_region ?_
  refine F_qcall (v := .int .i64 170) (xs := [.const (.int .i64 170)]) rfl rfl rfl rfl Try.func4 nm4 rfl rfl ((valisetop_num.calls (HS198.give [] rfl (Lent.nil)) (rfl : valisetop_num.f 170 = some 170)).mono (fun e w hc => ?_)) (fun w202 hw203 => ?_)
  · obtain ⟨rfl, h⟩ := hc
    exact ⟨rfl, h.chg0⟩
  have HS204 := HS198.keep hw203
  refine F_val rfl rfl rfl (O_eq rfl rfl rfl) ?_
  refine F_know (i := 127) rfl (dec_t (by decide)) ?_
  refine F_val rfl rfl rfl (O_move rfl rfl) ?_
  refine F_gqcall (v := .int .i64 171) (xs := [.const (.int .i64 171)]) rfl rfl rfl rfl rfl rfl rfl Try.func4 nm4 rfl rfl ((valisetop_num.calls (HS204.give [] rfl (Lent.nil)) (rfl : valisetop_num.f 171 = some 171)).mono (fun e w hc => ?_)) (fun w208 hw209 => ?_)
  · obtain ⟨rfl, h⟩ := hc
    exact ⟨rfl, h.chg0⟩
  have HS210 := HS204.keep hw209
  refine F_gval rfl rfl rfl rfl rfl rfl (O_eq rfl rfl rfl) ?_
  refine F_know (i := 130) rfl (dec_t (by decide)) ?_
  refine F_val rfl rfl rfl (O_pickT rfl rfl rfl) ?_
  refine F_val rfl rfl rfl (O_assign rfl rfl) ?_
  refine F_nil ?_
  refine L_seq ?_
  refine L_region ?_
  refine F_qcall (v := .int .i64 180) (xs := [.const (.int .i64 180)]) rfl rfl rfl rfl Try.func4 nm4 rfl rfl ((valisetop_num.calls (HS210.give [] rfl (Lent.nil)) (rfl : valisetop_num.f 180 = some 180)).mono (fun e w hc => ?_)) (fun w214 hw215 => ?_)
  · obtain ⟨rfl, h⟩ := hc
    exact ⟨rfl, h.chg0⟩
  have HS216 := HS210.keep hw215
  refine F_val rfl rfl rfl (O_eq rfl rfl rfl) ?_
  refine F_know (i := 133) rfl (dec_t (by decide)) ?_
  refine F_val rfl rfl rfl (O_move rfl rfl) ?_
  refine F_gqcall (v := .int .i64 200) (xs := [.const (.int .i64 200)]) rfl rfl rfl rfl rfl rfl rfl Try.func4 nm4 rfl rfl ((valisetop_num.calls (HS216.give [] rfl (Lent.nil)) (rfl : valisetop_num.f 200 = some 200)).mono (fun e w hc => ?_)) (fun w220 hw221 => ?_)
  · obtain ⟨rfl, h⟩ := hc
    exact ⟨rfl, h.chg0⟩
  have HS222 := HS216.keep hw221
  refine F_gval rfl rfl rfl rfl rfl rfl (O_eq rfl rfl rfl) ?_
  refine F_know (i := 136) rfl (dec_t (by decide)) ?_
  refine F_val rfl rfl rfl (O_pickT rfl rfl rfl) ?_
  refine F_val rfl rfl rfl (O_move rfl rfl) ?_
  refine F_gqcall (v := .int .i64 201) (xs := [.const (.int .i64 201)]) rfl rfl rfl rfl rfl rfl rfl Try.func4 nm4 rfl rfl ((valisetop_num.calls (HS222.give [] rfl (Lent.nil)) (rfl : valisetop_num.f 201 = some 201)).mono (fun e w hc => ?_)) (fun w226 hw227 => ?_)
  · obtain ⟨rfl, h⟩ := hc
    exact ⟨rfl, h.chg0⟩
  have HS228 := HS222.keep hw227
  refine F_gval rfl rfl rfl rfl rfl rfl (O_eq rfl rfl rfl) ?_
  refine F_know (i := 140) rfl (dec_t (by decide)) ?_
  refine F_val rfl rfl rfl (O_pickT rfl rfl rfl) ?_
  refine F_val rfl rfl rfl (O_move rfl rfl) ?_
  refine F_gqcall (v := .int .i64 202) (xs := [.const (.int .i64 202)]) rfl rfl rfl rfl rfl rfl rfl Try.func4 nm4 rfl rfl ((valisetop_num.calls (HS228.give [] rfl (Lent.nil)) (rfl : valisetop_num.f 202 = some 202)).mono (fun e w hc => ?_)) (fun w232 hw233 => ?_)
  · obtain ⟨rfl, h⟩ := hc
    exact ⟨rfl, h.chg0⟩
  have HS234 := HS228.keep hw233
  refine F_gval rfl rfl rfl rfl rfl rfl (O_eq rfl rfl rfl) ?_
  refine F_know (i := 144) rfl (dec_t (by decide)) ?_
  refine F_val rfl rfl rfl (O_pickT rfl rfl rfl) ?_
  refine F_val rfl rfl rfl (O_assign rfl rfl) ?_
  refine F_nil ?_
  refine L_seq ?_
  refine L_region ?_
  refine F_val rfl rfl rfl (O_move rfl rfl) ?_
  refine F_val rfl rfl rfl (O_move rfl rfl) ?_
  refine F_gval rfl rfl rfl rfl rfl rfl (O_move rfl rfl) ?_
  refine F_val rfl rfl rfl (O_pickT rfl rfl rfl) ?_
  refine F_val rfl rfl rfl (O_move rfl rfl) ?_
  refine F_gval rfl rfl rfl rfl rfl rfl (O_move rfl rfl) ?_
  refine F_val rfl rfl rfl (O_pickT rfl rfl rfl) ?_
  refine F_val rfl rfl rfl (O_move rfl rfl) ?_
  refine F_gval rfl rfl rfl rfl rfl rfl (O_move rfl rfl) ?_
  refine F_val rfl rfl rfl (O_pickT rfl rfl rfl) ?_
  refine F_val rfl rfl rfl (O_move rfl rfl) ?_
  refine F_gval rfl rfl rfl rfl rfl rfl (O_move rfl rfl) ?_
  refine F_val rfl rfl rfl (O_pickT rfl rfl rfl) ?_
  refine F_val rfl rfl rfl (O_move rfl rfl) ?_
  refine F_gval rfl rfl rfl rfl rfl rfl (O_move rfl rfl) ?_
  refine F_val rfl rfl rfl (O_pickT rfl rfl rfl) ?_
  refine F_val rfl rfl rfl (O_move rfl rfl) ?_
  refine F_gval rfl rfl rfl rfl rfl rfl (O_move rfl rfl) ?_
  refine F_val rfl rfl rfl (O_pickT rfl rfl rfl) ?_
  refine F_val rfl rfl rfl (O_move rfl rfl) ?_
  refine F_gval rfl rfl rfl rfl rfl rfl (O_move rfl rfl) ?_
  refine F_val rfl rfl rfl (O_pickT rfl rfl rfl) ?_
  refine F_val rfl rfl rfl (O_move rfl rfl) ?_
  refine F_gval rfl rfl rfl rfl rfl rfl (O_move rfl rfl) ?_
  refine F_val rfl rfl rfl (O_pickT rfl rfl rfl) ?_
  refine F_val rfl rfl rfl (O_move rfl rfl) ?_
  refine F_gval rfl rfl rfl rfl rfl rfl (O_move rfl rfl) ?_
  refine F_val rfl rfl rfl (O_pickT rfl rfl rfl) ?_
  refine F_val rfl rfl rfl (O_move rfl rfl) ?_
  refine F_gval rfl rfl rfl rfl rfl rfl (O_move rfl rfl) ?_
  refine F_val rfl rfl rfl (O_pickT rfl rfl rfl) ?_
  refine F_val rfl rfl rfl (O_assign rfl rfl) ?_
  refine F_nil ?_
  refine L_ret (fun a ha => (post_ret1 ha rfl rfl ?_))
  obtain rfl := Option.some.inj H
  exact ⟨rfl, HS234.sel [] rfl⟩

end Go.Proofs.Ytpcenecgmecgmaa
