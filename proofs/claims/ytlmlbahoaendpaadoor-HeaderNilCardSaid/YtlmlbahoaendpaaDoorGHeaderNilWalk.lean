import Derived.Test.YtlmlbahoaendpaaDoorChecked
import Derived.Test.YtlmlbahoaendpaaDoorGHeaderNilPure
set_option linter.unusedVariables false
set_option linter.unusedSimpArgs false
set_option maxRecDepth 10000
set_option maxHeartbeats 1000000
namespace Go.Proofs.YtlmlbahoaendpaaDoor
open Go Go.V Go.V.Pu
theorem mix : Tryd.prog.follows .mixedOrders = true := by kernel_rfl
theorem nm30 : (Tryd.f30.name == "runtime.NumGoroutine") = false := by kernel_rfl
theorem flat65 : Flat Tryd.prog 65 := Flat.of Tryd.underlying65 rfl
theorem nm39 : (Tryd.f39.name == "runtime.NumGoroutine") = false := by kernel_rfl
theorem nm19 : (Tryd.f19.name == "runtime.NumGoroutine") = false := by kernel_rfl
/-! function 30: valise/header.Read -/
theorem header_Read_n0.calls {S0 : Nat → Prop} {w0 : World} {r : List Int × List Int × Int} (HS0 : Hp S0 w0 w0 [.rd (some ⟨0, 0, none⟩) (rowC (Eint .i64) T_header_least), .rd (some ⟨1, 0, none⟩) (rowC (Eint .i64) T_header_further), .rd (some ⟨2, 0, none⟩) (rowC (Eint .i64) T_header_order)]) (h : header_Read_n0.f = some r) :
    Calls Tryd.prog 30 ([.pointer none] : List Value).toArray w0 (fun e w => ∃ (A1 : Option Addr), ∃ (c1 : Nat), ∃ (A2 : Option Addr), ∃ (c2 : Nat), e = .returned (.tuple #[.slice A1 r.1.length c1, .slice A2 r.2.1.length c2, .int .i64 r.2.2]) ∧ Hp S0 w0 w [.own A1 c1 (rowC (Eint .i64) r.1) 3 (Eint .i64).sz, .own A2 c2 (rowC (Eint .i64) r.2.1) 3 (Eint .i64).sz]) := by
  have H : ((some (([] : List Int), ([] : List Int), 1)) : Option (List Int × List Int × Int)) = some r := h
  refine calls_start Tryd.func30 rfl rfl ?_
  refine L_seq ?_
  refine L_region ?_
  refine F_val rfl rfl rfl (O_assign rfl rfl) ?_
  have HS1 := HS0.addNil 3 (Eint .i64).sz
  have HS1 : Hp S0 w0 w0 [.rd (some ⟨0, 0, none⟩) (rowC (Eint .i64) T_header_least), .rd (some ⟨1, 0, none⟩) (rowC (Eint .i64) T_header_further), .rd (some ⟨2, 0, none⟩) (rowC (Eint .i64) T_header_order), .own none 0 (rowC (Eint .i64) ([] : List Int)) 3 (Eint .i64).sz] := HS1
  refine F_val rfl rfl rfl (O_assign rfl rfl) ?_
  have HS3 := HS1.addNil 3 (Eint .i64).sz
  have HS3 : Hp S0 w0 w0 [.rd (some ⟨0, 0, none⟩) (rowC (Eint .i64) T_header_least), .rd (some ⟨1, 0, none⟩) (rowC (Eint .i64) T_header_further), .rd (some ⟨2, 0, none⟩) (rowC (Eint .i64) T_header_order), .own none 0 (rowC (Eint .i64) ([] : List Int)) 3 (Eint .i64).sz, .own none 0 (rowC (Eint .i64) ([] : List Int)) 3 (Eint .i64).sz] := HS3
  refine F_val rfl rfl rfl (O_assign rfl rfl) ?_
  refine F_nil ?_
  refine L_seq ?_
  refine L_seq ?_
  refine L_region ?_
  refine F_val rfl rfl rfl (O_move rfl rfl) ?_
  refine F_val rfl rfl rfl (O_peq rfl rfl rfl Tryd.underlying43) ?_
  refine F_nil ?_
  refine L_cond rfl (fun _ => ?_) (fun hx => by cases hx)
  refine L_seq ?_
  refine L_region ?_
  refine F_val rfl rfl rfl (O_assign rfl rfl) ?_
  have HS5 := HS3.addNil 3 (Eint .i64).sz
  have HS5 : Hp S0 w0 w0 [.rd (some ⟨0, 0, none⟩) (rowC (Eint .i64) T_header_least), .rd (some ⟨1, 0, none⟩) (rowC (Eint .i64) T_header_further), .rd (some ⟨2, 0, none⟩) (rowC (Eint .i64) T_header_order), .own none 0 (rowC (Eint .i64) ([] : List Int)) 3 (Eint .i64).sz, .own none 0 (rowC (Eint .i64) ([] : List Int)) 3 (Eint .i64).sz, .own none 0 (rowC (Eint .i64) ([] : List Int)) 3 (Eint .i64).sz] := HS5
  refine F_val rfl rfl rfl (O_assign rfl rfl) ?_
  have HS7 := HS5.addNil 3 (Eint .i64).sz
  have HS7 : Hp S0 w0 w0 [.rd (some ⟨0, 0, none⟩) (rowC (Eint .i64) T_header_least), .rd (some ⟨1, 0, none⟩) (rowC (Eint .i64) T_header_further), .rd (some ⟨2, 0, none⟩) (rowC (Eint .i64) T_header_order), .own none 0 (rowC (Eint .i64) ([] : List Int)) 3 (Eint .i64).sz, .own none 0 (rowC (Eint .i64) ([] : List Int)) 3 (Eint .i64).sz, .own none 0 (rowC (Eint .i64) ([] : List Int)) 3 (Eint .i64).sz, .own none 0 (rowC (Eint .i64) ([] : List Int)) 3 (Eint .i64).sz] := HS7
  refine F_val rfl rfl rfl (O_assign rfl rfl) ?_
  refine F_nil ?_
  refine L_ret (fun a ha => (post_ret3 ha rfl rfl rfl rfl ?_))
  obtain rfl := Option.some.inj H
  exact ⟨_, _, _, _, rfl, HS7.sel [5, 6] rfl⟩

/-! function 39: valise/header.Write -/
theorem header_Write_n0.calls {S0 : Nat → Prop} {w0 : World} {A_lit_1 : Option Addr} {c_lit_1 : Nat} {A_dist_2 : Option Addr} {c_dist_2 : Nat} {l_lit_1 : List Int} {l_dist_2 : List Int} {r : Int} (HS0 : Hp S0 w0 w0 [.rd A_lit_1 (rowC (Eint .i64) l_lit_1), .rd A_dist_2 (rowC (Eint .i64) l_dist_2), .rd (some ⟨0, 0, none⟩) (rowC (Eint .i64) T_header_least), .rd (some ⟨1, 0, none⟩) (rowC (Eint .i64) T_header_further), .rd (some ⟨2, 0, none⟩) (rowC (Eint .i64) T_header_order)]) (hc_lit_1 : l_lit_1.length ≤ c_lit_1) (hc_dist_2 : l_dist_2.length ≤ c_dist_2) (h : header_Write_n0.f l_lit_1 l_dist_2 = some r) :
    Calls Tryd.prog 39 ([.pointer none, .slice A_lit_1 l_lit_1.length c_lit_1, .slice A_dist_2 l_dist_2.length c_dist_2] : List Value).toArray w0 (fun e w => e = .returned (.int .i64 r) ∧ Hp S0 w0 w []) := by
  have H : ((some 1) : Option (Int)) = some r := h
  refine calls_start Tryd.func39 rfl rfl ?_
  refine L_seq ?_
  refine L_region ?_
  refine F_box (C := [.pointer none]) rfl rfl rfl rfl rfl rfl HS0 (fun w1 g3 HS2 => ?_)
  have HS2 : Hp S0 w0 w1 [.rd A_lit_1 (rowC (Eint .i64) l_lit_1), .rd A_dist_2 (rowC (Eint .i64) l_dist_2), .rd (some ⟨0, 0, none⟩) (rowC (Eint .i64) T_header_least), .rd (some ⟨1, 0, none⟩) (rowC (Eint .i64) T_header_further), .rd (some ⟨2, 0, none⟩) (rowC (Eint .i64) T_header_order), .box g3 [.pointer none] 65] := HS2
  refine F_val rfl rfl rfl (O_assign rfl rfl) ?_
  refine F_nil ?_
  refine L_seq ?_
  refine L_seq ?_
  refine L_region ?_
  refine F_val rfl rfl rfl (O_loadB rfl rfl flat65 (HS2.cells_box (i := 5) rfl) rfl) ?_
  refine F_val rfl rfl rfl (O_peq rfl rfl rfl Tryd.underlying65) ?_
  refine F_nil ?_
  refine L_cond rfl (fun _ => ?_) (fun hx => by cases hx)
  refine L_seq ?_
  refine L_region ?_
  refine F_val rfl rfl rfl (O_assign rfl rfl) ?_
  refine F_nil ?_
  refine L_ret (fun a ha => (post_ret1 ha rfl rfl ?_))
  obtain rfl := Option.some.inj H
  exact ⟨rfl, HS2.sel [] rfl⟩

/-! function 19: valise/valiselaw7.num -/
theorem valiselaw7_num.calls {S0 : Nat → Prop} {w0 : World} {e_0 : Int} {r : Int} (HS0 : Hp S0 w0 w0 []) (h : valiselaw7_num.f e_0 = some r) :
    Calls Tryd.prog 19 ([.int .i64 e_0] : List Value).toArray w0 (fun e w => e = .returned (.int .i64 r) ∧ Hp S0 w0 w []) := by
  have H : ((some e_0) : Option (Int)) = some r := h
  refine calls_start Tryd.func19 rfl rfl ?_
  refine L_seq ?_
  refine L_region ?_
  refine F_val rfl rfl rfl (O_assign rfl rfl) ?_
  refine F_nil ?_
  refine L_seq ?_
  refine L_region ?_
  refine F_val rfl rfl rfl (O_move rfl rfl) ?_
  refine F_val rfl rfl rfl (O_assign rfl rfl) ?_
  refine F_nil ?_
  refine L_ret (fun a ha => (post_ret1 ha rfl rfl ?_))
  obtain rfl := Option.some.inj H
  exact ⟨rfl, HS0.sel [] rfl⟩

/-! function 11: valise/valiselaw7.HeaderNil -/
theorem valiselaw7_HeaderNil.calls {S0 : Nat → Prop} {w0 : World} {r : Bool} (HS0 : Hp S0 w0 w0 [.rd (some ⟨0, 0, none⟩) (rowC (Eint .i64) T_header_least), .rd (some ⟨1, 0, none⟩) (rowC (Eint .i64) T_header_further), .rd (some ⟨2, 0, none⟩) (rowC (Eint .i64) T_header_order)]) (h : valiselaw7_HeaderNil.f = some r) :
    Calls Tryd.prog 11 ([] : List Value).toArray w0 (fun e w => e = .returned (.bool r) ∧ Hp S0 w0 w []) := by
  have H : (((header_Read_n0.f).bind fun (z5, z6, z7) => (header_Write_n0.f ([] : List Int) ([] : List Int)).bind fun z18 => some (decide ((((z7 = 1) ∧ (z18 = 1)) ∧ ((z5.length : Int) = 0)) ∧ ((z6.length : Int) = 0)))) : Option (Bool)) = some r := h
  refine calls_start Tryd.func11 rfl rfl ?_
  refine L_seq ?_
  refine L_region ?_
  refine F_val rfl rfl rfl (O_assign rfl rfl) ?_
  refine F_nil ?_
  refine L_seq ?_
  refine L_region ?_
  obtain ⟨⟨z5, z6, z7⟩, h4, H⟩ := of_bind H
  refine F_call (xs := [.const (.pointer none)]) rfl rfl rfl rfl Tryd.func30 nm30 rfl rfl ((header_Read_n0.calls (HS0.give [] rfl (Lent.rd HS0 (Lent.rd HS0 (Lent.rd HS0 (Lent.nil) (i := 2) rfl (HS0.cells_rd (i := 2) rfl).self) (i := 1) rfl (HS0.cells_rd (i := 1) rfl).self) (i := 0) rfl (HS0.cells_rd (i := 0) rfl).self)) h4).mono (fun e w hc => ?_))
  obtain ⟨A10, c11, A13, c14, rfl, HSo⟩ := hc
  refine ⟨.tuple #[.slice A10 z5.length c11, .slice A13 z6.length c14, .int .i64 z7], rfl, ?_⟩
  have HS9 : Hp S0 w0 w [.rd (some ⟨0, 0, none⟩) (rowC (Eint .i64) T_header_least), .rd (some ⟨1, 0, none⟩) (rowC (Eint .i64) T_header_further), .rd (some ⟨2, 0, none⟩) (rowC (Eint .i64) T_header_order), .own A10 c11 (rowC (Eint .i64) z5) 3 (Eint .i64).sz, .own A13 c14 (rowC (Eint .i64) z6) 3 (Eint .i64).sz] := (HS0.back [] HSo rfl).sel [0, 1, 2, 3, 4] rfl
  refine F_val rfl rfl rfl (O_move rfl rfl) ?_
  refine F_val rfl rfl rfl (O_extract (v := .slice A10 z5.length c11) rfl rfl rfl) ?_
  refine F_val rfl rfl rfl (O_extract (v := .slice A13 z6.length c14) rfl rfl rfl) ?_
  refine F_val rfl rfl rfl (O_extract (v := .int .i64 z7) rfl rfl rfl) ?_
  refine F_val rfl rfl rfl (O_assign rfl rfl) ?_
  refine F_val rfl rfl rfl (O_assign rfl rfl) ?_
  refine F_val rfl rfl rfl (O_assign rfl rfl) ?_
  refine F_nil ?_
  refine L_seq ?_
  refine L_region ?_
  obtain ⟨z18, h17, H⟩ := of_bind H
  refine F_qcall (v := .int .i64 z18) (xs := [.const (.pointer none), .const (.slice none 0 0), .const (.slice none 0 0)]) rfl rfl rfl rfl Tryd.func39 nm39 rfl rfl ((header_Write_n0.calls (HS9.give [] rfl (Lent.nilrd (Lent.nilrd (Lent.rd HS9 (Lent.rd HS9 (Lent.rd HS9 (Lent.nil) (i := 2) rfl (HS9.cells_rd (i := 2) rfl).self) (i := 1) rfl (HS9.cells_rd (i := 1) rfl).self) (i := 0) rfl (HS9.cells_rd (i := 0) rfl).self)))) (Nat.zero_le _) (Nat.zero_le _) h17).mono (fun e w hc => ?_)) (fun w19 hw20 => ?_)
  · obtain ⟨rfl, h⟩ := hc
    exact ⟨rfl, h.chg0⟩
  have HS21 := HS9.keep hw20
  refine F_val rfl rfl rfl (O_assign rfl rfl) ?_
  refine F_nil ?_
  refine L_seq ?_
  refine L_region ?_
  refine F_val rfl rfl rfl (O_move rfl rfl) ?_
  refine F_qcall (v := .int .i64 z7) (xs := [.tmp 11]) rfl rfl rfl rfl Tryd.func19 nm19 rfl rfl ((valiselaw7_num.calls (HS21.give [] rfl (Lent.nil)) (rfl : valiselaw7_num.f z7 = some z7)).mono (fun e w hc => ?_)) (fun w25 hw26 => ?_)
  · obtain ⟨rfl, h⟩ := hc
    exact ⟨rfl, h.chg0⟩
  have HS27 := HS21.keep hw26
  refine F_val rfl rfl rfl (O_eq rfl rfl rfl) ?_
  refine F_val rfl rfl rfl (O_move rfl rfl) ?_
  refine F_grpQ 4 [(18, .bool (decide ((z7 = 1) ∧ (z18 = 1)))), (1, .slice A10 z5.length c11), (2, .slice A13 z6.length c14)] ?_ (fun w34 hw35 => ?_)
  · rcases Decidable.em (z7 = 1) with c37 | c37
    · refine F_know (i := 14) rfl (dec_t c37) ?_
      refine F_gval rfl rfl rfl rfl rfl rfl (O_move rfl rfl) ?_
      refine F_gqcall (v := .int .i64 z18) (xs := [.tmp 15]) rfl rfl rfl rfl rfl rfl rfl Tryd.func19 nm19 rfl rfl ((valiselaw7_num.calls (HS27.give [] rfl (Lent.nil)) (rfl : valiselaw7_num.f z18 = some z18)).mono (fun e w hc => ?_)) (fun w41 hw42 => ?_)
      · obtain ⟨rfl, h⟩ := hc
        exact ⟨rfl, h.chg0⟩
      have HS43 := HS27.keep hw42
      refine F_gval rfl rfl rfl rfl rfl rfl (O_eq rfl rfl rfl) ?_
      refine F_val rfl rfl rfl (O_pickT rfl rfl rfl) ?_
      refine F_know (i := 18) rfl (dec_and_t (q := z18 = 1) c37) ?_
      exact F_grpQE ((Chg.refl NoB _).trans hw42) (fun a ha => Is.cons ha (Is.cons ha (Is.cons ha (Is.nil ha) rfl) rfl) rfl)
    · refine F_know (i := 14) rfl (dec_f c37) ?_
      refine F_gskip rfl rfl rfl rfl rfl rfl rfl ?_
      refine F_gskip rfl rfl rfl rfl rfl rfl rfl ?_
      refine F_gskip rfl rfl rfl rfl rfl rfl rfl ?_
      refine F_val rfl rfl rfl (O_pickF rfl rfl rfl) ?_
      refine F_know (i := 18) rfl (dec_and_f (q := z18 = 1) c37) ?_
      exact F_grpQE (Chg.refl NoB _) (fun a ha => Is.cons ha (Is.cons ha (Is.cons ha (Is.nil ha) rfl) rfl) rfl)
  · have HS36 := HS27.keep hw35
    refine F_val rfl rfl rfl (O_move rfl rfl) ?_
    refine F_grp 4 [(23, .bool (decide (((z7 = 1) ∧ (z18 = 1)) ∧ ((z5.length : Int) = 0)))), (2, .slice A13 z6.length c14)] ?_ ?_
    · rcases Decidable.em ((z7 = 1) ∧ (z18 = 1)) with c47 | c47
      · refine F_know (i := 19) rfl (dec_t c47) ?_
        refine F_gval rfl rfl rfl rfl rfl rfl (O_move rfl rfl) ?_
        refine F_gval rfl rfl rfl rfl rfl rfl (O_len rfl rfl Tryd.underlying26) ?_
        refine F_gval rfl rfl rfl rfl rfl rfl (O_eq rfl rfl rfl) ?_
        refine F_val rfl rfl rfl (O_pickT rfl rfl rfl) ?_
        refine F_know (i := 23) rfl (dec_and_t (q := (z5.length : Int) = 0) c47) ?_
        exact F_grpE (fun a ha => Is.cons ha (Is.cons ha (Is.nil ha) rfl) rfl)
      · refine F_know (i := 19) rfl (dec_f c47) ?_
        refine F_gskip rfl rfl rfl rfl rfl rfl rfl ?_
        refine F_gskip rfl rfl rfl rfl rfl rfl rfl ?_
        refine F_gskip rfl rfl rfl rfl rfl rfl rfl ?_
        refine F_val rfl rfl rfl (O_pickF rfl rfl rfl) ?_
        refine F_know (i := 23) rfl (dec_and_f (q := (z5.length : Int) = 0) c47) ?_
        exact F_grpE (fun a ha => Is.cons ha (Is.cons ha (Is.nil ha) rfl) rfl)
    · skip
      refine F_val rfl rfl rfl (O_move rfl rfl) ?_
      refine F_grp 4 [(28, .bool (decide ((((z7 = 1) ∧ (z18 = 1)) ∧ ((z5.length : Int) = 0)) ∧ ((z6.length : Int) = 0))))] ?_ ?_
      · rcases Decidable.em (((z7 = 1) ∧ (z18 = 1)) ∧ ((z5.length : Int) = 0)) with c51 | c51
        · refine F_know (i := 24) rfl (dec_t c51) ?_
          refine F_gval rfl rfl rfl rfl rfl rfl (O_move rfl rfl) ?_
          refine F_gval rfl rfl rfl rfl rfl rfl (O_len rfl rfl Tryd.underlying26) ?_
          refine F_gval rfl rfl rfl rfl rfl rfl (O_eq rfl rfl rfl) ?_
          refine F_val rfl rfl rfl (O_pickT rfl rfl rfl) ?_
          refine F_know (i := 28) rfl (dec_and_t (q := (z6.length : Int) = 0) c51) ?_
          exact F_grpE (fun a ha => Is.cons ha (Is.nil ha) rfl)
        · refine F_know (i := 24) rfl (dec_f c51) ?_
          refine F_gskip rfl rfl rfl rfl rfl rfl rfl ?_
          refine F_gskip rfl rfl rfl rfl rfl rfl rfl ?_
          refine F_gskip rfl rfl rfl rfl rfl rfl rfl ?_
          refine F_val rfl rfl rfl (O_pickF rfl rfl rfl) ?_
          refine F_know (i := 28) rfl (dec_and_f (q := (z6.length : Int) = 0) c51) ?_
          exact F_grpE (fun a ha => Is.cons ha (Is.nil ha) rfl)
      · skip
        refine F_val rfl rfl rfl (O_assign rfl rfl) ?_
        refine F_nil ?_
        refine L_ret (fun a ha => (post_ret1 ha rfl rfl ?_))
        obtain rfl := Option.some.inj H
        exact ⟨rfl, HS36.sel [] rfl⟩

end Go.Proofs.YtlmlbahoaendpaaDoor
