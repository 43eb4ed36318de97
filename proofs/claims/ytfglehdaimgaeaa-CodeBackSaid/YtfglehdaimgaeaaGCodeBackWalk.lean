import Derived.Test.YtfglehdaimgaeaaGCodeBackWalk1
set_option linter.unusedVariables false
set_option linter.unusedSimpArgs false
set_option maxRecDepth 10000
set_option maxHeartbeats 1000000
namespace Go.Proofs.Ytfglehdaimgaeaa
open Go Go.V Go.V.Pu
/-! function 12: valise/valiselaw5.CodeBack -/
theorem valiselaw5_CodeBack.calls {S0 : Nat → Prop} {w0 : World} {A_lens_0 : Option Addr} {c_lens_0 : Nat} {A_symbols_2 : Option Addr} {c_symbols_2 : Nat} {l_lens_0 : List Int} {lead_1 : Int} {l_symbols_2 : List Int} {r : Bool} (HS0 : Hp S0 w0 w0 [.rd A_lens_0 (rowC (Eint .i64) l_lens_0), .rd A_symbols_2 (rowC (Eint .i64) l_symbols_2)]) (hc_lens_0 : l_lens_0.length ≤ c_lens_0) (hc_symbols_2 : l_symbols_2.length ≤ c_symbols_2) (h : valiselaw5_CodeBack.f l_lens_0 lead_1 l_symbols_2 = some r) :
    Calls Try.prog 12 ([.slice A_lens_0 l_lens_0.length c_lens_0, .int .i64 lead_1, .slice A_symbols_2 l_symbols_2.length c_symbols_2] : List Value).toArray w0 (fun e w => e = .returned (.bool r) ∧ Hp S0 w0 w []) := by
  have H : (((valiselaw5_copied.f l_lens_0).bind fun z5 => (code_NewDecoder.f z5).bind fun (z15, z16) => onO z15 ((valiselaw5_copied.f l_lens_0).bind fun z23 => (code_NewEncoder.f z23).bind fun (z33, z34) => onO z33 ((valiselaw5_copied.f l_lens_0).bind fun z42 => (code_Check.f z42).bind fun (z50, z51) => (code_Check.f [1, 1]).bind fun (z80, z81) => if (z80 ≠ 4) ∨ (z81 ≠ 0) then (some false) else (if 16777216 < (l_symbols_2.length : Int) then (some true) else (if ¬ ((z51 = 0) ∧ ((z50 = 4) ∨ (z50 = 1))) then (some (decide (z16 ≠ 0))) else ((bits_NewWriter.f).bind fun (z115, z116) => some false)))) fun (z125, z126, z127, z128) => (valiselaw5_copied.f l_lens_0).bind fun z144 => (code_Check.f z144).bind fun (z152, z153) => (code_Check.f [1, 1]).bind fun (z182, z183) => if (z182 ≠ 4) ∨ (z183 ≠ 0) then (some false) else (if 16777216 < (l_symbols_2.length : Int) then (some true) else (if ¬ ((z153 = 0) ∧ ((z152 = 4) ∨ (z152 = 1))) then (some (decide (z16 ≠ 0))) else ((bits_NewWriter.f).bind fun (z220, z221) => some false)))) fun (z230, z231, z232, z233, z234) => (valiselaw5_copied.f l_lens_0).bind fun z252 => (code_NewEncoder.f z252).bind fun (z262, z263) => onO z262 ((valiselaw5_copied.f l_lens_0).bind fun z271 => (code_Check.f z271).bind fun (z279, z280) => (code_Check.f [1, 1]).bind fun (z309, z310) => if (z309 ≠ 4) ∨ (z310 ≠ 0) then (some false) else (if 16777216 < (l_symbols_2.length : Int) then (some true) else (if ¬ ((z280 = 0) ∧ ((z279 = 4) ∨ (z279 = 1))) then (some false) else ((bits_NewWriter.f).bind fun (z340, z341) => some false)))) fun (z350, z351, z352, z353) => (valiselaw5_copied.f l_lens_0).bind fun z369 => (code_Check.f z369).bind fun (z377, z378) => (code_Check.f [1, 1]).bind fun (z407, z408) => if (z407 ≠ 4) ∨ (z408 ≠ 0) then (some false) else (if 16777216 < (l_symbols_2.length : Int) then (some true) else (if ¬ ((z378 = 0) ∧ ((z377 = 4) ∨ (z377 = 1))) then (some false) else ((bits_NewWriter.f).bind fun (z439, z440) => if ((z16 ≠ 0) ∨ (z263 ≠ 0)) ∧ true then (some false) else ((bits_Writer_Put.f z439 z440 0 lead_1).bind fun (z480, z481, z482) => (bits_Writer_Len.f z481 z482).bind fun z489 => (valiselaw5_CodeBack.l1 FU z481 ([] : List Int) z482 0 l_lens_0 l_symbols_2 z350 z351 z352 z353).bind fun (yj495 : Sum (Bool) (List Int × List Int × Int)) => onR yj495 (fun r => some r) fun (l733, l736, y737) => (bits_Writer_Bytes.f l733 y737).bind fun z979 => (bits_NewReader.f z979).bind fun z989 => onO z989 (some false) fun (z993, z994) => (bits_Reader_Skip.f z993 z994 z489).bind fun (z1006, z1007, z1008) => if z1006 ≠ 0 then (some false) else ((valiselaw5_CodeBack.l3 FU z1007 z1008 0 z230 z231 z232 z233 z234 l736).bind fun (yj1021 : Sum (Bool) (List Int × Int)) => onR yj1021 (fun r => some r) fun (l1145, y1146) => (bits_Reader_At.f l1145 y1146).bind fun z1272 => (bits_Writer_Len.f l733 y737).bind fun z1278 => some (decide (z1272 = z1278)))))))) : Option (Bool)) = some r := h
  refine calls_start Try.func12 rfl rfl ?_
  refine L_seq ?_
  refine L_region ?_
  refine F_val rfl rfl rfl (O_assign rfl rfl) ?_
  refine F_nil ?_
  refine L_seq ?_
  refine L_region ?_
  refine F_val rfl rfl rfl (O_move rfl rfl) ?_
  obtain ⟨z5, h4, H⟩ := of_bind H
  refine F_call (xs := [.tmp 28]) rfl rfl rfl rfl Try.func28 nm28 rfl rfl ((valiselaw5_copied.calls (HS0.give [] rfl (Lent.rd HS0 (Lent.nil) (i := 0) rfl ((HS0.cells_rd (i := 0) rfl).self))) hc_lens_0 h4).mono (fun e w hc => ?_))
  obtain ⟨A8, c9, rfl, HSo⟩ := hc
  refine ⟨.slice A8 z5.length c9, rfl, ?_⟩
  have HS7 : Hp S0 w0 w [.rd A_lens_0 (rowC (Eint .i64) l_lens_0), .rd A_symbols_2 (rowC (Eint .i64) l_symbols_2), .own A8 c9 (rowC (Eint .i64) z5) 3 (Eint .i64).sz] := (HS0.back [] HSo rfl).sel [0, 1, 2] rfl
  obtain ⟨⟨z15, z16⟩, h14, H⟩ := of_bind H
  rcases z15 with _ | z15
  · refine F_call (xs := [.tmp 29]) rfl rfl rfl rfl Try.func45 nm45 rfl rfl ((code_NewDecoder.calls (HS7.give [] rfl (Lent.own HS7 (Lent.nil) (i := 2) rfl rfl ((HS7.cells_own (i := 2) rfl).self))) (HS7.own_capE (i := 2) rfl (by decide)) h14).mono (fun e w hc => ?_))
    have H := (onO_none _ _).symm.trans H
    obtain ⟨rfl, HSo⟩ := hc
    refine ⟨.tuple #[.pointer none, .int .i64 z16], rfl, ?_⟩
    have HS18 : Hp S0 w0 w [.rd A_lens_0 (rowC (Eint .i64) l_lens_0), .rd A_symbols_2 (rowC (Eint .i64) l_symbols_2), .own A8 c9 (rowC (Eint .i64) z5) 3 (Eint .i64).sz] := (HS7.back [] HSo rfl).sel [0, 1, 2] rfl
    refine F_val rfl rfl rfl (O_move rfl rfl) ?_
    refine F_val rfl rfl rfl (O_extract (v := .pointer none) rfl rfl rfl) ?_
    refine F_val rfl rfl rfl (O_extract (v := .int .i64 z16) rfl rfl rfl) ?_
    refine F_val rfl rfl rfl (O_assign rfl rfl) ?_
    refine F_val rfl rfl rfl (O_assign rfl rfl) ?_
    refine F_nil ?_
    refine L_seq ?_
    refine L_region ?_
    refine F_val rfl rfl rfl (O_move rfl rfl) ?_
    obtain ⟨z23, h22, H⟩ := of_bind H
    refine F_call (xs := [.tmp 34]) rfl rfl rfl rfl Try.func28 nm28 rfl rfl ((valiselaw5_copied.calls (HS18.give [] rfl (Lent.rd HS18 (Lent.nil) (i := 0) rfl ((HS18.cells_rd (i := 0) rfl).self))) hc_lens_0 h22).mono (fun e w hc => ?_))
    obtain ⟨A26, c27, rfl, HSo⟩ := hc
    refine ⟨.slice A26 z23.length c27, rfl, ?_⟩
    have HS25 : Hp S0 w0 w [.rd A_lens_0 (rowC (Eint .i64) l_lens_0), .rd A_symbols_2 (rowC (Eint .i64) l_symbols_2), .own A8 c9 (rowC (Eint .i64) z5) 3 (Eint .i64).sz, .own A26 c27 (rowC (Eint .i64) z23) 3 (Eint .i64).sz] := (HS18.back [] HSo rfl).sel [0, 1, 2, 3] rfl
    obtain ⟨⟨z33, z34⟩, h32, H⟩ := of_bind H
    rcases z33 with _ | z33
    · refine F_call (xs := [.tmp 35]) rfl rfl rfl rfl Try.func30 nm30 rfl rfl ((code_NewEncoder.calls (HS25.give [] rfl (Lent.own HS25 (Lent.nil) (i := 3) rfl rfl ((HS25.cells_own (i := 3) rfl).self))) (HS25.own_capE (i := 3) rfl (by decide)) h32).mono (fun e w hc => ?_))
      have H := (onO_none _ _).symm.trans H
      obtain ⟨rfl, HSo⟩ := hc
      refine ⟨.tuple #[.pointer none, .int .i64 z34], rfl, ?_⟩
      have HS36 : Hp S0 w0 w [.rd A_lens_0 (rowC (Eint .i64) l_lens_0), .rd A_symbols_2 (rowC (Eint .i64) l_symbols_2), .own A8 c9 (rowC (Eint .i64) z5) 3 (Eint .i64).sz, .own A26 c27 (rowC (Eint .i64) z23) 3 (Eint .i64).sz] := (HS25.back [] HSo rfl).sel [0, 1, 2, 3] rfl
      refine F_val rfl rfl rfl (O_move rfl rfl) ?_
      refine F_val rfl rfl rfl (O_extract (v := .pointer none) rfl rfl rfl) ?_
      refine F_val rfl rfl rfl (O_extract (v := .int .i64 z34) rfl rfl rfl) ?_
      refine F_val rfl rfl rfl (O_assign rfl rfl) ?_
      refine F_val rfl rfl rfl (O_assign rfl rfl) ?_
      refine F_nil ?_
      refine L_seq ?_
      have HS37 : Hp S0 w0 w [.rd A_lens_0 (rowC (Eint .i64) l_lens_0), .rd A_symbols_2 (rowC (Eint .i64) l_symbols_2)] := HS36.sel [0, 1] rfl
      refine L_region ?_
      refine F_val rfl rfl rfl (O_move rfl rfl) ?_
      obtain ⟨z42, h41, H⟩ := of_bind H
      refine F_call (xs := [.tmp 40]) rfl rfl rfl rfl Try.func28 nm28 rfl rfl ((valiselaw5_copied.calls (HS37.give [] rfl (Lent.rd HS37 (Lent.nil) (i := 0) rfl ((HS37.cells_rd (i := 0) rfl).self))) hc_lens_0 h41).mono (fun e w hc => ?_))
      obtain ⟨A45, c46, rfl, HSo⟩ := hc
      refine ⟨.slice A45 z42.length c46, rfl, ?_⟩
      have HS44 : Hp S0 w0 w [.rd A_lens_0 (rowC (Eint .i64) l_lens_0), .rd A_symbols_2 (rowC (Eint .i64) l_symbols_2), .own A45 c46 (rowC (Eint .i64) z42) 3 (Eint .i64).sz] := (HS37.back [] HSo rfl).sel [0, 1, 2] rfl
      obtain ⟨⟨z50, z51⟩, h49, H⟩ := of_bind H
      refine F_qcall (v := .tuple #[.int .i64 z50, .int .i64 z51]) (xs := [.tmp 41]) rfl rfl rfl rfl Try.func21 nm21 rfl rfl ((code_Check.calls (HS44.give [] rfl (Lent.own HS44 (Lent.nil) (i := 2) rfl rfl ((HS44.cells_own (i := 2) rfl).self))) (HS44.own_capE (i := 2) rfl (by decide)) h49).mono (fun e w hc => ?_)) (fun w52 hw53 => ?_)
      · obtain ⟨rfl, h⟩ := hc
        exact ⟨rfl, h.chg0⟩
      have HS54 := HS44.keep hw53
      refine F_val rfl rfl rfl (O_move rfl rfl) ?_
      refine F_val rfl rfl rfl (O_extract (v := .int .i64 z50) rfl rfl rfl) ?_
      refine F_val rfl rfl rfl (O_extract (v := .int .i64 z51) rfl rfl rfl) ?_
      refine F_val rfl rfl rfl (O_assign rfl rfl) ?_
      refine F_val rfl rfl rfl (O_assign rfl rfl) ?_
      refine F_nil ?_
      refine L_seq ?_
      refine L_region ?_
      refine F_val rfl rfl rfl (O_move rfl rfl) ?_
      refine F_qcall (v := .int .i64 z51) (xs := [.tmp 45]) rfl rfl rfl rfl Try.func23 nm23 rfl rfl ((valiselaw5_num.calls (HS54.give [] rfl (Lent.nil)) (rfl : valiselaw5_num.f z51 = some z51)).mono (fun e w hc => ?_)) (fun w58 hw59 => ?_)
      · obtain ⟨rfl, h⟩ := hc
        exact ⟨rfl, h.chg0⟩
      have HS60 := HS54.keep hw59
      refine F_val rfl rfl rfl (O_eq rfl rfl rfl) ?_
      refine F_val rfl rfl rfl (O_move rfl rfl) ?_
      refine F_grp 7 [(55, .bool (decide ((z51 = 0) ∧ ((z50 = 4) ∨ (z50 = 1))))), (0, .slice A_lens_0 l_lens_0.length c_lens_0), (1, .int .i64 lead_1), (2, .slice A_symbols_2 l_symbols_2.length c_symbols_2), (7, .pointer none), (8, .int .i64 z16), (9, .pointer none), (10, .int .i64 z34)] ?_ ?_
      · rcases Decidable.em (z51 = 0) with c68 | c68
        · refine F_know (i := 48) rfl (dec_t c68) ?_
          refine F_gval rfl rfl rfl rfl rfl rfl (O_move rfl rfl) ?_
          refine F_gval rfl rfl rfl rfl rfl rfl (O_eq rfl rfl rfl) ?_
          refine F_gval rfl rfl rfl rfl rfl rfl (O_move rfl rfl) ?_
          refine F_grp 3 [(54, .bool (decide ((z50 = 4) ∨ (z50 = 1)))), (0, .slice A_lens_0 l_lens_0.length c_lens_0), (1, .int .i64 lead_1), (2, .slice A_symbols_2 l_symbols_2.length c_symbols_2), (7, .pointer none), (8, .int .i64 z16), (9, .pointer none), (10, .int .i64 z34), (48, .bool true)] ?_ ?_
          · rcases Decidable.em (z50 = 4) with c72 | c72
            · refine F_know (i := 51) rfl (dec_t c72) ?_
              refine F_gskip rfl rfl rfl rfl rfl rfl rfl ?_
              refine F_gskip rfl rfl rfl rfl rfl rfl rfl ?_
              refine F_gval rfl rfl rfl rfl rfl rfl (O_pickT rfl rfl rfl) ?_
              refine F_know (i := 54) rfl (dec_or_t (q := z50 = 1) c72) ?_
              exact F_grpE (fun a ha => Is.cons ha (Is.cons ha (Is.cons ha (Is.cons ha (Is.cons ha (Is.cons ha (Is.cons ha (Is.cons ha (Is.cons ha (Is.nil ha) rfl) rfl) rfl) rfl) rfl) rfl) rfl) rfl) rfl)
            · refine F_know (i := 51) rfl (dec_f c72) ?_
              refine F_gval rfl rfl rfl rfl rfl rfl (O_move rfl rfl) ?_
              refine F_gval rfl rfl rfl rfl rfl rfl (O_eq rfl rfl rfl) ?_
              refine F_gval rfl rfl rfl rfl rfl rfl (O_pickF rfl rfl rfl) ?_
              refine F_know (i := 54) rfl (dec_or_f (q := z50 = 1) c72) ?_
              exact F_grpE (fun a ha => Is.cons ha (Is.cons ha (Is.cons ha (Is.cons ha (Is.cons ha (Is.cons ha (Is.cons ha (Is.cons ha (Is.cons ha (Is.nil ha) rfl) rfl) rfl) rfl) rfl) rfl) rfl) rfl) rfl)
          · skip
            refine F_val rfl rfl rfl (O_pickT rfl rfl rfl) ?_
            refine F_know (i := 55) rfl (dec_and_t (q := (z50 = 4) ∨ (z50 = 1)) c68) ?_
            exact F_grpE (fun a ha => Is.cons ha (Is.cons ha (Is.cons ha (Is.cons ha (Is.cons ha (Is.cons ha (Is.cons ha (Is.cons ha (Is.nil ha) rfl) rfl) rfl) rfl) rfl) rfl) rfl) rfl)
        · refine F_know (i := 48) rfl (dec_f c68) ?_
          refine F_gskip rfl rfl rfl rfl rfl rfl rfl ?_
          refine F_gskip rfl rfl rfl rfl rfl rfl rfl ?_
          refine F_gskip rfl rfl rfl rfl rfl rfl rfl ?_
          refine F_gskip rfl rfl rfl rfl rfl rfl rfl ?_
          refine F_gskip rfl rfl rfl rfl rfl rfl rfl ?_
          refine F_gskip rfl rfl rfl rfl rfl rfl rfl ?_
          refine F_val rfl rfl rfl (O_pickF rfl rfl rfl) ?_
          refine F_know (i := 55) rfl (dec_and_f (q := (z50 = 4) ∨ (z50 = 1)) c68) ?_
          exact F_grpE (fun a ha => Is.cons ha (Is.cons ha (Is.cons ha (Is.cons ha (Is.cons ha (Is.cons ha (Is.cons ha (Is.cons ha (Is.nil ha) rfl) rfl) rfl) rfl) rfl) rfl) rfl) rfl)
      · skip
        refine F_val rfl rfl rfl (O_assign rfl rfl) ?_
        refine F_nil ?_
        refine L_seq ?_
        refine L_region ?_
        refine F_litE (E := (Eint .i64)) (e := 3) [(0, .int .i64 1), (1, .int .i64 1)] [1, 1] rfl rfl rfl rfl rfl rfl rfl (by decide) (fun w => by kernel_rfl) HS60 (fun w73 A75 c76 HS74 => ?_)
        have HS74 : Hp S0 w0 w73 [.rd A_lens_0 (rowC (Eint .i64) l_lens_0), .rd A_symbols_2 (rowC (Eint .i64) l_symbols_2), .own A45 c46 (rowC (Eint .i64) z42) 3 (Eint .i64).sz, .own A75 c76 (rowC (Eint .i64) [1, 1]) 3 (Eint .i64).sz] := HS74
        obtain ⟨⟨z80, z81⟩, h79, H⟩ := of_bind H
        refine F_qcall (v := .tuple #[.int .i64 z80, .int .i64 z81]) (xs := [.tmp 57]) rfl rfl rfl rfl Try.func21 nm21 rfl rfl ((code_Check.calls (HS74.give [] rfl (Lent.own HS74 (Lent.nil) (i := 3) rfl rfl ((HS74.cells_own (i := 3) rfl).self))) (HS74.own_capE (i := 3) rfl (by decide)) h79).mono (fun e w hc => ?_)) (fun w82 hw83 => ?_)
        · obtain ⟨rfl, h⟩ := hc
          exact ⟨rfl, h.chg0⟩
        have HS84 := HS74.keep hw83
        refine F_val rfl rfl rfl (O_move rfl rfl) ?_
        refine F_val rfl rfl rfl (O_extract (v := .int .i64 z80) rfl rfl rfl) ?_
        refine F_val rfl rfl rfl (O_extract (v := .int .i64 z81) rfl rfl rfl) ?_
        refine F_val rfl rfl rfl (O_assign rfl rfl) ?_
        refine F_val rfl rfl rfl (O_assign rfl rfl) ?_
        refine F_nil ?_
        refine L_seq ?_
        refine L_seq ?_
        have HS85 : Hp S0 w0 w82 [.rd A_lens_0 (rowC (Eint .i64) l_lens_0), .rd A_symbols_2 (rowC (Eint .i64) l_symbols_2)] := HS84.sel [0, 1] rfl
        refine L_region ?_
        refine F_val rfl rfl rfl (O_move rfl rfl) ?_
        refine F_val rfl rfl rfl (O_ne rfl rfl rfl) ?_
        refine F_val rfl rfl rfl (O_move rfl rfl) ?_
        refine F_grpQ 4 [(67, .bool (decide ((z80 ≠ 4) ∨ (z81 ≠ 0)))), (0, .slice A_lens_0 l_lens_0.length c_lens_0), (1, .int .i64 lead_1), (2, .slice A_symbols_2 l_symbols_2.length c_symbols_2), (7, .pointer none), (8, .int .i64 z16), (9, .pointer none), (10, .int .i64 z34), (13, .bool (decide ((z51 = 0) ∧ ((z50 = 4) ∨ (z50 = 1)))))] ?_ (fun w92 hw93 => ?_)
        · rcases Decidable.em (z80 ≠ 4) with c95 | c95
          · refine F_know (i := 63) rfl (dec_t c95) ?_
            refine F_gskip rfl rfl rfl rfl rfl rfl rfl ?_
            refine F_gskip rfl rfl rfl rfl rfl rfl rfl ?_
            refine F_gskip rfl rfl rfl rfl rfl rfl rfl ?_
            refine F_val rfl rfl rfl (O_pickT rfl rfl rfl) ?_
            refine F_know (i := 67) rfl (dec_or_t (q := z81 ≠ 0) c95) ?_
            exact F_grpQE (Chg.refl NoB _) (fun a ha => Is.cons ha (Is.cons ha (Is.cons ha (Is.cons ha (Is.cons ha (Is.cons ha (Is.cons ha (Is.cons ha (Is.cons ha (Is.nil ha) rfl) rfl) rfl) rfl) rfl) rfl) rfl) rfl) rfl)
          · refine F_know (i := 63) rfl (dec_f c95) ?_
            refine F_gval rfl rfl rfl rfl rfl rfl (O_move rfl rfl) ?_
            refine F_gqcall (v := .int .i64 z81) (xs := [.tmp 64]) rfl rfl rfl rfl rfl rfl rfl Try.func23 nm23 rfl rfl ((valiselaw5_num.calls (HS85.give [] rfl (Lent.nil)) (rfl : valiselaw5_num.f z81 = some z81)).mono (fun e w hc => ?_)) (fun w99 hw100 => ?_)
            · obtain ⟨rfl, h⟩ := hc
              exact ⟨rfl, h.chg0⟩
            have HS101 := HS85.keep hw100
            refine F_gval rfl rfl rfl rfl rfl rfl (O_ne rfl rfl rfl) ?_
            refine F_val rfl rfl rfl (O_pickF rfl rfl rfl) ?_
            refine F_know (i := 67) rfl (dec_or_f (q := z81 ≠ 0) c95) ?_
            exact F_grpQE ((Chg.refl NoB _).trans hw100) (fun a ha => Is.cons ha (Is.cons ha (Is.cons ha (Is.cons ha (Is.cons ha (Is.cons ha (Is.cons ha (Is.cons ha (Is.cons ha (Is.nil ha) rfl) rfl) rfl) rfl) rfl) rfl) rfl) rfl) rfl)
        · have HS94 := HS85.keep hw93
          refine F_nil ?_
          refine L_condP rfl (fun c102 => ?_) (fun c102 => ?_)
          · have H := of_pos H c102
            refine L_seq ?_
            refine L_region ?_
            refine F_val rfl rfl rfl (O_assign rfl rfl) ?_
            refine F_nil ?_
            refine L_ret (fun a ha => (post_ret1 ha rfl rfl ?_))
            obtain rfl := Option.some.inj H
            exact ⟨rfl, HS94.sel [] rfl⟩
          · have H := of_neg H c102
            refine L_skip ?_
            refine L_seq ?_
            refine L_seq ?_
            refine L_region ?_
            refine F_val rfl rfl rfl (O_move rfl rfl) ?_
            refine F_val rfl rfl rfl (O_len rfl rfl Try.underlying22) ?_
            refine F_val rfl rfl rfl (O_gt rfl rfl rfl) ?_
            refine F_nil ?_
            refine L_condP rfl (fun c103 => ?_) (fun c103 => ?_)
            · have H := of_pos H c103
              refine L_seq ?_
              refine L_region ?_
              refine F_val rfl rfl rfl (O_assign rfl rfl) ?_
              refine F_nil ?_
              refine L_ret (fun a ha => (post_ret1 ha rfl rfl ?_))
              obtain rfl := Option.some.inj H
              exact ⟨rfl, HS94.sel [] rfl⟩
            · have H := of_neg H c103
              refine L_skip ?_
              refine L_seq ?_
              refine L_seq ?_
              refine L_region ?_
              refine F_val rfl rfl rfl (O_move rfl rfl) ?_
              refine F_val rfl rfl rfl (O_not rfl rfl) ?_
              refine F_nil ?_
              refine L_condP rfl (fun c104 => ?_) (fun c104 => ?_)
              · have H := of_pos H c104
                refine L_seq ?_
                refine L_region ?_
                refine F_val rfl rfl rfl (O_move rfl rfl) ?_
                refine F_val rfl rfl rfl (O_peq rfl rfl rfl Try.underlying62) ?_
                refine F_val rfl rfl rfl (O_move rfl rfl) ?_
                refine F_gval rfl rfl rfl rfl rfl rfl (O_move rfl rfl) ?_
                refine F_gqcall (v := .int .i64 z16) (xs := [.tmp 76]) rfl rfl rfl rfl rfl rfl rfl Try.func23 nm23 rfl rfl ((valiselaw5_num.calls (HS94.give [] rfl (Lent.nil)) (rfl : valiselaw5_num.f z16 = some z16)).mono (fun e w hc => ?_)) (fun w108 hw109 => ?_)
                · obtain ⟨rfl, h⟩ := hc
                  exact ⟨rfl, h.chg0⟩
                have HS110 := HS94.keep hw109
                refine F_gval rfl rfl rfl rfl rfl rfl (O_ne rfl rfl rfl) ?_
                refine F_val rfl rfl rfl (O_pickT rfl rfl rfl) ?_
                refine F_val rfl rfl rfl (O_assign rfl rfl) ?_
                refine F_nil ?_
                refine L_ret (fun a ha => (post_ret1 ha rfl rfl ?_))
                obtain rfl := Option.some.inj H
                exact ⟨rfl, HS110.sel [] rfl⟩
              · have H := of_neg H c104
                refine L_skip ?_
                refine L_seq ?_
                refine L_region ?_
                obtain ⟨⟨z115, z116⟩, h114, H⟩ := of_bind H
                refine F_call (xs := []) rfl rfl rfl rfl Try.func32 nm32 rfl rfl ((bits_NewWriter.calls (HS94.give [] rfl (Lent.nil)) h114).mono (fun e w hc => ?_))
                obtain ⟨g119, A121, c122, rfl, HSo⟩ := hc
                refine ⟨.pointer (some ⟨g119, 0, none⟩), rfl, ?_⟩
                have HS118 : Hp S0 w0 w [.rd A_lens_0 (rowC (Eint .i64) l_lens_0), .rd A_symbols_2 (rowC (Eint .i64) l_symbols_2), .box g119 [.slice A121 z115.length c122, .int .i64 z116] 98, .own A121 c122 (rowC (Eint .u8) z115) 5 (Eint .u8).sz] := (HS94.back [] HSo rfl).sel [0, 1, 2, 3] rfl
                refine F_val rfl rfl rfl (O_assign rfl rfl) ?_
                refine F_nil ?_
                refine L_seq ?_
                refine L_seq ?_
                refine L_region ?_
                refine F_val rfl rfl rfl (O_move rfl rfl) ?_
                refine F_val rfl rfl rfl (O_peq rfl rfl rfl Try.underlying62) ?_
                refine F_val rfl rfl rfl (O_move rfl rfl) ?_
                refine F_gskip rfl rfl rfl rfl rfl rfl rfl ?_
                refine F_gskip rfl rfl rfl rfl rfl rfl rfl ?_
                refine F_val rfl rfl rfl (O_pickT rfl rfl rfl) ?_
                refine F_val rfl rfl rfl (O_move rfl rfl) ?_
                refine F_gskip rfl rfl rfl rfl rfl rfl rfl ?_
                refine F_gskip rfl rfl rfl rfl rfl rfl rfl ?_
                refine F_gskip rfl rfl rfl rfl rfl rfl rfl ?_
                refine F_val rfl rfl rfl (O_pickT rfl rfl rfl) ?_
                refine F_val rfl rfl rfl (O_move rfl rfl) ?_
                refine F_gskip rfl rfl rfl rfl rfl rfl rfl ?_
                refine F_gskip rfl rfl rfl rfl rfl rfl rfl ?_
                refine F_gskip rfl rfl rfl rfl rfl rfl rfl ?_
                refine F_val rfl rfl rfl (O_pickT rfl rfl rfl) ?_
                refine F_val rfl rfl rfl (O_move rfl rfl) ?_
                refine F_gskip rfl rfl rfl rfl rfl rfl rfl ?_
                refine F_gskip rfl rfl rfl rfl rfl rfl rfl ?_
                refine F_val rfl rfl rfl (O_pickT rfl rfl rfl) ?_
                refine F_nil ?_
                refine L_cond rfl (fun _ => ?_) (fun hx => by cases hx)
                refine L_seq ?_
                have HS124 : Hp S0 w0 w [.rd A_lens_0 (rowC (Eint .i64) l_lens_0), .rd A_symbols_2 (rowC (Eint .i64) l_symbols_2)] := HS118.sel [0, 1] rfl
                refine L_region ?_
                refine F_val rfl rfl rfl (O_assign rfl rfl) ?_
                refine F_nil ?_
                refine L_ret (fun a ha => (post_ret1 ha rfl rfl ?_))
                obtain rfl := Option.some.inj H
                exact ⟨rfl, HS124.sel [] rfl⟩
    · refine F_call (xs := [.tmp 35]) rfl rfl rfl rfl Try.func30 nm30 rfl rfl ((code_NewEncoder.calls (HS25.give [] rfl (Lent.own HS25 (Lent.nil) (i := 3) rfl rfl ((HS25.cells_own (i := 3) rfl).self))) (HS25.own_capE (i := 3) rfl (by decide)) h32).mono (fun e w hc => ?_))
      obtain ⟨z125, z126, z127, z128⟩ := z33
      have H := (onO_some _ _ _).symm.trans H
      obtain ⟨g131, A133, c134, A136, c137, rfl, HSo⟩ := hc
      refine ⟨.tuple #[.pointer (some ⟨g131, 0, none⟩), .int .i64 z34], rfl, ?_⟩
      have HS130 : Hp S0 w0 w [.rd A_lens_0 (rowC (Eint .i64) l_lens_0), .rd A_symbols_2 (rowC (Eint .i64) l_symbols_2), .own A8 c9 (rowC (Eint .i64) z5) 3 (Eint .i64).sz, .own A26 c27 (rowC (Eint .i64) z23) 3 (Eint .i64).sz, .box g131 (([.slice A133 z125.length c134, .slice A136 z126.length c137] : List Value) ++ rowC (Eint .i64) z127 ++ rowC (Eint .i64) z128) 94, .own A133 c134 (rowC (Eint .i64) z125) 3 (Eint .i64).sz, .own A136 c137 (rowC (Eint .i64) z126) 3 (Eint .i64).sz] := (HS25.back [] HSo rfl).sel [0, 1, 2, 3, 4, 5, 6] rfl
      refine F_val rfl rfl rfl (O_move rfl rfl) ?_
      refine F_val rfl rfl rfl (O_extract (v := .pointer (some ⟨g131, 0, none⟩)) rfl rfl rfl) ?_
      refine F_val rfl rfl rfl (O_extract (v := .int .i64 z34) rfl rfl rfl) ?_
      refine F_val rfl rfl rfl (O_assign rfl rfl) ?_
      refine F_val rfl rfl rfl (O_assign rfl rfl) ?_
      refine F_nil ?_
      refine L_seq ?_
      have HS139 : Hp S0 w0 w [.rd A_lens_0 (rowC (Eint .i64) l_lens_0), .rd A_symbols_2 (rowC (Eint .i64) l_symbols_2), .box g131 (([.slice A133 z125.length c134, .slice A136 z126.length c137] : List Value) ++ rowC (Eint .i64) z127 ++ rowC (Eint .i64) z128) 94, .own A133 c134 (rowC (Eint .i64) z125) 3 (Eint .i64).sz, .own A136 c137 (rowC (Eint .i64) z126) 3 (Eint .i64).sz] := HS130.sel [0, 1, 4, 5, 6] rfl
      refine L_region ?_
      refine F_val rfl rfl rfl (O_move rfl rfl) ?_
      obtain ⟨z144, h143, H⟩ := of_bind H
      refine F_call (xs := [.tmp 40]) rfl rfl rfl rfl Try.func28 nm28 rfl rfl ((valiselaw5_copied.calls (HS139.give [] rfl (Lent.rd HS139 (Lent.nil) (i := 0) rfl ((HS139.cells_rd (i := 0) rfl).self))) hc_lens_0 h143).mono (fun e w hc => ?_))
      obtain ⟨A147, c148, rfl, HSo⟩ := hc
      refine ⟨.slice A147 z144.length c148, rfl, ?_⟩
      have HS146 : Hp S0 w0 w [.rd A_lens_0 (rowC (Eint .i64) l_lens_0), .rd A_symbols_2 (rowC (Eint .i64) l_symbols_2), .box g131 (([.slice A133 z125.length c134, .slice A136 z126.length c137] : List Value) ++ rowC (Eint .i64) z127 ++ rowC (Eint .i64) z128) 94, .own A133 c134 (rowC (Eint .i64) z125) 3 (Eint .i64).sz, .own A136 c137 (rowC (Eint .i64) z126) 3 (Eint .i64).sz, .own A147 c148 (rowC (Eint .i64) z144) 3 (Eint .i64).sz] := (HS139.back [] HSo rfl).sel [0, 1, 2, 3, 4, 5] rfl
      obtain ⟨⟨z152, z153⟩, h151, H⟩ := of_bind H
      refine F_qcall (v := .tuple #[.int .i64 z152, .int .i64 z153]) (xs := [.tmp 41]) rfl rfl rfl rfl Try.func21 nm21 rfl rfl ((code_Check.calls (HS146.give [] rfl (Lent.own HS146 (Lent.nil) (i := 5) rfl rfl ((HS146.cells_own (i := 5) rfl).self))) (HS146.own_capE (i := 5) rfl (by decide)) h151).mono (fun e w hc => ?_)) (fun w154 hw155 => ?_)
      · obtain ⟨rfl, h⟩ := hc
        exact ⟨rfl, h.chg0⟩
      have HS156 := HS146.keep hw155
      refine F_val rfl rfl rfl (O_move rfl rfl) ?_
      refine F_val rfl rfl rfl (O_extract (v := .int .i64 z152) rfl rfl rfl) ?_
      refine F_val rfl rfl rfl (O_extract (v := .int .i64 z153) rfl rfl rfl) ?_
      refine F_val rfl rfl rfl (O_assign rfl rfl) ?_
      refine F_val rfl rfl rfl (O_assign rfl rfl) ?_
      refine F_nil ?_
      refine L_seq ?_
      refine L_region ?_
      refine F_val rfl rfl rfl (O_move rfl rfl) ?_
      refine F_qcall (v := .int .i64 z153) (xs := [.tmp 45]) rfl rfl rfl rfl Try.func23 nm23 rfl rfl ((valiselaw5_num.calls (HS156.give [] rfl (Lent.nil)) (rfl : valiselaw5_num.f z153 = some z153)).mono (fun e w hc => ?_)) (fun w160 hw161 => ?_)
      · obtain ⟨rfl, h⟩ := hc
        exact ⟨rfl, h.chg0⟩
      have HS162 := HS156.keep hw161
      refine F_val rfl rfl rfl (O_eq rfl rfl rfl) ?_
      refine F_val rfl rfl rfl (O_move rfl rfl) ?_
      refine F_grp 7 [(55, .bool (decide ((z153 = 0) ∧ ((z152 = 4) ∨ (z152 = 1))))), (0, .slice A_lens_0 l_lens_0.length c_lens_0), (1, .int .i64 lead_1), (2, .slice A_symbols_2 l_symbols_2.length c_symbols_2), (7, .pointer none), (8, .int .i64 z16), (9, .pointer (some ⟨g131, 0, none⟩)), (10, .int .i64 z34)] ?_ ?_
      · rcases Decidable.em (z153 = 0) with c170 | c170
        · refine F_know (i := 48) rfl (dec_t c170) ?_
          refine F_gval rfl rfl rfl rfl rfl rfl (O_move rfl rfl) ?_
          refine F_gval rfl rfl rfl rfl rfl rfl (O_eq rfl rfl rfl) ?_
          refine F_gval rfl rfl rfl rfl rfl rfl (O_move rfl rfl) ?_
          refine F_grp 3 [(54, .bool (decide ((z152 = 4) ∨ (z152 = 1)))), (0, .slice A_lens_0 l_lens_0.length c_lens_0), (1, .int .i64 lead_1), (2, .slice A_symbols_2 l_symbols_2.length c_symbols_2), (7, .pointer none), (8, .int .i64 z16), (9, .pointer (some ⟨g131, 0, none⟩)), (10, .int .i64 z34), (48, .bool true)] ?_ ?_
          · rcases Decidable.em (z152 = 4) with c174 | c174
            · refine F_know (i := 51) rfl (dec_t c174) ?_
              refine F_gskip rfl rfl rfl rfl rfl rfl rfl ?_
              refine F_gskip rfl rfl rfl rfl rfl rfl rfl ?_
              refine F_gval rfl rfl rfl rfl rfl rfl (O_pickT rfl rfl rfl) ?_
              refine F_know (i := 54) rfl (dec_or_t (q := z152 = 1) c174) ?_
              exact F_grpE (fun a ha => Is.cons ha (Is.cons ha (Is.cons ha (Is.cons ha (Is.cons ha (Is.cons ha (Is.cons ha (Is.cons ha (Is.cons ha (Is.nil ha) rfl) rfl) rfl) rfl) rfl) rfl) rfl) rfl) rfl)
            · refine F_know (i := 51) rfl (dec_f c174) ?_
              refine F_gval rfl rfl rfl rfl rfl rfl (O_move rfl rfl) ?_
              refine F_gval rfl rfl rfl rfl rfl rfl (O_eq rfl rfl rfl) ?_
              refine F_gval rfl rfl rfl rfl rfl rfl (O_pickF rfl rfl rfl) ?_
              refine F_know (i := 54) rfl (dec_or_f (q := z152 = 1) c174) ?_
              exact F_grpE (fun a ha => Is.cons ha (Is.cons ha (Is.cons ha (Is.cons ha (Is.cons ha (Is.cons ha (Is.cons ha (Is.cons ha (Is.cons ha (Is.nil ha) rfl) rfl) rfl) rfl) rfl) rfl) rfl) rfl) rfl)
          · skip
            refine F_val rfl rfl rfl (O_pickT rfl rfl rfl) ?_
            refine F_know (i := 55) rfl (dec_and_t (q := (z152 = 4) ∨ (z152 = 1)) c170) ?_
            exact F_grpE (fun a ha => Is.cons ha (Is.cons ha (Is.cons ha (Is.cons ha (Is.cons ha (Is.cons ha (Is.cons ha (Is.cons ha (Is.nil ha) rfl) rfl) rfl) rfl) rfl) rfl) rfl) rfl)
        · refine F_know (i := 48) rfl (dec_f c170) ?_
          refine F_gskip rfl rfl rfl rfl rfl rfl rfl ?_
          refine F_gskip rfl rfl rfl rfl rfl rfl rfl ?_
          refine F_gskip rfl rfl rfl rfl rfl rfl rfl ?_
          refine F_gskip rfl rfl rfl rfl rfl rfl rfl ?_
          refine F_gskip rfl rfl rfl rfl rfl rfl rfl ?_
          refine F_gskip rfl rfl rfl rfl rfl rfl rfl ?_
          refine F_val rfl rfl rfl (O_pickF rfl rfl rfl) ?_
          refine F_know (i := 55) rfl (dec_and_f (q := (z152 = 4) ∨ (z152 = 1)) c170) ?_
          exact F_grpE (fun a ha => Is.cons ha (Is.cons ha (Is.cons ha (Is.cons ha (Is.cons ha (Is.cons ha (Is.cons ha (Is.cons ha (Is.nil ha) rfl) rfl) rfl) rfl) rfl) rfl) rfl) rfl)
      · skip
        refine F_val rfl rfl rfl (O_assign rfl rfl) ?_
        refine F_nil ?_
        refine L_seq ?_
        refine L_region ?_
        refine F_litE (E := (Eint .i64)) (e := 3) [(0, .int .i64 1), (1, .int .i64 1)] [1, 1] rfl rfl rfl rfl rfl rfl rfl (by decide) (fun w => by kernel_rfl) HS162 (fun w175 A177 c178 HS176 => ?_)
        have HS176 : Hp S0 w0 w175 [.rd A_lens_0 (rowC (Eint .i64) l_lens_0), .rd A_symbols_2 (rowC (Eint .i64) l_symbols_2), .box g131 (([.slice A133 z125.length c134, .slice A136 z126.length c137] : List Value) ++ rowC (Eint .i64) z127 ++ rowC (Eint .i64) z128) 94, .own A133 c134 (rowC (Eint .i64) z125) 3 (Eint .i64).sz, .own A136 c137 (rowC (Eint .i64) z126) 3 (Eint .i64).sz, .own A147 c148 (rowC (Eint .i64) z144) 3 (Eint .i64).sz, .own A177 c178 (rowC (Eint .i64) [1, 1]) 3 (Eint .i64).sz] := HS176
        obtain ⟨⟨z182, z183⟩, h181, H⟩ := of_bind H
        refine F_qcall (v := .tuple #[.int .i64 z182, .int .i64 z183]) (xs := [.tmp 57]) rfl rfl rfl rfl Try.func21 nm21 rfl rfl ((code_Check.calls (HS176.give [] rfl (Lent.own HS176 (Lent.nil) (i := 6) rfl rfl ((HS176.cells_own (i := 6) rfl).self))) (HS176.own_capE (i := 6) rfl (by decide)) h181).mono (fun e w hc => ?_)) (fun w184 hw185 => ?_)
        · obtain ⟨rfl, h⟩ := hc
          exact ⟨rfl, h.chg0⟩
        have HS186 := HS176.keep hw185
        refine F_val rfl rfl rfl (O_move rfl rfl) ?_
        refine F_val rfl rfl rfl (O_extract (v := .int .i64 z182) rfl rfl rfl) ?_
        refine F_val rfl rfl rfl (O_extract (v := .int .i64 z183) rfl rfl rfl) ?_
        refine F_val rfl rfl rfl (O_assign rfl rfl) ?_
        refine F_val rfl rfl rfl (O_assign rfl rfl) ?_
        refine F_nil ?_
        refine L_seq ?_
        refine L_seq ?_
        have HS187 : Hp S0 w0 w184 [.rd A_lens_0 (rowC (Eint .i64) l_lens_0), .rd A_symbols_2 (rowC (Eint .i64) l_symbols_2), .box g131 (([.slice A133 z125.length c134, .slice A136 z126.length c137] : List Value) ++ rowC (Eint .i64) z127 ++ rowC (Eint .i64) z128) 94, .own A133 c134 (rowC (Eint .i64) z125) 3 (Eint .i64).sz, .own A136 c137 (rowC (Eint .i64) z126) 3 (Eint .i64).sz] := HS186.sel [0, 1, 2, 3, 4] rfl
        refine L_region ?_
        refine F_val rfl rfl rfl (O_move rfl rfl) ?_
        refine F_val rfl rfl rfl (O_ne rfl rfl rfl) ?_
        refine F_val rfl rfl rfl (O_move rfl rfl) ?_
        refine F_grpQ 4 [(67, .bool (decide ((z182 ≠ 4) ∨ (z183 ≠ 0)))), (0, .slice A_lens_0 l_lens_0.length c_lens_0), (1, .int .i64 lead_1), (2, .slice A_symbols_2 l_symbols_2.length c_symbols_2), (7, .pointer none), (8, .int .i64 z16), (9, .pointer (some ⟨g131, 0, none⟩)), (10, .int .i64 z34), (13, .bool (decide ((z153 = 0) ∧ ((z152 = 4) ∨ (z152 = 1)))))] ?_ (fun w194 hw195 => ?_)
        · rcases Decidable.em (z182 ≠ 4) with c197 | c197
          · refine F_know (i := 63) rfl (dec_t c197) ?_
            refine F_gskip rfl rfl rfl rfl rfl rfl rfl ?_
            refine F_gskip rfl rfl rfl rfl rfl rfl rfl ?_
            refine F_gskip rfl rfl rfl rfl rfl rfl rfl ?_
            refine F_val rfl rfl rfl (O_pickT rfl rfl rfl) ?_
            refine F_know (i := 67) rfl (dec_or_t (q := z183 ≠ 0) c197) ?_
            exact F_grpQE (Chg.refl NoB _) (fun a ha => Is.cons ha (Is.cons ha (Is.cons ha (Is.cons ha (Is.cons ha (Is.cons ha (Is.cons ha (Is.cons ha (Is.cons ha (Is.nil ha) rfl) rfl) rfl) rfl) rfl) rfl) rfl) rfl) rfl)
          · refine F_know (i := 63) rfl (dec_f c197) ?_
            refine F_gval rfl rfl rfl rfl rfl rfl (O_move rfl rfl) ?_
            refine F_gqcall (v := .int .i64 z183) (xs := [.tmp 64]) rfl rfl rfl rfl rfl rfl rfl Try.func23 nm23 rfl rfl ((valiselaw5_num.calls (HS187.give [] rfl (Lent.nil)) (rfl : valiselaw5_num.f z183 = some z183)).mono (fun e w hc => ?_)) (fun w201 hw202 => ?_)
            · obtain ⟨rfl, h⟩ := hc
              exact ⟨rfl, h.chg0⟩
            have HS203 := HS187.keep hw202
            refine F_gval rfl rfl rfl rfl rfl rfl (O_ne rfl rfl rfl) ?_
            refine F_val rfl rfl rfl (O_pickF rfl rfl rfl) ?_
            refine F_know (i := 67) rfl (dec_or_f (q := z183 ≠ 0) c197) ?_
            exact F_grpQE ((Chg.refl NoB _).trans hw202) (fun a ha => Is.cons ha (Is.cons ha (Is.cons ha (Is.cons ha (Is.cons ha (Is.cons ha (Is.cons ha (Is.cons ha (Is.cons ha (Is.nil ha) rfl) rfl) rfl) rfl) rfl) rfl) rfl) rfl) rfl)
        · have HS196 := HS187.keep hw195
          refine F_nil ?_
          refine L_condP rfl (fun c204 => ?_) (fun c204 => ?_)
          · have H := of_pos H c204
            refine L_seq ?_
            have HS205 : Hp S0 w0 w194 [.rd A_lens_0 (rowC (Eint .i64) l_lens_0), .rd A_symbols_2 (rowC (Eint .i64) l_symbols_2)] := HS196.sel [0, 1] rfl
            refine L_region ?_
            refine F_val rfl rfl rfl (O_assign rfl rfl) ?_
            refine F_nil ?_
            refine L_ret (fun a ha => (post_ret1 ha rfl rfl ?_))
            obtain rfl := Option.some.inj H
            exact ⟨rfl, HS205.sel [] rfl⟩
          · have H := of_neg H c204
            refine L_skip ?_
            refine L_seq ?_
            refine L_seq ?_
            refine L_region ?_
            refine F_val rfl rfl rfl (O_move rfl rfl) ?_
            refine F_val rfl rfl rfl (O_len rfl rfl Try.underlying22) ?_
            refine F_val rfl rfl rfl (O_gt rfl rfl rfl) ?_
            refine F_nil ?_
            refine L_condP rfl (fun c206 => ?_) (fun c206 => ?_)
            · have H := of_pos H c206
              refine L_seq ?_
              have HS207 : Hp S0 w0 w194 [.rd A_lens_0 (rowC (Eint .i64) l_lens_0), .rd A_symbols_2 (rowC (Eint .i64) l_symbols_2)] := HS196.sel [0, 1] rfl
              refine L_region ?_
              refine F_val rfl rfl rfl (O_assign rfl rfl) ?_
              refine F_nil ?_
              refine L_ret (fun a ha => (post_ret1 ha rfl rfl ?_))
              obtain rfl := Option.some.inj H
              exact ⟨rfl, HS207.sel [] rfl⟩
            · have H := of_neg H c206
              refine L_skip ?_
              refine L_seq ?_
              refine L_seq ?_
              refine L_region ?_
              refine F_val rfl rfl rfl (O_move rfl rfl) ?_
              refine F_val rfl rfl rfl (O_not rfl rfl) ?_
              refine F_nil ?_
              refine L_condP rfl (fun c208 => ?_) (fun c208 => ?_)
              · have H := of_pos H c208
                refine L_seq ?_
                have HS209 : Hp S0 w0 w194 [.rd A_lens_0 (rowC (Eint .i64) l_lens_0), .rd A_symbols_2 (rowC (Eint .i64) l_symbols_2)] := HS196.sel [0, 1] rfl
                refine L_region ?_
                refine F_val rfl rfl rfl (O_move rfl rfl) ?_
                refine F_val rfl rfl rfl (O_peq rfl rfl rfl Try.underlying62) ?_
                refine F_val rfl rfl rfl (O_move rfl rfl) ?_
                refine F_gval rfl rfl rfl rfl rfl rfl (O_move rfl rfl) ?_
                refine F_gqcall (v := .int .i64 z16) (xs := [.tmp 76]) rfl rfl rfl rfl rfl rfl rfl Try.func23 nm23 rfl rfl ((valiselaw5_num.calls (HS209.give [] rfl (Lent.nil)) (rfl : valiselaw5_num.f z16 = some z16)).mono (fun e w hc => ?_)) (fun w213 hw214 => ?_)
                · obtain ⟨rfl, h⟩ := hc
                  exact ⟨rfl, h.chg0⟩
                have HS215 := HS209.keep hw214
                refine F_gval rfl rfl rfl rfl rfl rfl (O_ne rfl rfl rfl) ?_
                refine F_val rfl rfl rfl (O_pickT rfl rfl rfl) ?_
                refine F_val rfl rfl rfl (O_assign rfl rfl) ?_
                refine F_nil ?_
                refine L_ret (fun a ha => (post_ret1 ha rfl rfl ?_))
                obtain rfl := Option.some.inj H
                exact ⟨rfl, HS215.sel [] rfl⟩
              · have H := of_neg H c208
                refine L_skip ?_
                refine L_seq ?_
                refine L_region ?_
                obtain ⟨⟨z220, z221⟩, h219, H⟩ := of_bind H
                refine F_call (xs := []) rfl rfl rfl rfl Try.func32 nm32 rfl rfl ((bits_NewWriter.calls (HS196.give [] rfl (Lent.nil)) h219).mono (fun e w hc => ?_))
                obtain ⟨g224, A226, c227, rfl, HSo⟩ := hc
                refine ⟨.pointer (some ⟨g224, 0, none⟩), rfl, ?_⟩
                have HS223 : Hp S0 w0 w [.rd A_lens_0 (rowC (Eint .i64) l_lens_0), .rd A_symbols_2 (rowC (Eint .i64) l_symbols_2), .box g131 (([.slice A133 z125.length c134, .slice A136 z126.length c137] : List Value) ++ rowC (Eint .i64) z127 ++ rowC (Eint .i64) z128) 94, .own A133 c134 (rowC (Eint .i64) z125) 3 (Eint .i64).sz, .own A136 c137 (rowC (Eint .i64) z126) 3 (Eint .i64).sz, .box g224 [.slice A226 z220.length c227, .int .i64 z221] 98, .own A226 c227 (rowC (Eint .u8) z220) 5 (Eint .u8).sz] := (HS196.back [] HSo rfl).sel [0, 1, 2, 3, 4, 5, 6] rfl
                refine F_val rfl rfl rfl (O_assign rfl rfl) ?_
                refine F_nil ?_
                refine L_seq ?_
                refine L_seq ?_
                refine L_region ?_
                refine F_val rfl rfl rfl (O_move rfl rfl) ?_
                refine F_val rfl rfl rfl (O_peq rfl rfl rfl Try.underlying62) ?_
                refine F_val rfl rfl rfl (O_move rfl rfl) ?_
                refine F_gskip rfl rfl rfl rfl rfl rfl rfl ?_
                refine F_gskip rfl rfl rfl rfl rfl rfl rfl ?_
                refine F_val rfl rfl rfl (O_pickT rfl rfl rfl) ?_
                refine F_val rfl rfl rfl (O_move rfl rfl) ?_
                refine F_gskip rfl rfl rfl rfl rfl rfl rfl ?_
                refine F_gskip rfl rfl rfl rfl rfl rfl rfl ?_
                refine F_gskip rfl rfl rfl rfl rfl rfl rfl ?_
                refine F_val rfl rfl rfl (O_pickT rfl rfl rfl) ?_
                refine F_val rfl rfl rfl (O_move rfl rfl) ?_
                refine F_gskip rfl rfl rfl rfl rfl rfl rfl ?_
                refine F_gskip rfl rfl rfl rfl rfl rfl rfl ?_
                refine F_gskip rfl rfl rfl rfl rfl rfl rfl ?_
                refine F_val rfl rfl rfl (O_pickT rfl rfl rfl) ?_
                refine F_val rfl rfl rfl (O_move rfl rfl) ?_
                refine F_gskip rfl rfl rfl rfl rfl rfl rfl ?_
                refine F_gskip rfl rfl rfl rfl rfl rfl rfl ?_
                refine F_val rfl rfl rfl (O_pickT rfl rfl rfl) ?_
                refine F_nil ?_
                refine L_cond rfl (fun _ => ?_) (fun hx => by cases hx)
                refine L_seq ?_
                have HS229 : Hp S0 w0 w [.rd A_lens_0 (rowC (Eint .i64) l_lens_0), .rd A_symbols_2 (rowC (Eint .i64) l_symbols_2)] := HS223.sel [0, 1] rfl
                refine L_region ?_
                refine F_val rfl rfl rfl (O_assign rfl rfl) ?_
                refine F_nil ?_
                refine L_ret (fun a ha => (post_ret1 ha rfl rfl ?_))
                obtain rfl := Option.some.inj H
                exact ⟨rfl, HS229.sel [] rfl⟩
  · refine F_call (xs := [.tmp 29]) rfl rfl rfl rfl Try.func45 nm45 rfl rfl ((code_NewDecoder.calls (HS7.give [] rfl (Lent.own HS7 (Lent.nil) (i := 2) rfl rfl ((HS7.cells_own (i := 2) rfl).self))) (HS7.own_capE (i := 2) rfl (by decide)) h14).mono (fun e w hc => ?_))
    obtain ⟨z230, z231, z232, z233, z234⟩ := z15
    have H := (onO_some _ _ _).symm.trans H
    obtain ⟨g237, A239, c240, A242, c243, A245, c246, rfl, HSo⟩ := hc
    refine ⟨.tuple #[.pointer (some ⟨g237, 0, none⟩), .int .i64 z16], rfl, ?_⟩
    have HS236 : Hp S0 w0 w [.rd A_lens_0 (rowC (Eint .i64) l_lens_0), .rd A_symbols_2 (rowC (Eint .i64) l_symbols_2), .own A8 c9 (rowC (Eint .i64) z5) 3 (Eint .i64).sz, .box g237 (([.slice A239 z230.length c240, .slice A242 z231.length c243] : List Value) ++ rowC (Eint .i64) z232 ++ rowC (Eint .i64) z233 ++ ([.slice A245 z234.length c246] : List Value)) 108, .own A239 c240 (rowC (Eint .i64) z230) 3 (Eint .i64).sz, .own A242 c243 (rowC (Eint .i64) z231) 3 (Eint .i64).sz, .own A245 c246 (rowC (Eint .i64) z234) 3 (Eint .i64).sz] := (HS7.back [] HSo rfl).sel [0, 1, 2, 3, 4, 5, 6] rfl
    refine F_val rfl rfl rfl (O_move rfl rfl) ?_
    refine F_val rfl rfl rfl (O_extract (v := .pointer (some ⟨g237, 0, none⟩)) rfl rfl rfl) ?_
    refine F_val rfl rfl rfl (O_extract (v := .int .i64 z16) rfl rfl rfl) ?_
    refine F_val rfl rfl rfl (O_assign rfl rfl) ?_
    refine F_val rfl rfl rfl (O_assign rfl rfl) ?_
    refine F_nil ?_
    refine L_seq ?_
    refine L_region ?_
    refine F_val rfl rfl rfl (O_move rfl rfl) ?_
    obtain ⟨z252, h251, H⟩ := of_bind H
    refine F_call (xs := [.tmp 34]) rfl rfl rfl rfl Try.func28 nm28 rfl rfl ((valiselaw5_copied.calls (HS236.give [] rfl (Lent.rd HS236 (Lent.nil) (i := 0) rfl ((HS236.cells_rd (i := 0) rfl).self))) hc_lens_0 h251).mono (fun e w hc => ?_))
    obtain ⟨A255, c256, rfl, HSo⟩ := hc
    refine ⟨.slice A255 z252.length c256, rfl, ?_⟩
    have HS254 : Hp S0 w0 w [.rd A_lens_0 (rowC (Eint .i64) l_lens_0), .rd A_symbols_2 (rowC (Eint .i64) l_symbols_2), .own A8 c9 (rowC (Eint .i64) z5) 3 (Eint .i64).sz, .box g237 (([.slice A239 z230.length c240, .slice A242 z231.length c243] : List Value) ++ rowC (Eint .i64) z232 ++ rowC (Eint .i64) z233 ++ ([.slice A245 z234.length c246] : List Value)) 108, .own A239 c240 (rowC (Eint .i64) z230) 3 (Eint .i64).sz, .own A242 c243 (rowC (Eint .i64) z231) 3 (Eint .i64).sz, .own A245 c246 (rowC (Eint .i64) z234) 3 (Eint .i64).sz, .own A255 c256 (rowC (Eint .i64) z252) 3 (Eint .i64).sz] := (HS236.back [] HSo rfl).sel [0, 1, 2, 3, 4, 5, 6, 7] rfl
    obtain ⟨⟨z262, z263⟩, h261, H⟩ := of_bind H
    rcases z262 with _ | z262
    · refine F_call (xs := [.tmp 35]) rfl rfl rfl rfl Try.func30 nm30 rfl rfl ((code_NewEncoder.calls (HS254.give [] rfl (Lent.own HS254 (Lent.nil) (i := 7) rfl rfl ((HS254.cells_own (i := 7) rfl).self))) (HS254.own_capE (i := 7) rfl (by decide)) h261).mono (fun e w hc => ?_))
      have H := (onO_none _ _).symm.trans H
      obtain ⟨rfl, HSo⟩ := hc
      refine ⟨.tuple #[.pointer none, .int .i64 z263], rfl, ?_⟩
      have HS265 : Hp S0 w0 w [.rd A_lens_0 (rowC (Eint .i64) l_lens_0), .rd A_symbols_2 (rowC (Eint .i64) l_symbols_2), .own A8 c9 (rowC (Eint .i64) z5) 3 (Eint .i64).sz, .box g237 (([.slice A239 z230.length c240, .slice A242 z231.length c243] : List Value) ++ rowC (Eint .i64) z232 ++ rowC (Eint .i64) z233 ++ ([.slice A245 z234.length c246] : List Value)) 108, .own A239 c240 (rowC (Eint .i64) z230) 3 (Eint .i64).sz, .own A242 c243 (rowC (Eint .i64) z231) 3 (Eint .i64).sz, .own A245 c246 (rowC (Eint .i64) z234) 3 (Eint .i64).sz, .own A255 c256 (rowC (Eint .i64) z252) 3 (Eint .i64).sz] := (HS254.back [] HSo rfl).sel [0, 1, 2, 3, 4, 5, 6, 7] rfl
      refine F_val rfl rfl rfl (O_move rfl rfl) ?_
      refine F_val rfl rfl rfl (O_extract (v := .pointer none) rfl rfl rfl) ?_
      refine F_val rfl rfl rfl (O_extract (v := .int .i64 z263) rfl rfl rfl) ?_
      refine F_val rfl rfl rfl (O_assign rfl rfl) ?_
      refine F_val rfl rfl rfl (O_assign rfl rfl) ?_
      refine F_nil ?_
      refine L_seq ?_
      have HS266 : Hp S0 w0 w [.rd A_lens_0 (rowC (Eint .i64) l_lens_0), .rd A_symbols_2 (rowC (Eint .i64) l_symbols_2), .box g237 (([.slice A239 z230.length c240, .slice A242 z231.length c243] : List Value) ++ rowC (Eint .i64) z232 ++ rowC (Eint .i64) z233 ++ ([.slice A245 z234.length c246] : List Value)) 108, .own A239 c240 (rowC (Eint .i64) z230) 3 (Eint .i64).sz, .own A242 c243 (rowC (Eint .i64) z231) 3 (Eint .i64).sz, .own A245 c246 (rowC (Eint .i64) z234) 3 (Eint .i64).sz] := HS265.sel [0, 1, 3, 4, 5, 6] rfl
      refine L_region ?_
      refine F_val rfl rfl rfl (O_move rfl rfl) ?_
      obtain ⟨z271, h270, H⟩ := of_bind H
      refine F_call (xs := [.tmp 40]) rfl rfl rfl rfl Try.func28 nm28 rfl rfl ((valiselaw5_copied.calls (HS266.give [] rfl (Lent.rd HS266 (Lent.nil) (i := 0) rfl ((HS266.cells_rd (i := 0) rfl).self))) hc_lens_0 h270).mono (fun e w hc => ?_))
      obtain ⟨A274, c275, rfl, HSo⟩ := hc
      refine ⟨.slice A274 z271.length c275, rfl, ?_⟩
      have HS273 : Hp S0 w0 w [.rd A_lens_0 (rowC (Eint .i64) l_lens_0), .rd A_symbols_2 (rowC (Eint .i64) l_symbols_2), .box g237 (([.slice A239 z230.length c240, .slice A242 z231.length c243] : List Value) ++ rowC (Eint .i64) z232 ++ rowC (Eint .i64) z233 ++ ([.slice A245 z234.length c246] : List Value)) 108, .own A239 c240 (rowC (Eint .i64) z230) 3 (Eint .i64).sz, .own A242 c243 (rowC (Eint .i64) z231) 3 (Eint .i64).sz, .own A245 c246 (rowC (Eint .i64) z234) 3 (Eint .i64).sz, .own A274 c275 (rowC (Eint .i64) z271) 3 (Eint .i64).sz] := (HS266.back [] HSo rfl).sel [0, 1, 2, 3, 4, 5, 6] rfl
      obtain ⟨⟨z279, z280⟩, h278, H⟩ := of_bind H
      refine F_qcall (v := .tuple #[.int .i64 z279, .int .i64 z280]) (xs := [.tmp 41]) rfl rfl rfl rfl Try.func21 nm21 rfl rfl ((code_Check.calls (HS273.give [] rfl (Lent.own HS273 (Lent.nil) (i := 6) rfl rfl ((HS273.cells_own (i := 6) rfl).self))) (HS273.own_capE (i := 6) rfl (by decide)) h278).mono (fun e w hc => ?_)) (fun w281 hw282 => ?_)
      · obtain ⟨rfl, h⟩ := hc
        exact ⟨rfl, h.chg0⟩
      have HS283 := HS273.keep hw282
      refine F_val rfl rfl rfl (O_move rfl rfl) ?_
      refine F_val rfl rfl rfl (O_extract (v := .int .i64 z279) rfl rfl rfl) ?_
      refine F_val rfl rfl rfl (O_extract (v := .int .i64 z280) rfl rfl rfl) ?_
      refine F_val rfl rfl rfl (O_assign rfl rfl) ?_
      refine F_val rfl rfl rfl (O_assign rfl rfl) ?_
      refine F_nil ?_
      refine L_seq ?_
      refine L_region ?_
      refine F_val rfl rfl rfl (O_move rfl rfl) ?_
      refine F_qcall (v := .int .i64 z280) (xs := [.tmp 45]) rfl rfl rfl rfl Try.func23 nm23 rfl rfl ((valiselaw5_num.calls (HS283.give [] rfl (Lent.nil)) (rfl : valiselaw5_num.f z280 = some z280)).mono (fun e w hc => ?_)) (fun w287 hw288 => ?_)
      · obtain ⟨rfl, h⟩ := hc
        exact ⟨rfl, h.chg0⟩
      have HS289 := HS283.keep hw288
      refine F_val rfl rfl rfl (O_eq rfl rfl rfl) ?_
      refine F_val rfl rfl rfl (O_move rfl rfl) ?_
      refine F_grp 7 [(55, .bool (decide ((z280 = 0) ∧ ((z279 = 4) ∨ (z279 = 1))))), (0, .slice A_lens_0 l_lens_0.length c_lens_0), (1, .int .i64 lead_1), (2, .slice A_symbols_2 l_symbols_2.length c_symbols_2), (7, .pointer (some ⟨g237, 0, none⟩)), (8, .int .i64 z16), (9, .pointer none), (10, .int .i64 z263)] ?_ ?_
      · rcases Decidable.em (z280 = 0) with c297 | c297
        · refine F_know (i := 48) rfl (dec_t c297) ?_
          refine F_gval rfl rfl rfl rfl rfl rfl (O_move rfl rfl) ?_
          refine F_gval rfl rfl rfl rfl rfl rfl (O_eq rfl rfl rfl) ?_
          refine F_gval rfl rfl rfl rfl rfl rfl (O_move rfl rfl) ?_
          refine F_grp 3 [(54, .bool (decide ((z279 = 4) ∨ (z279 = 1)))), (0, .slice A_lens_0 l_lens_0.length c_lens_0), (1, .int .i64 lead_1), (2, .slice A_symbols_2 l_symbols_2.length c_symbols_2), (7, .pointer (some ⟨g237, 0, none⟩)), (8, .int .i64 z16), (9, .pointer none), (10, .int .i64 z263), (48, .bool true)] ?_ ?_
          · rcases Decidable.em (z279 = 4) with c301 | c301
            · refine F_know (i := 51) rfl (dec_t c301) ?_
              refine F_gskip rfl rfl rfl rfl rfl rfl rfl ?_
              refine F_gskip rfl rfl rfl rfl rfl rfl rfl ?_
              refine F_gval rfl rfl rfl rfl rfl rfl (O_pickT rfl rfl rfl) ?_
              refine F_know (i := 54) rfl (dec_or_t (q := z279 = 1) c301) ?_
              exact F_grpE (fun a ha => Is.cons ha (Is.cons ha (Is.cons ha (Is.cons ha (Is.cons ha (Is.cons ha (Is.cons ha (Is.cons ha (Is.cons ha (Is.nil ha) rfl) rfl) rfl) rfl) rfl) rfl) rfl) rfl) rfl)
            · refine F_know (i := 51) rfl (dec_f c301) ?_
              refine F_gval rfl rfl rfl rfl rfl rfl (O_move rfl rfl) ?_
              refine F_gval rfl rfl rfl rfl rfl rfl (O_eq rfl rfl rfl) ?_
              refine F_gval rfl rfl rfl rfl rfl rfl (O_pickF rfl rfl rfl) ?_
              refine F_know (i := 54) rfl (dec_or_f (q := z279 = 1) c301) ?_
              exact F_grpE (fun a ha => Is.cons ha (Is.cons ha (Is.cons ha (Is.cons ha (Is.cons ha (Is.cons ha (Is.cons ha (Is.cons ha (Is.cons ha (Is.nil ha) rfl) rfl) rfl) rfl) rfl) rfl) rfl) rfl) rfl)
          · skip
            refine F_val rfl rfl rfl (O_pickT rfl rfl rfl) ?_
            refine F_know (i := 55) rfl (dec_and_t (q := (z279 = 4) ∨ (z279 = 1)) c297) ?_
            exact F_grpE (fun a ha => Is.cons ha (Is.cons ha (Is.cons ha (Is.cons ha (Is.cons ha (Is.cons ha (Is.cons ha (Is.cons ha (Is.nil ha) rfl) rfl) rfl) rfl) rfl) rfl) rfl) rfl)
        · refine F_know (i := 48) rfl (dec_f c297) ?_
          refine F_gskip rfl rfl rfl rfl rfl rfl rfl ?_
          refine F_gskip rfl rfl rfl rfl rfl rfl rfl ?_
          refine F_gskip rfl rfl rfl rfl rfl rfl rfl ?_
          refine F_gskip rfl rfl rfl rfl rfl rfl rfl ?_
          refine F_gskip rfl rfl rfl rfl rfl rfl rfl ?_
          refine F_gskip rfl rfl rfl rfl rfl rfl rfl ?_
          refine F_val rfl rfl rfl (O_pickF rfl rfl rfl) ?_
          refine F_know (i := 55) rfl (dec_and_f (q := (z279 = 4) ∨ (z279 = 1)) c297) ?_
          exact F_grpE (fun a ha => Is.cons ha (Is.cons ha (Is.cons ha (Is.cons ha (Is.cons ha (Is.cons ha (Is.cons ha (Is.cons ha (Is.nil ha) rfl) rfl) rfl) rfl) rfl) rfl) rfl) rfl)
      · skip
        refine F_val rfl rfl rfl (O_assign rfl rfl) ?_
        refine F_nil ?_
        refine L_seq ?_
        refine L_region ?_
        refine F_litE (E := (Eint .i64)) (e := 3) [(0, .int .i64 1), (1, .int .i64 1)] [1, 1] rfl rfl rfl rfl rfl rfl rfl (by decide) (fun w => by kernel_rfl) HS289 (fun w302 A304 c305 HS303 => ?_)
        have HS303 : Hp S0 w0 w302 [.rd A_lens_0 (rowC (Eint .i64) l_lens_0), .rd A_symbols_2 (rowC (Eint .i64) l_symbols_2), .box g237 (([.slice A239 z230.length c240, .slice A242 z231.length c243] : List Value) ++ rowC (Eint .i64) z232 ++ rowC (Eint .i64) z233 ++ ([.slice A245 z234.length c246] : List Value)) 108, .own A239 c240 (rowC (Eint .i64) z230) 3 (Eint .i64).sz, .own A242 c243 (rowC (Eint .i64) z231) 3 (Eint .i64).sz, .own A245 c246 (rowC (Eint .i64) z234) 3 (Eint .i64).sz, .own A274 c275 (rowC (Eint .i64) z271) 3 (Eint .i64).sz, .own A304 c305 (rowC (Eint .i64) [1, 1]) 3 (Eint .i64).sz] := HS303
        obtain ⟨⟨z309, z310⟩, h308, H⟩ := of_bind H
        refine F_qcall (v := .tuple #[.int .i64 z309, .int .i64 z310]) (xs := [.tmp 57]) rfl rfl rfl rfl Try.func21 nm21 rfl rfl ((code_Check.calls (HS303.give [] rfl (Lent.own HS303 (Lent.nil) (i := 7) rfl rfl ((HS303.cells_own (i := 7) rfl).self))) (HS303.own_capE (i := 7) rfl (by decide)) h308).mono (fun e w hc => ?_)) (fun w311 hw312 => ?_)
        · obtain ⟨rfl, h⟩ := hc
          exact ⟨rfl, h.chg0⟩
        have HS313 := HS303.keep hw312
        refine F_val rfl rfl rfl (O_move rfl rfl) ?_
        refine F_val rfl rfl rfl (O_extract (v := .int .i64 z309) rfl rfl rfl) ?_
        refine F_val rfl rfl rfl (O_extract (v := .int .i64 z310) rfl rfl rfl) ?_
        refine F_val rfl rfl rfl (O_assign rfl rfl) ?_
        refine F_val rfl rfl rfl (O_assign rfl rfl) ?_
        refine F_nil ?_
        refine L_seq ?_
        refine L_seq ?_
        have HS314 : Hp S0 w0 w311 [.rd A_lens_0 (rowC (Eint .i64) l_lens_0), .rd A_symbols_2 (rowC (Eint .i64) l_symbols_2), .box g237 (([.slice A239 z230.length c240, .slice A242 z231.length c243] : List Value) ++ rowC (Eint .i64) z232 ++ rowC (Eint .i64) z233 ++ ([.slice A245 z234.length c246] : List Value)) 108, .own A239 c240 (rowC (Eint .i64) z230) 3 (Eint .i64).sz, .own A242 c243 (rowC (Eint .i64) z231) 3 (Eint .i64).sz, .own A245 c246 (rowC (Eint .i64) z234) 3 (Eint .i64).sz] := HS313.sel [0, 1, 2, 3, 4, 5] rfl
        refine L_region ?_
        refine F_val rfl rfl rfl (O_move rfl rfl) ?_
        refine F_val rfl rfl rfl (O_ne rfl rfl rfl) ?_
        refine F_val rfl rfl rfl (O_move rfl rfl) ?_
        refine F_grpQ 4 [(67, .bool (decide ((z309 ≠ 4) ∨ (z310 ≠ 0)))), (0, .slice A_lens_0 l_lens_0.length c_lens_0), (1, .int .i64 lead_1), (2, .slice A_symbols_2 l_symbols_2.length c_symbols_2), (7, .pointer (some ⟨g237, 0, none⟩)), (8, .int .i64 z16), (9, .pointer none), (10, .int .i64 z263), (13, .bool (decide ((z280 = 0) ∧ ((z279 = 4) ∨ (z279 = 1)))))] ?_ (fun w321 hw322 => ?_)
        · rcases Decidable.em (z309 ≠ 4) with c324 | c324
          · refine F_know (i := 63) rfl (dec_t c324) ?_
            refine F_gskip rfl rfl rfl rfl rfl rfl rfl ?_
            refine F_gskip rfl rfl rfl rfl rfl rfl rfl ?_
            refine F_gskip rfl rfl rfl rfl rfl rfl rfl ?_
            refine F_val rfl rfl rfl (O_pickT rfl rfl rfl) ?_
            refine F_know (i := 67) rfl (dec_or_t (q := z310 ≠ 0) c324) ?_
            exact F_grpQE (Chg.refl NoB _) (fun a ha => Is.cons ha (Is.cons ha (Is.cons ha (Is.cons ha (Is.cons ha (Is.cons ha (Is.cons ha (Is.cons ha (Is.cons ha (Is.nil ha) rfl) rfl) rfl) rfl) rfl) rfl) rfl) rfl) rfl)
          · refine F_know (i := 63) rfl (dec_f c324) ?_
            refine F_gval rfl rfl rfl rfl rfl rfl (O_move rfl rfl) ?_
            refine F_gqcall (v := .int .i64 z310) (xs := [.tmp 64]) rfl rfl rfl rfl rfl rfl rfl Try.func23 nm23 rfl rfl ((valiselaw5_num.calls (HS314.give [] rfl (Lent.nil)) (rfl : valiselaw5_num.f z310 = some z310)).mono (fun e w hc => ?_)) (fun w328 hw329 => ?_)
            · obtain ⟨rfl, h⟩ := hc
              exact ⟨rfl, h.chg0⟩
            have HS330 := HS314.keep hw329
            refine F_gval rfl rfl rfl rfl rfl rfl (O_ne rfl rfl rfl) ?_
            refine F_val rfl rfl rfl (O_pickF rfl rfl rfl) ?_
            refine F_know (i := 67) rfl (dec_or_f (q := z310 ≠ 0) c324) ?_
            exact F_grpQE ((Chg.refl NoB _).trans hw329) (fun a ha => Is.cons ha (Is.cons ha (Is.cons ha (Is.cons ha (Is.cons ha (Is.cons ha (Is.cons ha (Is.cons ha (Is.cons ha (Is.nil ha) rfl) rfl) rfl) rfl) rfl) rfl) rfl) rfl) rfl)
        · have HS323 := HS314.keep hw322
          refine F_nil ?_
          refine L_condP rfl (fun c331 => ?_) (fun c331 => ?_)
          · have H := of_pos H c331
            refine L_seq ?_
            have HS332 : Hp S0 w0 w321 [.rd A_lens_0 (rowC (Eint .i64) l_lens_0), .rd A_symbols_2 (rowC (Eint .i64) l_symbols_2)] := HS323.sel [0, 1] rfl
            refine L_region ?_
            refine F_val rfl rfl rfl (O_assign rfl rfl) ?_
            refine F_nil ?_
            refine L_ret (fun a ha => (post_ret1 ha rfl rfl ?_))
            obtain rfl := Option.some.inj H
            exact ⟨rfl, HS332.sel [] rfl⟩
          · have H := of_neg H c331
            refine L_skip ?_
            refine L_seq ?_
            refine L_seq ?_
            refine L_region ?_
            refine F_val rfl rfl rfl (O_move rfl rfl) ?_
            refine F_val rfl rfl rfl (O_len rfl rfl Try.underlying22) ?_
            refine F_val rfl rfl rfl (O_gt rfl rfl rfl) ?_
            refine F_nil ?_
            refine L_condP rfl (fun c333 => ?_) (fun c333 => ?_)
            · have H := of_pos H c333
              refine L_seq ?_
              have HS334 : Hp S0 w0 w321 [.rd A_lens_0 (rowC (Eint .i64) l_lens_0), .rd A_symbols_2 (rowC (Eint .i64) l_symbols_2)] := HS323.sel [0, 1] rfl
              refine L_region ?_
              refine F_val rfl rfl rfl (O_assign rfl rfl) ?_
              refine F_nil ?_
              refine L_ret (fun a ha => (post_ret1 ha rfl rfl ?_))
              obtain rfl := Option.some.inj H
              exact ⟨rfl, HS334.sel [] rfl⟩
            · have H := of_neg H c333
              refine L_skip ?_
              refine L_seq ?_
              refine L_seq ?_
              refine L_region ?_
              refine F_val rfl rfl rfl (O_move rfl rfl) ?_
              refine F_val rfl rfl rfl (O_not rfl rfl) ?_
              refine F_nil ?_
              refine L_condP rfl (fun c335 => ?_) (fun c335 => ?_)
              · have H := of_pos H c335
                refine L_seq ?_
                refine L_region ?_
                refine F_val rfl rfl rfl (O_move rfl rfl) ?_
                refine F_val rfl rfl rfl (O_peq rfl rfl rfl Try.underlying62) ?_
                refine F_val rfl rfl rfl (O_move rfl rfl) ?_
                refine F_gskip rfl rfl rfl rfl rfl rfl rfl ?_
                refine F_gskip rfl rfl rfl rfl rfl rfl rfl ?_
                refine F_gskip rfl rfl rfl rfl rfl rfl rfl ?_
                refine F_val rfl rfl rfl (O_pickF rfl rfl rfl) ?_
                refine F_val rfl rfl rfl (O_assign rfl rfl) ?_
                refine F_nil ?_
                refine L_ret (fun a ha => (post_ret1 ha rfl rfl ?_))
                obtain rfl := Option.some.inj H
                exact ⟨rfl, HS323.sel [] rfl⟩
              · have H := of_neg H c335
                refine L_skip ?_
                refine L_seq ?_
                refine L_region ?_
                obtain ⟨⟨z340, z341⟩, h339, H⟩ := of_bind H
                refine F_call (xs := []) rfl rfl rfl rfl Try.func32 nm32 rfl rfl ((bits_NewWriter.calls (HS323.give [] rfl (Lent.nil)) h339).mono (fun e w hc => ?_))
                obtain ⟨g344, A346, c347, rfl, HSo⟩ := hc
                refine ⟨.pointer (some ⟨g344, 0, none⟩), rfl, ?_⟩
                have HS343 : Hp S0 w0 w [.rd A_lens_0 (rowC (Eint .i64) l_lens_0), .rd A_symbols_2 (rowC (Eint .i64) l_symbols_2), .box g237 (([.slice A239 z230.length c240, .slice A242 z231.length c243] : List Value) ++ rowC (Eint .i64) z232 ++ rowC (Eint .i64) z233 ++ ([.slice A245 z234.length c246] : List Value)) 108, .own A239 c240 (rowC (Eint .i64) z230) 3 (Eint .i64).sz, .own A242 c243 (rowC (Eint .i64) z231) 3 (Eint .i64).sz, .own A245 c246 (rowC (Eint .i64) z234) 3 (Eint .i64).sz, .box g344 [.slice A346 z340.length c347, .int .i64 z341] 98, .own A346 c347 (rowC (Eint .u8) z340) 5 (Eint .u8).sz] := (HS323.back [] HSo rfl).sel [0, 1, 2, 3, 4, 5, 6, 7] rfl
                refine F_val rfl rfl rfl (O_assign rfl rfl) ?_
                refine F_nil ?_
                refine L_seq ?_
                refine L_seq ?_
                refine L_region ?_
                refine F_val rfl rfl rfl (O_move rfl rfl) ?_
                refine F_val rfl rfl rfl (O_peq rfl rfl rfl Try.underlying62) ?_
                refine F_val rfl rfl rfl (O_move rfl rfl) ?_
                refine F_gval rfl rfl rfl rfl rfl rfl (O_move rfl rfl) ?_
                refine F_gval rfl rfl rfl rfl rfl rfl (O_peq rfl rfl rfl Try.underlying41) ?_
                refine F_val rfl rfl rfl (O_pickF rfl rfl rfl) ?_
                refine F_val rfl rfl rfl (O_move rfl rfl) ?_
                refine F_gskip rfl rfl rfl rfl rfl rfl rfl ?_
                refine F_gskip rfl rfl rfl rfl rfl rfl rfl ?_
                refine F_gskip rfl rfl rfl rfl rfl rfl rfl ?_
                refine F_val rfl rfl rfl (O_pickT rfl rfl rfl) ?_
                refine F_val rfl rfl rfl (O_move rfl rfl) ?_
                refine F_gskip rfl rfl rfl rfl rfl rfl rfl ?_
                refine F_gskip rfl rfl rfl rfl rfl rfl rfl ?_
                refine F_gskip rfl rfl rfl rfl rfl rfl rfl ?_
                refine F_val rfl rfl rfl (O_pickT rfl rfl rfl) ?_
                refine F_val rfl rfl rfl (O_move rfl rfl) ?_
                refine F_gskip rfl rfl rfl rfl rfl rfl rfl ?_
                refine F_gskip rfl rfl rfl rfl rfl rfl rfl ?_
                refine F_val rfl rfl rfl (O_pickT rfl rfl rfl) ?_
                refine F_nil ?_
                refine L_cond rfl (fun _ => ?_) (fun hx => by cases hx)
                refine L_seq ?_
                have HS349 : Hp S0 w0 w [.rd A_lens_0 (rowC (Eint .i64) l_lens_0), .rd A_symbols_2 (rowC (Eint .i64) l_symbols_2)] := HS343.sel [0, 1] rfl
                refine L_region ?_
                refine F_val rfl rfl rfl (O_assign rfl rfl) ?_
                refine F_nil ?_
                refine L_ret (fun a ha => (post_ret1 ha rfl rfl ?_))
                obtain rfl := Option.some.inj H
                exact ⟨rfl, HS349.sel [] rfl⟩
    · refine F_call (xs := [.tmp 35]) rfl rfl rfl rfl Try.func30 nm30 rfl rfl ((code_NewEncoder.calls (HS254.give [] rfl (Lent.own HS254 (Lent.nil) (i := 7) rfl rfl ((HS254.cells_own (i := 7) rfl).self))) (HS254.own_capE (i := 7) rfl (by decide)) h261).mono (fun e w hc => ?_))
      obtain ⟨z350, z351, z352, z353⟩ := z262
      have H := (onO_some _ _ _).symm.trans H
      obtain ⟨g356, A358, c359, A361, c362, rfl, HSo⟩ := hc
      refine ⟨.tuple #[.pointer (some ⟨g356, 0, none⟩), .int .i64 z263], rfl, ?_⟩
      have HS355 : Hp S0 w0 w [.rd A_lens_0 (rowC (Eint .i64) l_lens_0), .rd A_symbols_2 (rowC (Eint .i64) l_symbols_2), .own A8 c9 (rowC (Eint .i64) z5) 3 (Eint .i64).sz, .box g237 (([.slice A239 z230.length c240, .slice A242 z231.length c243] : List Value) ++ rowC (Eint .i64) z232 ++ rowC (Eint .i64) z233 ++ ([.slice A245 z234.length c246] : List Value)) 108, .own A239 c240 (rowC (Eint .i64) z230) 3 (Eint .i64).sz, .own A242 c243 (rowC (Eint .i64) z231) 3 (Eint .i64).sz, .own A245 c246 (rowC (Eint .i64) z234) 3 (Eint .i64).sz, .own A255 c256 (rowC (Eint .i64) z252) 3 (Eint .i64).sz, .box g356 (([.slice A358 z350.length c359, .slice A361 z351.length c362] : List Value) ++ rowC (Eint .i64) z352 ++ rowC (Eint .i64) z353) 94, .own A358 c359 (rowC (Eint .i64) z350) 3 (Eint .i64).sz, .own A361 c362 (rowC (Eint .i64) z351) 3 (Eint .i64).sz] := (HS254.back [] HSo rfl).sel [0, 1, 2, 3, 4, 5, 6, 7, 8, 9, 10] rfl
      refine F_val rfl rfl rfl (O_move rfl rfl) ?_
      refine F_val rfl rfl rfl (O_extract (v := .pointer (some ⟨g356, 0, none⟩)) rfl rfl rfl) ?_
      refine F_val rfl rfl rfl (O_extract (v := .int .i64 z263) rfl rfl rfl) ?_
      refine F_val rfl rfl rfl (O_assign rfl rfl) ?_
      refine F_val rfl rfl rfl (O_assign rfl rfl) ?_
      refine F_nil ?_
      refine L_seq ?_
      have HS364 : Hp S0 w0 w [.rd A_lens_0 (rowC (Eint .i64) l_lens_0), .rd A_symbols_2 (rowC (Eint .i64) l_symbols_2), .box g237 (([.slice A239 z230.length c240, .slice A242 z231.length c243] : List Value) ++ rowC (Eint .i64) z232 ++ rowC (Eint .i64) z233 ++ ([.slice A245 z234.length c246] : List Value)) 108, .own A239 c240 (rowC (Eint .i64) z230) 3 (Eint .i64).sz, .own A242 c243 (rowC (Eint .i64) z231) 3 (Eint .i64).sz, .own A245 c246 (rowC (Eint .i64) z234) 3 (Eint .i64).sz, .box g356 (([.slice A358 z350.length c359, .slice A361 z351.length c362] : List Value) ++ rowC (Eint .i64) z352 ++ rowC (Eint .i64) z353) 94, .own A358 c359 (rowC (Eint .i64) z350) 3 (Eint .i64).sz, .own A361 c362 (rowC (Eint .i64) z351) 3 (Eint .i64).sz] := HS355.sel [0, 1, 3, 4, 5, 6, 8, 9, 10] rfl
      refine L_region ?_
      refine F_val rfl rfl rfl (O_move rfl rfl) ?_
      obtain ⟨z369, h368, H⟩ := of_bind H
      refine F_call (xs := [.tmp 40]) rfl rfl rfl rfl Try.func28 nm28 rfl rfl ((valiselaw5_copied.calls (HS364.give [] rfl (Lent.rd HS364 (Lent.nil) (i := 0) rfl ((HS364.cells_rd (i := 0) rfl).self))) hc_lens_0 h368).mono (fun e w hc => ?_))
      obtain ⟨A372, c373, rfl, HSo⟩ := hc
      refine ⟨.slice A372 z369.length c373, rfl, ?_⟩
      have HS371 : Hp S0 w0 w [.rd A_lens_0 (rowC (Eint .i64) l_lens_0), .rd A_symbols_2 (rowC (Eint .i64) l_symbols_2), .box g237 (([.slice A239 z230.length c240, .slice A242 z231.length c243] : List Value) ++ rowC (Eint .i64) z232 ++ rowC (Eint .i64) z233 ++ ([.slice A245 z234.length c246] : List Value)) 108, .own A239 c240 (rowC (Eint .i64) z230) 3 (Eint .i64).sz, .own A242 c243 (rowC (Eint .i64) z231) 3 (Eint .i64).sz, .own A245 c246 (rowC (Eint .i64) z234) 3 (Eint .i64).sz, .box g356 (([.slice A358 z350.length c359, .slice A361 z351.length c362] : List Value) ++ rowC (Eint .i64) z352 ++ rowC (Eint .i64) z353) 94, .own A358 c359 (rowC (Eint .i64) z350) 3 (Eint .i64).sz, .own A361 c362 (rowC (Eint .i64) z351) 3 (Eint .i64).sz, .own A372 c373 (rowC (Eint .i64) z369) 3 (Eint .i64).sz] := (HS364.back [] HSo rfl).sel [0, 1, 2, 3, 4, 5, 6, 7, 8, 9] rfl
      obtain ⟨⟨z377, z378⟩, h376, H⟩ := of_bind H
      refine F_qcall (v := .tuple #[.int .i64 z377, .int .i64 z378]) (xs := [.tmp 41]) rfl rfl rfl rfl Try.func21 nm21 rfl rfl ((code_Check.calls (HS371.give [] rfl (Lent.own HS371 (Lent.nil) (i := 9) rfl rfl ((HS371.cells_own (i := 9) rfl).self))) (HS371.own_capE (i := 9) rfl (by decide)) h376).mono (fun e w hc => ?_)) (fun w379 hw380 => ?_)
      · obtain ⟨rfl, h⟩ := hc
        exact ⟨rfl, h.chg0⟩
      have HS381 := HS371.keep hw380
      refine F_val rfl rfl rfl (O_move rfl rfl) ?_
      refine F_val rfl rfl rfl (O_extract (v := .int .i64 z377) rfl rfl rfl) ?_
      refine F_val rfl rfl rfl (O_extract (v := .int .i64 z378) rfl rfl rfl) ?_
      refine F_val rfl rfl rfl (O_assign rfl rfl) ?_
      refine F_val rfl rfl rfl (O_assign rfl rfl) ?_
      refine F_nil ?_
      refine L_seq ?_
      refine L_region ?_
      refine F_val rfl rfl rfl (O_move rfl rfl) ?_
      refine F_qcall (v := .int .i64 z378) (xs := [.tmp 45]) rfl rfl rfl rfl Try.func23 nm23 rfl rfl ((valiselaw5_num.calls (HS381.give [] rfl (Lent.nil)) (rfl : valiselaw5_num.f z378 = some z378)).mono (fun e w hc => ?_)) (fun w385 hw386 => ?_)
      · obtain ⟨rfl, h⟩ := hc
        exact ⟨rfl, h.chg0⟩
      have HS387 := HS381.keep hw386
      refine F_val rfl rfl rfl (O_eq rfl rfl rfl) ?_
      refine F_val rfl rfl rfl (O_move rfl rfl) ?_
      refine F_grp 7 [(55, .bool (decide ((z378 = 0) ∧ ((z377 = 4) ∨ (z377 = 1))))), (0, .slice A_lens_0 l_lens_0.length c_lens_0), (1, .int .i64 lead_1), (2, .slice A_symbols_2 l_symbols_2.length c_symbols_2), (7, .pointer (some ⟨g237, 0, none⟩)), (8, .int .i64 z16), (9, .pointer (some ⟨g356, 0, none⟩)), (10, .int .i64 z263)] ?_ ?_
      · rcases Decidable.em (z378 = 0) with c395 | c395
        · refine F_know (i := 48) rfl (dec_t c395) ?_
          refine F_gval rfl rfl rfl rfl rfl rfl (O_move rfl rfl) ?_
          refine F_gval rfl rfl rfl rfl rfl rfl (O_eq rfl rfl rfl) ?_
          refine F_gval rfl rfl rfl rfl rfl rfl (O_move rfl rfl) ?_
          refine F_grp 3 [(54, .bool (decide ((z377 = 4) ∨ (z377 = 1)))), (0, .slice A_lens_0 l_lens_0.length c_lens_0), (1, .int .i64 lead_1), (2, .slice A_symbols_2 l_symbols_2.length c_symbols_2), (7, .pointer (some ⟨g237, 0, none⟩)), (8, .int .i64 z16), (9, .pointer (some ⟨g356, 0, none⟩)), (10, .int .i64 z263), (48, .bool true)] ?_ ?_
          · rcases Decidable.em (z377 = 4) with c399 | c399
            · refine F_know (i := 51) rfl (dec_t c399) ?_
              refine F_gskip rfl rfl rfl rfl rfl rfl rfl ?_
              refine F_gskip rfl rfl rfl rfl rfl rfl rfl ?_
              refine F_gval rfl rfl rfl rfl rfl rfl (O_pickT rfl rfl rfl) ?_
              refine F_know (i := 54) rfl (dec_or_t (q := z377 = 1) c399) ?_
              exact F_grpE (fun a ha => Is.cons ha (Is.cons ha (Is.cons ha (Is.cons ha (Is.cons ha (Is.cons ha (Is.cons ha (Is.cons ha (Is.cons ha (Is.nil ha) rfl) rfl) rfl) rfl) rfl) rfl) rfl) rfl) rfl)
            · refine F_know (i := 51) rfl (dec_f c399) ?_
              refine F_gval rfl rfl rfl rfl rfl rfl (O_move rfl rfl) ?_
              refine F_gval rfl rfl rfl rfl rfl rfl (O_eq rfl rfl rfl) ?_
              refine F_gval rfl rfl rfl rfl rfl rfl (O_pickF rfl rfl rfl) ?_
              refine F_know (i := 54) rfl (dec_or_f (q := z377 = 1) c399) ?_
              exact F_grpE (fun a ha => Is.cons ha (Is.cons ha (Is.cons ha (Is.cons ha (Is.cons ha (Is.cons ha (Is.cons ha (Is.cons ha (Is.cons ha (Is.nil ha) rfl) rfl) rfl) rfl) rfl) rfl) rfl) rfl) rfl)
          · skip
            refine F_val rfl rfl rfl (O_pickT rfl rfl rfl) ?_
            refine F_know (i := 55) rfl (dec_and_t (q := (z377 = 4) ∨ (z377 = 1)) c395) ?_
            exact F_grpE (fun a ha => Is.cons ha (Is.cons ha (Is.cons ha (Is.cons ha (Is.cons ha (Is.cons ha (Is.cons ha (Is.cons ha (Is.nil ha) rfl) rfl) rfl) rfl) rfl) rfl) rfl) rfl)
        · refine F_know (i := 48) rfl (dec_f c395) ?_
          refine F_gskip rfl rfl rfl rfl rfl rfl rfl ?_
          refine F_gskip rfl rfl rfl rfl rfl rfl rfl ?_
          refine F_gskip rfl rfl rfl rfl rfl rfl rfl ?_
          refine F_gskip rfl rfl rfl rfl rfl rfl rfl ?_
          refine F_gskip rfl rfl rfl rfl rfl rfl rfl ?_
          refine F_gskip rfl rfl rfl rfl rfl rfl rfl ?_
          refine F_val rfl rfl rfl (O_pickF rfl rfl rfl) ?_
          refine F_know (i := 55) rfl (dec_and_f (q := (z377 = 4) ∨ (z377 = 1)) c395) ?_
          exact F_grpE (fun a ha => Is.cons ha (Is.cons ha (Is.cons ha (Is.cons ha (Is.cons ha (Is.cons ha (Is.cons ha (Is.cons ha (Is.nil ha) rfl) rfl) rfl) rfl) rfl) rfl) rfl) rfl)
      · skip
        refine F_val rfl rfl rfl (O_assign rfl rfl) ?_
        refine F_nil ?_
        refine L_seq ?_
        refine L_region ?_
        refine F_litE (E := (Eint .i64)) (e := 3) [(0, .int .i64 1), (1, .int .i64 1)] [1, 1] rfl rfl rfl rfl rfl rfl rfl (by decide) (fun w => by kernel_rfl) HS387 (fun w400 A402 c403 HS401 => ?_)
        have HS401 : Hp S0 w0 w400 [.rd A_lens_0 (rowC (Eint .i64) l_lens_0), .rd A_symbols_2 (rowC (Eint .i64) l_symbols_2), .box g237 (([.slice A239 z230.length c240, .slice A242 z231.length c243] : List Value) ++ rowC (Eint .i64) z232 ++ rowC (Eint .i64) z233 ++ ([.slice A245 z234.length c246] : List Value)) 108, .own A239 c240 (rowC (Eint .i64) z230) 3 (Eint .i64).sz, .own A242 c243 (rowC (Eint .i64) z231) 3 (Eint .i64).sz, .own A245 c246 (rowC (Eint .i64) z234) 3 (Eint .i64).sz, .box g356 (([.slice A358 z350.length c359, .slice A361 z351.length c362] : List Value) ++ rowC (Eint .i64) z352 ++ rowC (Eint .i64) z353) 94, .own A358 c359 (rowC (Eint .i64) z350) 3 (Eint .i64).sz, .own A361 c362 (rowC (Eint .i64) z351) 3 (Eint .i64).sz, .own A372 c373 (rowC (Eint .i64) z369) 3 (Eint .i64).sz, .own A402 c403 (rowC (Eint .i64) [1, 1]) 3 (Eint .i64).sz] := HS401
        obtain ⟨⟨z407, z408⟩, h406, H⟩ := of_bind H
        refine F_qcall (v := .tuple #[.int .i64 z407, .int .i64 z408]) (xs := [.tmp 57]) rfl rfl rfl rfl Try.func21 nm21 rfl rfl ((code_Check.calls (HS401.give [] rfl (Lent.own HS401 (Lent.nil) (i := 10) rfl rfl ((HS401.cells_own (i := 10) rfl).self))) (HS401.own_capE (i := 10) rfl (by decide)) h406).mono (fun e w hc => ?_)) (fun w409 hw410 => ?_)
        · obtain ⟨rfl, h⟩ := hc
          exact ⟨rfl, h.chg0⟩
        have HS411 := HS401.keep hw410
        refine F_val rfl rfl rfl (O_move rfl rfl) ?_
        refine F_val rfl rfl rfl (O_extract (v := .int .i64 z407) rfl rfl rfl) ?_
        refine F_val rfl rfl rfl (O_extract (v := .int .i64 z408) rfl rfl rfl) ?_
        refine F_val rfl rfl rfl (O_assign rfl rfl) ?_
        refine F_val rfl rfl rfl (O_assign rfl rfl) ?_
        refine F_nil ?_
        refine L_seq ?_
        refine L_seq ?_
        have HS412 : Hp S0 w0 w409 [.rd A_lens_0 (rowC (Eint .i64) l_lens_0), .rd A_symbols_2 (rowC (Eint .i64) l_symbols_2), .box g237 (([.slice A239 z230.length c240, .slice A242 z231.length c243] : List Value) ++ rowC (Eint .i64) z232 ++ rowC (Eint .i64) z233 ++ ([.slice A245 z234.length c246] : List Value)) 108, .own A239 c240 (rowC (Eint .i64) z230) 3 (Eint .i64).sz, .own A242 c243 (rowC (Eint .i64) z231) 3 (Eint .i64).sz, .own A245 c246 (rowC (Eint .i64) z234) 3 (Eint .i64).sz, .box g356 (([.slice A358 z350.length c359, .slice A361 z351.length c362] : List Value) ++ rowC (Eint .i64) z352 ++ rowC (Eint .i64) z353) 94, .own A358 c359 (rowC (Eint .i64) z350) 3 (Eint .i64).sz, .own A361 c362 (rowC (Eint .i64) z351) 3 (Eint .i64).sz] := HS411.sel [0, 1, 2, 3, 4, 5, 6, 7, 8] rfl
        refine L_region ?_
        refine F_val rfl rfl rfl (O_move rfl rfl) ?_
        refine F_val rfl rfl rfl (O_ne rfl rfl rfl) ?_
        refine F_val rfl rfl rfl (O_move rfl rfl) ?_
        refine F_grpQ 4 [(67, .bool (decide ((z407 ≠ 4) ∨ (z408 ≠ 0)))), (0, .slice A_lens_0 l_lens_0.length c_lens_0), (1, .int .i64 lead_1), (2, .slice A_symbols_2 l_symbols_2.length c_symbols_2), (7, .pointer (some ⟨g237, 0, none⟩)), (8, .int .i64 z16), (9, .pointer (some ⟨g356, 0, none⟩)), (10, .int .i64 z263), (13, .bool (decide ((z378 = 0) ∧ ((z377 = 4) ∨ (z377 = 1)))))] ?_ (fun w419 hw420 => ?_)
        · rcases Decidable.em (z407 ≠ 4) with c422 | c422
          · refine F_know (i := 63) rfl (dec_t c422) ?_
            refine F_gskip rfl rfl rfl rfl rfl rfl rfl ?_
            refine F_gskip rfl rfl rfl rfl rfl rfl rfl ?_
            refine F_gskip rfl rfl rfl rfl rfl rfl rfl ?_
            refine F_val rfl rfl rfl (O_pickT rfl rfl rfl) ?_
            refine F_know (i := 67) rfl (dec_or_t (q := z408 ≠ 0) c422) ?_
            exact F_grpQE (Chg.refl NoB _) (fun a ha => Is.cons ha (Is.cons ha (Is.cons ha (Is.cons ha (Is.cons ha (Is.cons ha (Is.cons ha (Is.cons ha (Is.cons ha (Is.nil ha) rfl) rfl) rfl) rfl) rfl) rfl) rfl) rfl) rfl)
          · refine F_know (i := 63) rfl (dec_f c422) ?_
            refine F_gval rfl rfl rfl rfl rfl rfl (O_move rfl rfl) ?_
            refine F_gqcall (v := .int .i64 z408) (xs := [.tmp 64]) rfl rfl rfl rfl rfl rfl rfl Try.func23 nm23 rfl rfl ((valiselaw5_num.calls (HS412.give [] rfl (Lent.nil)) (rfl : valiselaw5_num.f z408 = some z408)).mono (fun e w hc => ?_)) (fun w426 hw427 => ?_)
            · obtain ⟨rfl, h⟩ := hc
              exact ⟨rfl, h.chg0⟩
            have HS428 := HS412.keep hw427
            refine F_gval rfl rfl rfl rfl rfl rfl (O_ne rfl rfl rfl) ?_
            refine F_val rfl rfl rfl (O_pickF rfl rfl rfl) ?_
            refine F_know (i := 67) rfl (dec_or_f (q := z408 ≠ 0) c422) ?_
            exact F_grpQE ((Chg.refl NoB _).trans hw427) (fun a ha => Is.cons ha (Is.cons ha (Is.cons ha (Is.cons ha (Is.cons ha (Is.cons ha (Is.cons ha (Is.cons ha (Is.cons ha (Is.nil ha) rfl) rfl) rfl) rfl) rfl) rfl) rfl) rfl) rfl)
        · have HS421 := HS412.keep hw420
          refine F_nil ?_
          refine L_condP rfl (fun c429 => ?_) (fun c429 => ?_)
          · have H := of_pos H c429
            refine L_seq ?_
            have HS430 : Hp S0 w0 w419 [.rd A_lens_0 (rowC (Eint .i64) l_lens_0), .rd A_symbols_2 (rowC (Eint .i64) l_symbols_2)] := HS421.sel [0, 1] rfl
            refine L_region ?_
            refine F_val rfl rfl rfl (O_assign rfl rfl) ?_
            refine F_nil ?_
            refine L_ret (fun a ha => (post_ret1 ha rfl rfl ?_))
            obtain rfl := Option.some.inj H
            exact ⟨rfl, HS430.sel [] rfl⟩
          · have H := of_neg H c429
            refine L_skip ?_
            refine L_seq ?_
            refine L_seq ?_
            refine L_region ?_
            refine F_val rfl rfl rfl (O_move rfl rfl) ?_
            refine F_val rfl rfl rfl (O_len rfl rfl Try.underlying22) ?_
            refine F_val rfl rfl rfl (O_gt rfl rfl rfl) ?_
            refine F_nil ?_
            refine L_condP rfl (fun c431 => ?_) (fun c431 => ?_)
            · have H := of_pos H c431
              refine L_seq ?_
              have HS432 : Hp S0 w0 w419 [.rd A_lens_0 (rowC (Eint .i64) l_lens_0), .rd A_symbols_2 (rowC (Eint .i64) l_symbols_2)] := HS421.sel [0, 1] rfl
              refine L_region ?_
              refine F_val rfl rfl rfl (O_assign rfl rfl) ?_
              refine F_nil ?_
              refine L_ret (fun a ha => (post_ret1 ha rfl rfl ?_))
              obtain rfl := Option.some.inj H
              exact ⟨rfl, HS432.sel [] rfl⟩
            · have H := of_neg H c431
              refine L_skip ?_
              refine L_seq ?_
              refine L_seq ?_
              refine L_region ?_
              refine F_val rfl rfl rfl (O_move rfl rfl) ?_
              refine F_val rfl rfl rfl (O_not rfl rfl) ?_
              refine F_nil ?_
              refine L_condP rfl (fun c433 => ?_) (fun c433 => ?_)
              · have H := of_pos H c433
                refine L_seq ?_
                have HS434 : Hp S0 w0 w419 [.rd A_lens_0 (rowC (Eint .i64) l_lens_0), .rd A_symbols_2 (rowC (Eint .i64) l_symbols_2), .box g237 (([.slice A239 z230.length c240, .slice A242 z231.length c243] : List Value) ++ rowC (Eint .i64) z232 ++ rowC (Eint .i64) z233 ++ ([.slice A245 z234.length c246] : List Value)) 108, .own A239 c240 (rowC (Eint .i64) z230) 3 (Eint .i64).sz, .own A242 c243 (rowC (Eint .i64) z231) 3 (Eint .i64).sz, .own A245 c246 (rowC (Eint .i64) z234) 3 (Eint .i64).sz] := HS421.sel [0, 1, 2, 3, 4, 5] rfl
                refine L_region ?_
                refine F_val rfl rfl rfl (O_move rfl rfl) ?_
                refine F_val rfl rfl rfl (O_peq rfl rfl rfl Try.underlying62) ?_
                refine F_val rfl rfl rfl (O_move rfl rfl) ?_
                refine F_gskip rfl rfl rfl rfl rfl rfl rfl ?_
                refine F_gskip rfl rfl rfl rfl rfl rfl rfl ?_
                refine F_gskip rfl rfl rfl rfl rfl rfl rfl ?_
                refine F_val rfl rfl rfl (O_pickF rfl rfl rfl) ?_
                refine F_val rfl rfl rfl (O_assign rfl rfl) ?_
                refine F_nil ?_
                refine L_ret (fun a ha => (post_ret1 ha rfl rfl ?_))
                obtain rfl := Option.some.inj H
                exact ⟨rfl, HS434.sel [] rfl⟩
              · have H := of_neg H c433
                refine L_skip ?_
                refine L_seq ?_
                refine L_region ?_
                obtain ⟨⟨z439, z440⟩, h438, H⟩ := of_bind H
                refine F_call (xs := []) rfl rfl rfl rfl Try.func32 nm32 rfl rfl ((bits_NewWriter.calls (HS421.give [] rfl (Lent.nil)) h438).mono (fun e w hc => ?_))
                obtain ⟨g443, A445, c446, rfl, HSo⟩ := hc
                refine ⟨.pointer (some ⟨g443, 0, none⟩), rfl, ?_⟩
                have HS442 : Hp S0 w0 w [.rd A_lens_0 (rowC (Eint .i64) l_lens_0), .rd A_symbols_2 (rowC (Eint .i64) l_symbols_2), .box g237 (([.slice A239 z230.length c240, .slice A242 z231.length c243] : List Value) ++ rowC (Eint .i64) z232 ++ rowC (Eint .i64) z233 ++ ([.slice A245 z234.length c246] : List Value)) 108, .own A239 c240 (rowC (Eint .i64) z230) 3 (Eint .i64).sz, .own A242 c243 (rowC (Eint .i64) z231) 3 (Eint .i64).sz, .own A245 c246 (rowC (Eint .i64) z234) 3 (Eint .i64).sz, .box g356 (([.slice A358 z350.length c359, .slice A361 z351.length c362] : List Value) ++ rowC (Eint .i64) z352 ++ rowC (Eint .i64) z353) 94, .own A358 c359 (rowC (Eint .i64) z350) 3 (Eint .i64).sz, .own A361 c362 (rowC (Eint .i64) z351) 3 (Eint .i64).sz, .box g443 [.slice A445 z439.length c446, .int .i64 z440] 98, .own A445 c446 (rowC (Eint .u8) z439) 5 (Eint .u8).sz] := (HS421.back [] HSo rfl).sel [0, 1, 2, 3, 4, 5, 6, 7, 8, 9, 10] rfl
                refine F_val rfl rfl rfl (O_assign rfl rfl) ?_
                refine F_nil ?_
                refine L_seq ?_
                refine L_seq ?_
                refine L_region ?_
                refine F_val rfl rfl rfl (O_move rfl rfl) ?_
                refine F_val rfl rfl rfl (O_peq rfl rfl rfl Try.underlying62) ?_
                refine F_val rfl rfl rfl (O_move rfl rfl) ?_
                refine F_gval rfl rfl rfl rfl rfl rfl (O_move rfl rfl) ?_
                refine F_gval rfl rfl rfl rfl rfl rfl (O_peq rfl rfl rfl Try.underlying41) ?_
                refine F_val rfl rfl rfl (O_pickF rfl rfl rfl) ?_
                refine F_val rfl rfl rfl (O_move rfl rfl) ?_
                refine F_gval rfl rfl rfl rfl rfl rfl (O_move rfl rfl) ?_
                refine F_gqcall (v := .int .i64 z16) (xs := [.tmp 88]) rfl rfl rfl rfl rfl rfl rfl Try.func23 nm23 rfl rfl ((valiselaw5_num.calls (HS442.give [] rfl (Lent.nil)) (rfl : valiselaw5_num.f z16 = some z16)).mono (fun e w hc => ?_)) (fun w451 hw452 => ?_)
                · obtain ⟨rfl, h⟩ := hc
                  exact ⟨rfl, h.chg0⟩
                have HS453 := HS442.keep hw452
                refine F_gval rfl rfl rfl rfl rfl rfl (O_ne rfl rfl rfl) ?_
                refine F_val rfl rfl rfl (O_pickF rfl rfl rfl) ?_
                refine F_val rfl rfl rfl (O_move rfl rfl) ?_
                refine F_grpQ 4 [(96, .bool (decide ((z16 ≠ 0) ∨ (z263 ≠ 0)))), (0, .slice A_lens_0 l_lens_0.length c_lens_0), (1, .int .i64 lead_1), (2, .slice A_symbols_2 l_symbols_2.length c_symbols_2), (7, .pointer (some ⟨g237, 0, none⟩)), (9, .pointer (some ⟨g356, 0, none⟩)), (16, .pointer (some ⟨g443, 0, none⟩))] ?_ (fun w460 hw461 => ?_)
                · rcases Decidable.em (z16 ≠ 0) with c463 | c463
                  · refine F_know (i := 92) rfl (dec_t c463) ?_
                    refine F_gskip rfl rfl rfl rfl rfl rfl rfl ?_
                    refine F_gskip rfl rfl rfl rfl rfl rfl rfl ?_
                    refine F_gskip rfl rfl rfl rfl rfl rfl rfl ?_
                    refine F_val rfl rfl rfl (O_pickT rfl rfl rfl) ?_
                    refine F_know (i := 96) rfl (dec_or_t (q := z263 ≠ 0) c463) ?_
                    exact F_grpQE (Chg.refl NoB _) (fun a ha => Is.cons ha (Is.cons ha (Is.cons ha (Is.cons ha (Is.cons ha (Is.cons ha (Is.cons ha (Is.nil ha) rfl) rfl) rfl) rfl) rfl) rfl) rfl)
                  · refine F_know (i := 92) rfl (dec_f c463) ?_
                    refine F_gval rfl rfl rfl rfl rfl rfl (O_move rfl rfl) ?_
                    refine F_gqcall (v := .int .i64 z263) (xs := [.tmp 93]) rfl rfl rfl rfl rfl rfl rfl Try.func23 nm23 rfl rfl ((valiselaw5_num.calls (HS453.give [] rfl (Lent.nil)) (rfl : valiselaw5_num.f z263 = some z263)).mono (fun e w hc => ?_)) (fun w467 hw468 => ?_)
                    · obtain ⟨rfl, h⟩ := hc
                      exact ⟨rfl, h.chg0⟩
                    have HS469 := HS453.keep hw468
                    refine F_gval rfl rfl rfl rfl rfl rfl (O_ne rfl rfl rfl) ?_
                    refine F_val rfl rfl rfl (O_pickF rfl rfl rfl) ?_
                    refine F_know (i := 96) rfl (dec_or_f (q := z263 ≠ 0) c463) ?_
                    exact F_grpQE ((Chg.refl NoB _).trans hw468) (fun a ha => Is.cons ha (Is.cons ha (Is.cons ha (Is.cons ha (Is.cons ha (Is.cons ha (Is.cons ha (Is.nil ha) rfl) rfl) rfl) rfl) rfl) rfl) rfl)
                · have HS462 := HS453.keep hw461
                  refine F_val rfl rfl rfl (O_move rfl rfl) ?_
                  refine F_grp 3 [(100, .bool (decide (((z16 ≠ 0) ∨ (z263 ≠ 0)) ∧ true))), (0, .slice A_lens_0 l_lens_0.length c_lens_0), (1, .int .i64 lead_1), (2, .slice A_symbols_2 l_symbols_2.length c_symbols_2), (7, .pointer (some ⟨g237, 0, none⟩)), (9, .pointer (some ⟨g356, 0, none⟩)), (16, .pointer (some ⟨g443, 0, none⟩))] ?_ ?_
                  · rcases Decidable.em ((z16 ≠ 0) ∨ (z263 ≠ 0)) with c473 | c473
                    · refine F_know (i := 97) rfl (dec_t c473) ?_
                      refine F_gskip rfl rfl rfl rfl rfl rfl rfl ?_
                      refine F_gskip rfl rfl rfl rfl rfl rfl rfl ?_
                      refine F_val rfl rfl rfl (O_pickT rfl rfl rfl) ?_
                      refine F_know (i := 100) rfl (dec_and_t (q := true) c473) ?_
                      exact F_grpE (fun a ha => Is.cons ha (Is.cons ha (Is.cons ha (Is.cons ha (Is.cons ha (Is.cons ha (Is.cons ha (Is.nil ha) rfl) rfl) rfl) rfl) rfl) rfl) rfl)
                    · refine F_know (i := 97) rfl (dec_f c473) ?_
                      refine F_gval rfl rfl rfl rfl rfl rfl (O_move rfl rfl) ?_
                      refine F_gval rfl rfl rfl rfl rfl rfl (O_peq rfl rfl rfl Try.underlying47) ?_
                      refine F_val rfl rfl rfl (O_pickF rfl rfl rfl) ?_
                      refine F_know (i := 100) rfl (dec_and_f (q := true) c473) ?_
                      exact F_grpE (fun a ha => Is.cons ha (Is.cons ha (Is.cons ha (Is.cons ha (Is.cons ha (Is.cons ha (Is.cons ha (Is.nil ha) rfl) rfl) rfl) rfl) rfl) rfl) rfl)
                  · skip
                    refine F_nil ?_
                    refine L_condP rfl (fun c474 => ?_) (fun c474 => ?_)
                    · have H := of_pos H c474
                      refine L_seq ?_
                      have HS475 : Hp S0 w0 w460 [.rd A_lens_0 (rowC (Eint .i64) l_lens_0), .rd A_symbols_2 (rowC (Eint .i64) l_symbols_2)] := HS462.sel [0, 1] rfl
                      refine L_region ?_
                      refine F_val rfl rfl rfl (O_assign rfl rfl) ?_
                      refine F_nil ?_
                      refine L_ret (fun a ha => (post_ret1 ha rfl rfl ?_))
                      obtain rfl := Option.some.inj H
                      exact ⟨rfl, HS475.sel [] rfl⟩
                    · have H := of_neg H c474
                      refine L_skip ?_
                      refine L_seq ?_
                      refine L_region ?_
                      refine F_val rfl rfl rfl (O_move rfl rfl) ?_
                      refine F_val rfl rfl rfl (O_move rfl rfl) ?_
                      obtain ⟨⟨z480, z481, z482⟩, h479, H⟩ := of_bind H
                      refine F_call (xs := [.tmp 101, .const (.int .u32 0), .tmp 102]) rfl rfl rfl rfl Try.func34 nm34 rfl rfl ((bits_Writer_Put.calls (HS462.give [9, 10] rfl (Lent.nil)) h479).mono (fun e w hc => ?_))
                      obtain ⟨A485, c486, rfl, HSo⟩ := hc
                      refine ⟨.int .i64 z480, rfl, ?_⟩
                      have HS484 : Hp S0 w0 w [.rd A_lens_0 (rowC (Eint .i64) l_lens_0), .rd A_symbols_2 (rowC (Eint .i64) l_symbols_2), .box g237 (([.slice A239 z230.length c240, .slice A242 z231.length c243] : List Value) ++ rowC (Eint .i64) z232 ++ rowC (Eint .i64) z233 ++ ([.slice A245 z234.length c246] : List Value)) 108, .own A239 c240 (rowC (Eint .i64) z230) 3 (Eint .i64).sz, .own A242 c243 (rowC (Eint .i64) z231) 3 (Eint .i64).sz, .own A245 c246 (rowC (Eint .i64) z234) 3 (Eint .i64).sz, .box g356 (([.slice A358 z350.length c359, .slice A361 z351.length c362] : List Value) ++ rowC (Eint .i64) z352 ++ rowC (Eint .i64) z353) 94, .own A358 c359 (rowC (Eint .i64) z350) 3 (Eint .i64).sz, .own A361 c362 (rowC (Eint .i64) z351) 3 (Eint .i64).sz, .box g443 [.slice A485 z481.length c486, .int .i64 z482] 98, .own A485 c486 (rowC (Eint .u8) z481) 5 (Eint .u8).sz] := (HS462.back [9, 10] HSo rfl).sel [0, 1, 2, 3, 4, 5, 6, 7, 8, 11, 12] rfl
                      refine F_nil ?_
                      refine L_seq ?_
                      refine L_region ?_
                      refine F_val rfl rfl rfl (O_move rfl rfl) ?_
                      obtain ⟨z489, h488, H⟩ := of_bind H
                      refine F_qcall (v := .int .i64 z489) (xs := [.tmp 104]) rfl rfl rfl rfl Try.func40 nm40 rfl rfl ((bits_Writer_Len.calls (HS484.give [] rfl (Lent.box HS484 (Lent.own HS484 (Lent.nil) (i := 10) rfl rfl ((HS484.cells_own (i := 10) rfl).self)) (i := 9) rfl rfl (HS484.cells_box (i := 9) rfl).self)) h488).mono (fun e w hc => ?_)) (fun w490 hw491 => ?_)
                      · obtain ⟨rfl, h⟩ := hc
                        exact ⟨rfl, h.chg0⟩
                      have HS492 := HS484.keep hw491
                      refine F_val rfl rfl rfl (O_assign rfl rfl) ?_
                      refine F_nil ?_
                      refine L_seq ?_
                      refine L_region ?_
                      refine F_val rfl rfl rfl (O_assign rfl rfl) ?_
                      have HS493 := HS492.addNil 3 (Eint .i64).sz
                      have HS493 : Hp S0 w0 w490 [.rd A_lens_0 (rowC (Eint .i64) l_lens_0), .rd A_symbols_2 (rowC (Eint .i64) l_symbols_2), .box g237 (([.slice A239 z230.length c240, .slice A242 z231.length c243] : List Value) ++ rowC (Eint .i64) z232 ++ rowC (Eint .i64) z233 ++ ([.slice A245 z234.length c246] : List Value)) 108, .own A239 c240 (rowC (Eint .i64) z230) 3 (Eint .i64).sz, .own A242 c243 (rowC (Eint .i64) z231) 3 (Eint .i64).sz, .own A245 c246 (rowC (Eint .i64) z234) 3 (Eint .i64).sz, .box g356 (([.slice A358 z350.length c359, .slice A361 z351.length c362] : List Value) ++ rowC (Eint .i64) z352 ++ rowC (Eint .i64) z353) 94, .own A358 c359 (rowC (Eint .i64) z350) 3 (Eint .i64).sz, .own A361 c362 (rowC (Eint .i64) z351) 3 (Eint .i64).sz, .box g443 [.slice A485 z481.length c486, .int .i64 z482] 98, .own A485 c486 (rowC (Eint .u8) z481) 5 (Eint .u8).sz, .own none 0 (rowC (Eint .i64) ([] : List Int)) 3 (Eint .i64).sz] := HS493
                      refine F_nil ?_
                      refine L_seq ?_
                      refine L_seq ?_
                      refine L_region ?_
                      refine F_val rfl rfl rfl (O_assign rfl rfl) ?_
                      refine F_nil ?_
                      obtain ⟨yj495, Hyj495, H⟩ := of_bind H
                      refine L_join (fun a w => ∃ (l733 : List Int), ∃ (l736 : List Int), ∃ (y737 : Int), ∃ (A731 : Option Addr), ∃ (c732 : Nat), ∃ (A734 : Option Addr), ∃ (c735 : Nat), yj495 = Sum.inr (l733, l736, y737) ∧ Is Try.f12.ntmps a [(7, .pointer (some ⟨g237, 0, none⟩)), (16, .pointer (some ⟨g443, 0, none⟩)), (17, .int .i64 z489), (18, .slice A734 l736.length c735)] ∧ Hp S0 w0 w [.rd A_lens_0 (rowC (Eint .i64) l_lens_0), .rd A_symbols_2 (rowC (Eint .i64) l_symbols_2), .box g237 (([.slice A239 z230.length c240, .slice A242 z231.length c243] : List Value) ++ rowC (Eint .i64) z232 ++ rowC (Eint .i64) z233 ++ ([.slice A245 z234.length c246] : List Value)) 108, .own A239 c240 (rowC (Eint .i64) z230) 3 (Eint .i64).sz, .own A242 c243 (rowC (Eint .i64) z231) 3 (Eint .i64).sz, .own A245 c246 (rowC (Eint .i64) z234) 3 (Eint .i64).sz, .box g443 [.slice A731 l733.length c732, .int .i64 y737] 98, .own A731 c732 (rowC (Eint .u8) l733) 5 (Eint .u8).sz, .own A734 c735 (rowC (Eint .i64) l736) 3 (Eint .i64).sz]) (fun Qj495 hNj495 hOj495 => ?_) (fun a w hR => ?_)
                      · have HOj495 := H
                        have H := Hyj495
                        refine L_blk (fun Qb738 hNb738 hXb738 hOb738 => ?_)
                        refine L_lp (fun k a w => ∃ (l894 : List Int), ∃ (l897 : List Int), ∃ (y898 : Int), ∃ (i_899 : Int), ∃ (A892 : Option Addr), ∃ (c893 : Nat), ∃ (A895 : Option Addr), ∃ (c896 : Nat), Is Try.f12.ntmps a [(0, .slice A_lens_0 l_lens_0.length c_lens_0), (2, .slice A_symbols_2 l_symbols_2.length c_symbols_2), (7, .pointer (some ⟨g237, 0, none⟩)), (9, .pointer (some ⟨g356, 0, none⟩)), (16, .pointer (some ⟨g443, 0, none⟩)), (17, .int .i64 z489), (18, .slice A895 l897.length c896), (19, .int .i64 i_899)] ∧ Hp S0 w0 w [.rd A_lens_0 (rowC (Eint .i64) l_lens_0), .rd A_symbols_2 (rowC (Eint .i64) l_symbols_2), .box g237 (([.slice A239 z230.length c240, .slice A242 z231.length c243] : List Value) ++ rowC (Eint .i64) z232 ++ rowC (Eint .i64) z233 ++ ([.slice A245 z234.length c246] : List Value)) 108, .own A239 c240 (rowC (Eint .i64) z230) 3 (Eint .i64).sz, .own A242 c243 (rowC (Eint .i64) z231) 3 (Eint .i64).sz, .own A245 c246 (rowC (Eint .i64) z234) 3 (Eint .i64).sz, .box g356 (([.slice A358 z350.length c359, .slice A361 z351.length c362] : List Value) ++ rowC (Eint .i64) z352 ++ rowC (Eint .i64) z353) 94, .own A358 c359 (rowC (Eint .i64) z350) 3 (Eint .i64).sz, .own A361 c362 (rowC (Eint .i64) z351) 3 (Eint .i64).sz, .box g443 [.slice A892 l894.length c893, .int .i64 y898] 98, .own A892 c893 (rowC (Eint .u8) l894) 5 (Eint .u8).sz, .own A895 c896 (rowC (Eint .i64) l897) 3 (Eint .i64).sz] ∧ valiselaw5_CodeBack.l1 k l894 l897 y898 i_899 l_lens_0 l_symbols_2 z350 z351 z352 z353 = some yj495) FU (fun a ha => ⟨_, _, _, _, _, _, _, _, Is.cons ha (Is.cons ha (Is.cons ha (Is.cons ha (Is.cons ha (Is.cons ha (Is.cons ha (Is.cons ha (Is.nil ha) rfl) rfl) rfl) rfl) rfl) rfl) rfl) rfl, HS493.sel [0, 1, 2, 3, 4, 5, 6, 7, 8, 9, 10, 11] rfl, H⟩) (fun kp891 a w900 hI Qp891 hNp891 hOp891 => ?_)
                        obtain ⟨l894, l897, y898, i_899, A892, c893, A895, c896, ha, HS901, HAp891⟩ := hI
                        cases kp891 with
                        | zero => cases (show (none : Option _) = some _ from HAp891)
                        | succ kp891 =>
                          have H := (valiselaw5_CodeBack.l1.eq_2 ..).symm.trans HAp891
                          refine wpLF_app ?_ ha
                          refine L_seq ?_
                          refine L_seq ?_
                          refine L_region ?_
                          refine F_val rfl rfl rfl (O_move rfl rfl) ?_
                          refine F_val rfl rfl rfl (O_move rfl rfl) ?_
                          refine F_val rfl rfl rfl (O_len rfl rfl Try.underlying22) ?_
                          refine F_val rfl rfl rfl (O_lt rfl rfl rfl) ?_
                          refine F_nil ?_
                          refine L_condP rfl (fun c902 => ?_) (fun c902 => ?_)
                          · have H := of_pos H c902
                            refine L_skip ?_
                            refine L_seq ?_
                            refine L_blk (fun Q903 hN903 hX903 hO903 => ?_)
                            refine L_seq ?_
                            refine L_region ?_
                            refine F_val rfl rfl rfl (O_move rfl rfl) ?_
                            refine F_val rfl rfl rfl (O_move rfl rfl) ?_
                            obtain ⟨⟨g904, g905⟩, H⟩ := of_gd H
                            refine F_val rfl rfl rfl (O_idx rfl rfl rfl Try.underlying22 size3 g904 g905 (Cells.isA (HS901.cells_rd (i := 1) rfl) (rowC_ne (E := (Eint .i64)) g904 g905 (by decide)))) ?_
                            refine F_val rfl rfl rfl (O_loadC rfl rfl flat3 (HS901.cells_rd (i := 1) rfl) (int_cell g904 g905)) ?_
                            obtain ⟨x906, h907, H⟩ := of_bnd H
                            refine F_val rfl rfl rfl (O_assign' rfl rfl (congrArg (Value.int .i64) h907)) ?_
                            refine F_nil ?_
                            refine L_seq ?_
                            refine L_region ?_
                            refine F_val rfl rfl rfl (O_move rfl rfl) ?_
                            refine F_val rfl rfl rfl (O_move rfl rfl) ?_
                            refine F_val rfl rfl rfl (O_move rfl rfl) ?_
                            obtain ⟨⟨z912, z913, z914⟩, h911, H⟩ := of_bind H
                            refine F_call (xs := [.tmp 116, .tmp 117, .tmp 118]) rfl rfl rfl rfl Try.func36 nm36 rfl rfl ((code_Encoder_Put.calls (HS901.give [9, 10] rfl (Lent.box HS901 (Lent.own HS901 (Lent.own HS901 (Lent.nil) (i := 8) rfl rfl ((HS901.cells_own (i := 8) rfl).self)) (i := 7) rfl rfl ((HS901.cells_own (i := 7) rfl).self)) (i := 6) rfl rfl (HS901.cells_box (i := 6) rfl).self)) h911).mono (fun e w hc => ?_))
                            obtain ⟨A917, c918, rfl, HSo⟩ := hc
                            refine ⟨.int .i64 z912, rfl, ?_⟩
                            have HS916 : Hp S0 w0 w [.rd A_lens_0 (rowC (Eint .i64) l_lens_0), .rd A_symbols_2 (rowC (Eint .i64) l_symbols_2), .box g237 (([.slice A239 z230.length c240, .slice A242 z231.length c243] : List Value) ++ rowC (Eint .i64) z232 ++ rowC (Eint .i64) z233 ++ ([.slice A245 z234.length c246] : List Value)) 108, .own A239 c240 (rowC (Eint .i64) z230) 3 (Eint .i64).sz, .own A242 c243 (rowC (Eint .i64) z231) 3 (Eint .i64).sz, .own A245 c246 (rowC (Eint .i64) z234) 3 (Eint .i64).sz, .box g356 (([.slice A358 z350.length c359, .slice A361 z351.length c362] : List Value) ++ rowC (Eint .i64) z352 ++ rowC (Eint .i64) z353) 94, .own A358 c359 (rowC (Eint .i64) z350) 3 (Eint .i64).sz, .own A361 c362 (rowC (Eint .i64) z351) 3 (Eint .i64).sz, .box g443 [.slice A917 z913.length c918, .int .i64 z914] 98, .own A917 c918 (rowC (Eint .u8) z913) 5 (Eint .u8).sz, .own A895 c896 (rowC (Eint .i64) l897) 3 (Eint .i64).sz] := (HS901.back [9, 10] HSo rfl).sel [0, 1, 2, 3, 4, 5, 6, 7, 8, 12, 13, 11] rfl
                            refine F_qcall (v := .int .i64 z912) (xs := [.tmp 119]) rfl rfl rfl rfl Try.func23 nm23 rfl rfl ((valiselaw5_num.calls (HS916.give [] rfl (Lent.nil)) (rfl : valiselaw5_num.f z912 = some z912)).mono (fun e w hc => ?_)) (fun w922 hw923 => ?_)
                            · obtain ⟨rfl, h⟩ := hc
                              exact ⟨rfl, h.chg0⟩
                            have HS924 := HS916.keep hw923
                            refine F_val rfl rfl rfl (O_ne rfl rfl rfl) ?_
                            refine F_val rfl rfl rfl (O_assign rfl rfl) ?_
                            refine F_nil ?_
                            refine L_seq ?_
                            refine L_region ?_
                            refine F_val rfl rfl rfl (O_move rfl rfl) ?_
                            refine F_val rfl rfl rfl (O_ge rfl rfl rfl) ?_
                            refine F_val rfl rfl rfl (O_move rfl rfl) ?_
                            refine F_grp 5 [(129, .bool (decide ((0 ≤ x906) ∧ (x906 < (l_lens_0.length : Int))))), (0, .slice A_lens_0 l_lens_0.length c_lens_0), (2, .slice A_symbols_2 l_symbols_2.length c_symbols_2), (7, .pointer (some ⟨g237, 0, none⟩)), (9, .pointer (some ⟨g356, 0, none⟩)), (16, .pointer (some ⟨g443, 0, none⟩)), (17, .int .i64 z489), (18, .slice A895 l897.length c896), (19, .int .i64 i_899), (20, .int .i64 x906), (21, .bool (decide (z912 ≠ 0)))] ?_ ?_
                            · rcases Decidable.em (0 ≤ x906) with c928 | c928
                              · refine F_know (i := 124) rfl (dec_t c928) ?_
                                refine F_gval rfl rfl rfl rfl rfl rfl (O_move rfl rfl) ?_
                                refine F_gval rfl rfl rfl rfl rfl rfl (O_move rfl rfl) ?_
                                refine F_gval rfl rfl rfl rfl rfl rfl (O_len rfl rfl Try.underlying22) ?_
                                refine F_gval rfl rfl rfl rfl rfl rfl (O_lt rfl rfl rfl) ?_
                                refine F_val rfl rfl rfl (O_pickT rfl rfl rfl) ?_
                                refine F_know (i := 129) rfl (dec_and_t (q := x906 < (l_lens_0.length : Int)) c928) ?_
                                exact F_grpE (fun a ha => Is.cons ha (Is.cons ha (Is.cons ha (Is.cons ha (Is.cons ha (Is.cons ha (Is.cons ha (Is.cons ha (Is.cons ha (Is.cons ha (Is.cons ha (Is.nil ha) rfl) rfl) rfl) rfl) rfl) rfl) rfl) rfl) rfl) rfl) rfl)
                              · refine F_know (i := 124) rfl (dec_f c928) ?_
                                refine F_gskip rfl rfl rfl rfl rfl rfl rfl ?_
                                refine F_gskip rfl rfl rfl rfl rfl rfl rfl ?_
                                refine F_gskip rfl rfl rfl rfl rfl rfl rfl ?_
                                refine F_gskip rfl rfl rfl rfl rfl rfl rfl ?_
                                refine F_val rfl rfl rfl (O_pickF rfl rfl rfl) ?_
                                refine F_know (i := 129) rfl (dec_and_f (q := x906 < (l_lens_0.length : Int)) c928) ?_
                                exact F_grpE (fun a ha => Is.cons ha (Is.cons ha (Is.cons ha (Is.cons ha (Is.cons ha (Is.cons ha (Is.cons ha (Is.cons ha (Is.cons ha (Is.cons ha (Is.cons ha (Is.nil ha) rfl) rfl) rfl) rfl) rfl) rfl) rfl) rfl) rfl) rfl) rfl)
                            · skip
                              refine F_val rfl rfl rfl (O_move rfl rfl) ?_
                              obtain ⟨b931, Hb931, H⟩ := of_bind H
                              refine F_grp 6 [(136, .bool b931), (0, .slice A_lens_0 l_lens_0.length c_lens_0), (2, .slice A_symbols_2 l_symbols_2.length c_symbols_2), (7, .pointer (some ⟨g237, 0, none⟩)), (9, .pointer (some ⟨g356, 0, none⟩)), (16, .pointer (some ⟨g443, 0, none⟩)), (17, .int .i64 z489), (18, .slice A895 l897.length c896), (19, .int .i64 i_899), (20, .int .i64 x906), (21, .bool (decide (z912 ≠ 0)))] ?_ ?_
                              · rcases Decidable.em ((0 ≤ x906) ∧ (x906 < (l_lens_0.length : Int))) with c935 | c935
                                · refine F_know (i := 130) rfl (dec_t c935) ?_
                                  have H := of_pos Hb931 c935
                                  refine F_gval rfl rfl rfl rfl rfl rfl (O_move rfl rfl) ?_
                                  refine F_gval rfl rfl rfl rfl rfl rfl (O_move rfl rfl) ?_
                                  obtain ⟨⟨g936, g937⟩, H⟩ := of_gd H
                                  refine F_gval rfl rfl rfl rfl rfl rfl (O_idx rfl rfl rfl Try.underlying22 size3 g936 g937 (Cells.isA (HS924.cells_rd (i := 0) rfl) (rowC_ne (E := (Eint .i64)) g936 g937 (by decide)))) ?_
                                  refine F_gval rfl rfl rfl rfl rfl rfl (O_loadC rfl rfl flat3 (HS924.cells_rd (i := 0) rfl) (int_cell g936 g937)) ?_
                                  refine F_gval rfl rfl rfl rfl rfl rfl (O_gt rfl rfl rfl) ?_
                                  refine F_val rfl rfl rfl (O_pickT rfl rfl rfl) ?_
                                  refine F_know (i := 136) rfl (congrArg Value.bool (Option.some.inj H)) ?_
                                  exact F_grpE (fun a ha => Is.cons ha (Is.cons ha (Is.cons ha (Is.cons ha (Is.cons ha (Is.cons ha (Is.cons ha (Is.cons ha (Is.cons ha (Is.cons ha (Is.cons ha (Is.nil ha) rfl) rfl) rfl) rfl) rfl) rfl) rfl) rfl) rfl) rfl) rfl)
                                · refine F_know (i := 130) rfl (dec_f c935) ?_
                                  have H := of_neg Hb931 c935
                                  refine F_gskip rfl rfl rfl rfl rfl rfl rfl ?_
                                  refine F_gskip rfl rfl rfl rfl rfl rfl rfl ?_
                                  refine F_gskip rfl rfl rfl rfl rfl rfl rfl ?_
                                  refine F_gskip rfl rfl rfl rfl rfl rfl rfl ?_
                                  refine F_gskip rfl rfl rfl rfl rfl rfl rfl ?_
                                  refine F_val rfl rfl rfl (O_pickF rfl rfl rfl) ?_
                                  refine F_know (i := 136) rfl (congrArg Value.bool (Option.some.inj H)) ?_
                                  exact F_grpE (fun a ha => Is.cons ha (Is.cons ha (Is.cons ha (Is.cons ha (Is.cons ha (Is.cons ha (Is.cons ha (Is.cons ha (Is.cons ha (Is.cons ha (Is.cons ha (Is.nil ha) rfl) rfl) rfl) rfl) rfl) rfl) rfl) rfl) rfl) rfl) rfl)
                              · skip
                                refine F_val rfl rfl rfl (O_assign rfl rfl) ?_
                                refine F_nil ?_
                                refine L_seq ?_
                                refine L_seq ?_
                                refine L_region ?_
                                refine F_val rfl rfl rfl (O_move rfl rfl) ?_
                                refine F_val rfl rfl rfl (O_move rfl rfl) ?_
                                refine F_val rfl rfl rfl (O_beq rfl rfl rfl Try.underlying4) ?_
                                refine F_nil ?_
                                refine L_cond rfl (fun c938 => ?_) (fun c938 => ?_)
                                · have H := of_pos H c938
                                  refine L_seq ?_
                                  refine L_region ?_
                                  refine F_val rfl rfl rfl (O_assign rfl rfl) ?_
                                  refine F_nil ?_
                                  refine L_ret (fun a ha => (hO903 .ret a _ rfl (hOp891 .ret a _ rfl (hOb738 .ret a _ rfl (hOj495 .ret a _ rfl (post_ret1 ha rfl rfl ?_))))))
                                  obtain rfl := Option.some.inj H
                                  obtain rfl := Option.some.inj (show (some false : Option (Bool)) = some _ from HOj495)
                                  exact ⟨rfl, HS924.sel [] rfl⟩
                                · have H := of_neg H (by rw [c938]; exact Bool.false_ne_true)
                                  refine L_skip ?_
                                  refine L_seq ?_
                                  refine L_region ?_
                                  refine F_val rfl rfl rfl (O_move rfl rfl) ?_
                                  refine F_nil ?_
                                  obtain ⟨yj939, Hyj939, H⟩ := of_bind H
                                  refine L_join (fun a w => ∃ (l955 : List Int), ∃ (A953 : Option Addr), ∃ (c954 : Nat), yj939 = l955 ∧ Is Try.f12.ntmps a [(0, .slice A_lens_0 l_lens_0.length c_lens_0), (2, .slice A_symbols_2 l_symbols_2.length c_symbols_2), (7, .pointer (some ⟨g237, 0, none⟩)), (9, .pointer (some ⟨g356, 0, none⟩)), (16, .pointer (some ⟨g443, 0, none⟩)), (17, .int .i64 z489), (18, .slice A953 l955.length c954), (19, .int .i64 i_899)] ∧ Hp S0 w0 w [.rd A_lens_0 (rowC (Eint .i64) l_lens_0), .rd A_symbols_2 (rowC (Eint .i64) l_symbols_2), .box g237 (([.slice A239 z230.length c240, .slice A242 z231.length c243] : List Value) ++ rowC (Eint .i64) z232 ++ rowC (Eint .i64) z233 ++ ([.slice A245 z234.length c246] : List Value)) 108, .own A239 c240 (rowC (Eint .i64) z230) 3 (Eint .i64).sz, .own A242 c243 (rowC (Eint .i64) z231) 3 (Eint .i64).sz, .own A245 c246 (rowC (Eint .i64) z234) 3 (Eint .i64).sz, .box g356 (([.slice A358 z350.length c359, .slice A361 z351.length c362] : List Value) ++ rowC (Eint .i64) z352 ++ rowC (Eint .i64) z353) 94, .own A358 c359 (rowC (Eint .i64) z350) 3 (Eint .i64).sz, .own A361 c362 (rowC (Eint .i64) z351) 3 (Eint .i64).sz, .box g443 [.slice A917 z913.length c918, .int .i64 z914] 98, .own A917 c918 (rowC (Eint .u8) z913) 5 (Eint .u8).sz, .own A953 c954 (rowC (Eint .i64) l955) 3 (Eint .i64).sz]) (fun Qj939 hNj939 hOj939 => ?_) (fun a w hR => ?_)
                                  · skip
                                    have H := Hyj939
                                    refine L_cond rfl (fun c956 => ?_) (fun c956 => ?_)
                                    · have H := of_pos H c956
                                      refine L_region ?_
                                      refine F_val rfl rfl rfl (O_move rfl rfl) ?_
                                      refine F_val rfl rfl rfl (O_move rfl rfl) ?_
                                      refine F_litE (E := (Eint .i64)) (e := 3) [(0, .int .i64 x906)] [x906] rfl rfl rfl rfl rfl rfl rfl (by decide) (fun w => by kernel_rfl) HS924 (fun w957 A959 c960 HS958 => ?_)
                                      have HS958 : Hp S0 w0 w957 [.rd A_lens_0 (rowC (Eint .i64) l_lens_0), .rd A_symbols_2 (rowC (Eint .i64) l_symbols_2), .box g237 (([.slice A239 z230.length c240, .slice A242 z231.length c243] : List Value) ++ rowC (Eint .i64) z232 ++ rowC (Eint .i64) z233 ++ ([.slice A245 z234.length c246] : List Value)) 108, .own A239 c240 (rowC (Eint .i64) z230) 3 (Eint .i64).sz, .own A242 c243 (rowC (Eint .i64) z231) 3 (Eint .i64).sz, .own A245 c246 (rowC (Eint .i64) z234) 3 (Eint .i64).sz, .box g356 (([.slice A358 z350.length c359, .slice A361 z351.length c362] : List Value) ++ rowC (Eint .i64) z352 ++ rowC (Eint .i64) z353) 94, .own A358 c359 (rowC (Eint .i64) z350) 3 (Eint .i64).sz, .own A361 c362 (rowC (Eint .i64) z351) 3 (Eint .i64).sz, .box g443 [.slice A917 z913.length c918, .int .i64 z914] 98, .own A917 c918 (rowC (Eint .u8) z913) 5 (Eint .u8).sz, .own A895 c896 (rowC (Eint .i64) l897) 3 (Eint .i64).sz, .own A959 c960 (rowC (Eint .i64) [x906]) 3 (Eint .i64).sz] := HS958
                                      obtain ⟨l964, h965, H⟩ := of_bnd H
                                      obtain ⟨g966, H⟩ := of_gd H
                                      refine F_appE (E := (Eint .i64)) (xs := l897) (ys := [x906]) (i := 11) rfl rfl rfl rfl Try.underlying22 info3 rfl (by decide) (by decide) rfl rfl HS958 rfl (HS958.cells_own (i := 12) rfl) h965 g966 (fun w962 A967 c968 HS963 => ?_)
                                      have HS963 : Hp S0 w0 w962 [.rd A_lens_0 (rowC (Eint .i64) l_lens_0), .rd A_symbols_2 (rowC (Eint .i64) l_symbols_2), .box g237 (([.slice A239 z230.length c240, .slice A242 z231.length c243] : List Value) ++ rowC (Eint .i64) z232 ++ rowC (Eint .i64) z233 ++ ([.slice A245 z234.length c246] : List Value)) 108, .own A239 c240 (rowC (Eint .i64) z230) 3 (Eint .i64).sz, .own A242 c243 (rowC (Eint .i64) z231) 3 (Eint .i64).sz, .own A245 c246 (rowC (Eint .i64) z234) 3 (Eint .i64).sz, .box g356 (([.slice A358 z350.length c359, .slice A361 z351.length c362] : List Value) ++ rowC (Eint .i64) z352 ++ rowC (Eint .i64) z353) 94, .own A358 c359 (rowC (Eint .i64) z350) 3 (Eint .i64).sz, .own A361 c362 (rowC (Eint .i64) z351) 3 (Eint .i64).sz, .box g443 [.slice A917 z913.length c918, .int .i64 z914] 98, .own A917 c918 (rowC (Eint .u8) z913) 5 (Eint .u8).sz, .own A967 c968 (rowC (Eint .i64) l964) 3 (Eint .i64).sz, .own A959 c960 (rowC (Eint .i64) [x906]) 3 (Eint .i64).sz] := HS963
                                      refine F_val rfl rfl rfl (O_assign rfl rfl) ?_
                                      refine F_nil ?_
                                      refine L_nil (fun a ha => hNj939 a _ ⟨_, _, _, (Option.some.inj H).symm, Is.cons ha (Is.cons ha (Is.cons ha (Is.cons ha (Is.cons ha (Is.cons ha (Is.cons ha (Is.cons ha (Is.nil ha) rfl) rfl) rfl) rfl) rfl) rfl) rfl) rfl, HS963.sel [0, 1, 2, 3, 4, 5, 6, 7, 8, 9, 10, 11] rfl⟩)
                                    · have H := of_neg H (by rw [c956]; exact Bool.false_ne_true)
                                      refine L_skip ?_
                                      refine L_nil (fun a ha => hNj939 a _ ⟨_, _, _, (Option.some.inj H).symm, Is.cons ha (Is.cons ha (Is.cons ha (Is.cons ha (Is.cons ha (Is.cons ha (Is.cons ha (Is.cons ha (Is.nil ha) rfl) rfl) rfl) rfl) rfl) rfl) rfl) rfl, HS924.sel [0, 1, 2, 3, 4, 5, 6, 7, 8, 9, 10, 11] rfl⟩)
                                  · obtain ⟨l955, A953, c954, ej, ha, HS970⟩ := hR
                                    obtain rfl := ej.symm
                                    refine wpLF_app ?_ ha
                                    refine L_endB hN903 ?_
                                    refine L_region ?_
                                    refine F_val rfl rfl rfl (O_move rfl rfl) ?_
                                    refine F_val rfl rfl rfl (O_add rfl rfl rfl) ?_
                                    obtain ⟨x971, h972, H⟩ := of_bnd H
                                    refine F_val rfl rfl rfl (O_assign' rfl rfl (congrArg (Value.int .i64) h972)) ?_
                                    refine F_nil ?_
                                    refine L_nil (fun a ha => hNp891 _ a _ (Nat.lt_succ_self _) ⟨_, _, _, _, _, _, _, _, Is.cons ha (Is.cons ha (Is.cons ha (Is.cons ha (Is.cons ha (Is.cons ha (Is.cons ha (Is.cons ha (Is.nil ha) rfl) rfl) rfl) rfl) rfl) rfl) rfl) rfl, HS970.sel [0, 1, 2, 3, 4, 5, 6, 7, 8, 9, 10, 11] rfl, H⟩)
                          · have H := of_neg H c902
                            refine L_exitB (fun a w h => hOp891 (.exit 0) a w rfl (hXb738 a w h)) ?_
                            refine L_nil (fun a ha => hNj495 a _ ⟨_, _, _, _, _, _, _, (Option.some.inj H).symm, Is.cons ha (Is.cons ha (Is.cons ha (Is.cons ha (Is.nil ha) rfl) rfl) rfl) rfl, HS901.sel [0, 1, 2, 3, 4, 5, 9, 10, 11] rfl⟩)
                      · obtain ⟨l733, l736, y737, A731, c732, A734, c735, rfl, ha, HS974⟩ := hR
                        refine wpLF_app ?_ ha
                        have H := (onR_inr _ _ _).symm.trans H
                        refine L_seq ?_
                        refine L_region ?_
                        refine F_val rfl rfl rfl (O_move rfl rfl) ?_
                        obtain ⟨z979, h978, H⟩ := of_bind H
                        refine F_call (xs := [.tmp 145]) rfl rfl rfl rfl Try.func43 nm43 rfl rfl ((bits_Writer_Bytes.calls (HS974.give [] rfl (Lent.box HS974 (Lent.own HS974 (Lent.nil) (i := 7) rfl rfl ((HS974.cells_own (i := 7) rfl).self)) (i := 6) rfl rfl (HS974.cells_box (i := 6) rfl).self)) h978).mono (fun e w hc => ?_))
                        obtain ⟨A982, c983, rfl, HSo⟩ := hc
                        refine ⟨.slice A982 z979.length c983, rfl, ?_⟩
                        have HS981 : Hp S0 w0 w [.rd A_lens_0 (rowC (Eint .i64) l_lens_0), .rd A_symbols_2 (rowC (Eint .i64) l_symbols_2), .box g237 (([.slice A239 z230.length c240, .slice A242 z231.length c243] : List Value) ++ rowC (Eint .i64) z232 ++ rowC (Eint .i64) z233 ++ ([.slice A245 z234.length c246] : List Value)) 108, .own A239 c240 (rowC (Eint .i64) z230) 3 (Eint .i64).sz, .own A242 c243 (rowC (Eint .i64) z231) 3 (Eint .i64).sz, .own A245 c246 (rowC (Eint .i64) z234) 3 (Eint .i64).sz, .box g443 [.slice A731 l733.length c732, .int .i64 y737] 98, .own A731 c732 (rowC (Eint .u8) l733) 5 (Eint .u8).sz, .own A734 c735 (rowC (Eint .i64) l736) 3 (Eint .i64).sz, .own A982 c983 (rowC (Eint .u8) z979) 5 (Eint .u8).sz] := (HS974.back [] HSo rfl).sel [0, 1, 2, 3, 4, 5, 6, 7, 8, 9] rfl
                        obtain ⟨z989, h988, H⟩ := of_bind H
                        rcases z989 with _ | z989
                        · refine F_call (xs := [.tmp 146]) rfl rfl rfl rfl Try.func47 nm47 rfl rfl ((bits_NewReader.calls (HS981.give [] rfl (Lent.own HS981 (Lent.nil) (i := 9) rfl rfl ((HS981.cells_own (i := 9) rfl).self))) (HS981.own_capE (i := 9) rfl (by decide)) h988).mono (fun e w hc => ?_))
                          have H := (onO_none _ _).symm.trans H
                          obtain ⟨rfl, HSo⟩ := hc
                          refine ⟨.pointer none, rfl, ?_⟩
                          have HS991 : Hp S0 w0 w [.rd A_lens_0 (rowC (Eint .i64) l_lens_0), .rd A_symbols_2 (rowC (Eint .i64) l_symbols_2), .box g237 (([.slice A239 z230.length c240, .slice A242 z231.length c243] : List Value) ++ rowC (Eint .i64) z232 ++ rowC (Eint .i64) z233 ++ ([.slice A245 z234.length c246] : List Value)) 108, .own A239 c240 (rowC (Eint .i64) z230) 3 (Eint .i64).sz, .own A242 c243 (rowC (Eint .i64) z231) 3 (Eint .i64).sz, .own A245 c246 (rowC (Eint .i64) z234) 3 (Eint .i64).sz, .box g443 [.slice A731 l733.length c732, .int .i64 y737] 98, .own A731 c732 (rowC (Eint .u8) l733) 5 (Eint .u8).sz, .own A734 c735 (rowC (Eint .i64) l736) 3 (Eint .i64).sz, .own A982 c983 (rowC (Eint .u8) z979) 5 (Eint .u8).sz] := (HS981.back [] HSo rfl).sel [0, 1, 2, 3, 4, 5, 6, 7, 8, 9] rfl
                          refine F_val rfl rfl rfl (O_assign rfl rfl) ?_
                          refine F_nil ?_
                          refine L_seq ?_
                          refine L_seq ?_
                          refine L_region ?_
                          refine F_val rfl rfl rfl (O_move rfl rfl) ?_
                          refine F_val rfl rfl rfl (O_peq rfl rfl rfl Try.underlying68) ?_
                          refine F_val rfl rfl rfl (O_move rfl rfl) ?_
                          refine F_gskip rfl rfl rfl rfl rfl rfl rfl ?_
                          refine F_gskip rfl rfl rfl rfl rfl rfl rfl ?_
                          refine F_gskip rfl rfl rfl rfl rfl rfl rfl ?_
                          refine F_gskip rfl rfl rfl rfl rfl rfl rfl ?_
                          refine F_gskip rfl rfl rfl rfl rfl rfl rfl ?_
                          refine F_val rfl rfl rfl (O_pickT rfl rfl rfl) ?_
                          refine F_nil ?_
                          refine L_cond rfl (fun _ => ?_) (fun hx => by cases hx)
                          refine L_seq ?_
                          have HS992 : Hp S0 w0 w [.rd A_lens_0 (rowC (Eint .i64) l_lens_0), .rd A_symbols_2 (rowC (Eint .i64) l_symbols_2)] := HS991.sel [0, 1] rfl
                          refine L_region ?_
                          refine F_val rfl rfl rfl (O_assign rfl rfl) ?_
                          refine F_nil ?_
                          refine L_ret (fun a ha => (post_ret1 ha rfl rfl ?_))
                          obtain rfl := Option.some.inj H
                          exact ⟨rfl, HS992.sel [] rfl⟩
                        · refine F_call (xs := [.tmp 146]) rfl rfl rfl rfl Try.func47 nm47 rfl rfl ((bits_NewReader.calls (HS981.give [] rfl (Lent.own HS981 (Lent.nil) (i := 9) rfl rfl ((HS981.cells_own (i := 9) rfl).self))) (HS981.own_capE (i := 9) rfl (by decide)) h988).mono (fun e w hc => ?_))
                          obtain ⟨z993, z994⟩ := z989
                          have H := (onO_some _ _ _).symm.trans H
                          obtain ⟨g997, A999, c1000, rfl, HSo⟩ := hc
                          refine ⟨.pointer (some ⟨g997, 0, none⟩), rfl, ?_⟩
                          have HS996 : Hp S0 w0 w [.rd A_lens_0 (rowC (Eint .i64) l_lens_0), .rd A_symbols_2 (rowC (Eint .i64) l_symbols_2), .box g237 (([.slice A239 z230.length c240, .slice A242 z231.length c243] : List Value) ++ rowC (Eint .i64) z232 ++ rowC (Eint .i64) z233 ++ ([.slice A245 z234.length c246] : List Value)) 108, .own A239 c240 (rowC (Eint .i64) z230) 3 (Eint .i64).sz, .own A242 c243 (rowC (Eint .i64) z231) 3 (Eint .i64).sz, .own A245 c246 (rowC (Eint .i64) z234) 3 (Eint .i64).sz, .box g443 [.slice A731 l733.length c732, .int .i64 y737] 98, .own A731 c732 (rowC (Eint .u8) l733) 5 (Eint .u8).sz, .own A734 c735 (rowC (Eint .i64) l736) 3 (Eint .i64).sz, .own A982 c983 (rowC (Eint .u8) z979) 5 (Eint .u8).sz, .box g997 [.slice A999 z993.length c1000, .int .i64 z994] 112, .own A999 c1000 (rowC (Eint .u8) z993) 5 (Eint .u8).sz] := (HS981.back [] HSo rfl).sel [0, 1, 2, 3, 4, 5, 6, 7, 8, 9, 10, 11] rfl
                          refine F_val rfl rfl rfl (O_assign rfl rfl) ?_
                          refine F_nil ?_
                          refine L_seq ?_
                          refine L_seq ?_
                          refine L_region ?_
                          refine F_val rfl rfl rfl (O_move rfl rfl) ?_
                          refine F_val rfl rfl rfl (O_peq rfl rfl rfl Try.underlying68) ?_
                          refine F_val rfl rfl rfl (O_move rfl rfl) ?_
                          refine F_gval rfl rfl rfl rfl rfl rfl (O_move rfl rfl) ?_
                          refine F_gval rfl rfl rfl rfl rfl rfl (O_move rfl rfl) ?_
                          obtain ⟨⟨z1006, z1007, z1008⟩, h1005, H⟩ := of_bind H
                          refine F_gcall (xs := [.tmp 151, .tmp 152]) rfl rfl rfl rfl rfl rfl rfl Try.func49 nm49 rfl rfl ((bits_Reader_Skip.calls (HS996.give [10, 11] rfl (Lent.nil)) h1005).mono (fun e w hc => ?_))
                          obtain ⟨A1011, c1012, rfl, HSo⟩ := hc
                          refine ⟨.int .i64 z1006, rfl, ?_⟩
                          have HS1010 : Hp S0 w0 w [.rd A_lens_0 (rowC (Eint .i64) l_lens_0), .rd A_symbols_2 (rowC (Eint .i64) l_symbols_2), .box g237 (([.slice A239 z230.length c240, .slice A242 z231.length c243] : List Value) ++ rowC (Eint .i64) z232 ++ rowC (Eint .i64) z233 ++ ([.slice A245 z234.length c246] : List Value)) 108, .own A239 c240 (rowC (Eint .i64) z230) 3 (Eint .i64).sz, .own A242 c243 (rowC (Eint .i64) z231) 3 (Eint .i64).sz, .own A245 c246 (rowC (Eint .i64) z234) 3 (Eint .i64).sz, .box g443 [.slice A731 l733.length c732, .int .i64 y737] 98, .own A731 c732 (rowC (Eint .u8) l733) 5 (Eint .u8).sz, .own A734 c735 (rowC (Eint .i64) l736) 3 (Eint .i64).sz, .own A982 c983 (rowC (Eint .u8) z979) 5 (Eint .u8).sz, .box g997 [.slice A1011 z1007.length c1012, .int .i64 z1008] 112, .own A1011 c1012 (rowC (Eint .u8) z1007) 5 (Eint .u8).sz] := (HS996.back [10, 11] HSo rfl).sel [0, 1, 2, 3, 4, 5, 6, 7, 8, 9, 12, 13] rfl
                          refine F_gqcall (v := .int .i64 z1006) (xs := [.tmp 153]) rfl rfl rfl rfl rfl rfl rfl Try.func23 nm23 rfl rfl ((valiselaw5_num.calls (HS1010.give [] rfl (Lent.nil)) (rfl : valiselaw5_num.f z1006 = some z1006)).mono (fun e w hc => ?_)) (fun w1016 hw1017 => ?_)
                          · obtain ⟨rfl, h⟩ := hc
                            exact ⟨rfl, h.chg0⟩
                          have HS1018 := HS1010.keep hw1017
                          refine F_gval rfl rfl rfl rfl rfl rfl (O_ne rfl rfl rfl) ?_
                          refine F_val rfl rfl rfl (O_pickF rfl rfl rfl) ?_
                          refine F_nil ?_
                          refine L_condP rfl (fun c1019 => ?_) (fun c1019 => ?_)
                          · have H := of_pos H c1019
                            refine L_seq ?_
                            have HS1020 : Hp S0 w0 w1016 [.rd A_lens_0 (rowC (Eint .i64) l_lens_0), .rd A_symbols_2 (rowC (Eint .i64) l_symbols_2)] := HS1018.sel [0, 1] rfl
                            refine L_region ?_
                            refine F_val rfl rfl rfl (O_assign rfl rfl) ?_
                            refine F_nil ?_
                            refine L_ret (fun a ha => (post_ret1 ha rfl rfl ?_))
                            obtain rfl := Option.some.inj H
                            exact ⟨rfl, HS1020.sel [] rfl⟩
                          · have H := of_neg H c1019
                            refine L_skip ?_
                            refine L_seq ?_
                            refine L_seq ?_
                            refine L_region ?_
                            refine F_val rfl rfl rfl (O_assign rfl rfl) ?_
                            refine F_nil ?_
                            obtain ⟨yj1021, Hyj1021, H⟩ := of_bind H
                            refine L_join (fun a w => ∃ (l1145 : List Int), ∃ (y1146 : Int), ∃ (A1143 : Option Addr), ∃ (c1144 : Nat), yj1021 = Sum.inr (l1145, y1146) ∧ Is Try.f12.ntmps a [(16, .pointer (some ⟨g443, 0, none⟩)), (23, .pointer (some ⟨g997, 0, none⟩))] ∧ Hp S0 w0 w [.rd A_lens_0 (rowC (Eint .i64) l_lens_0), .rd A_symbols_2 (rowC (Eint .i64) l_symbols_2), .box g443 [.slice A731 l733.length c732, .int .i64 y737] 98, .own A731 c732 (rowC (Eint .u8) l733) 5 (Eint .u8).sz, .box g997 [.slice A1143 l1145.length c1144, .int .i64 y1146] 112, .own A1143 c1144 (rowC (Eint .u8) l1145) 5 (Eint .u8).sz]) (fun Qj1021 hNj1021 hOj1021 => ?_) (fun a w hR => ?_)
                            · have HOj1021 := H
                              have H := Hyj1021
                              refine L_blk (fun Qb1147 hNb1147 hXb1147 hOb1147 => ?_)
                              refine L_lp (fun k a w => ∃ (l1228 : List Int), ∃ (y1229 : Int), ∃ (i_1230 : Int), ∃ (A1226 : Option Addr), ∃ (c1227 : Nat), Is Try.f12.ntmps a [(7, .pointer (some ⟨g237, 0, none⟩)), (16, .pointer (some ⟨g443, 0, none⟩)), (18, .slice A734 l736.length c735), (23, .pointer (some ⟨g997, 0, none⟩)), (24, .int .i64 i_1230)] ∧ Hp S0 w0 w [.rd A_lens_0 (rowC (Eint .i64) l_lens_0), .rd A_symbols_2 (rowC (Eint .i64) l_symbols_2), .box g237 (([.slice A239 z230.length c240, .slice A242 z231.length c243] : List Value) ++ rowC (Eint .i64) z232 ++ rowC (Eint .i64) z233 ++ ([.slice A245 z234.length c246] : List Value)) 108, .own A239 c240 (rowC (Eint .i64) z230) 3 (Eint .i64).sz, .own A242 c243 (rowC (Eint .i64) z231) 3 (Eint .i64).sz, .own A245 c246 (rowC (Eint .i64) z234) 3 (Eint .i64).sz, .box g443 [.slice A731 l733.length c732, .int .i64 y737] 98, .own A731 c732 (rowC (Eint .u8) l733) 5 (Eint .u8).sz, .own A734 c735 (rowC (Eint .i64) l736) 3 (Eint .i64).sz, .box g997 [.slice A1226 l1228.length c1227, .int .i64 y1229] 112, .own A1226 c1227 (rowC (Eint .u8) l1228) 5 (Eint .u8).sz] ∧ valiselaw5_CodeBack.l3 k l1228 y1229 i_1230 z230 z231 z232 z233 z234 l736 = some yj1021) FU (fun a ha => ⟨_, _, _, _, _, Is.cons ha (Is.cons ha (Is.cons ha (Is.cons ha (Is.cons ha (Is.nil ha) rfl) rfl) rfl) rfl) rfl, HS1018.sel [0, 1, 2, 3, 4, 5, 6, 7, 8, 10, 11] rfl, H⟩) (fun kp1225 a w1231 hI Qp1225 hNp1225 hOp1225 => ?_)
                              obtain ⟨l1228, y1229, i_1230, A1226, c1227, ha, HS1232, HAp1225⟩ := hI
                              cases kp1225 with
                              | zero => cases (show (none : Option _) = some _ from HAp1225)
                              | succ kp1225 =>
                                have H := (valiselaw5_CodeBack.l3.eq_2 ..).symm.trans HAp1225
                                refine wpLF_app ?_ ha
                                refine L_seq ?_
                                refine L_seq ?_
                                refine L_region ?_
                                refine F_val rfl rfl rfl (O_move rfl rfl) ?_
                                refine F_val rfl rfl rfl (O_move rfl rfl) ?_
                                refine F_val rfl rfl rfl (O_len rfl rfl Try.underlying22) ?_
                                refine F_val rfl rfl rfl (O_lt rfl rfl rfl) ?_
                                refine F_nil ?_
                                refine L_condP rfl (fun c1233 => ?_) (fun c1233 => ?_)
                                · have H := of_pos H c1233
                                  refine L_skip ?_
                                  refine L_seq ?_
                                  refine L_blk (fun Q1234 hN1234 hX1234 hO1234 => ?_)
                                  refine L_seq ?_
                                  refine L_region ?_
                                  refine F_val rfl rfl rfl (O_move rfl rfl) ?_
                                  refine F_val rfl rfl rfl (O_move rfl rfl) ?_
                                  obtain ⟨⟨z1239, z1240, z1241, z1242⟩, h1238, H⟩ := of_bind H
                                  refine F_call (xs := [.tmp 164, .tmp 165]) rfl rfl rfl rfl Try.func51 nm51 rfl rfl ((code_Decoder_Next.calls (HS1232.give [9, 10] rfl (Lent.box HS1232 (Lent.own HS1232 (Lent.own HS1232 (Lent.own HS1232 (Lent.nil) (i := 5) rfl rfl ((HS1232.cells_own (i := 5) rfl).self)) (i := 4) rfl rfl ((HS1232.cells_own (i := 4) rfl).self)) (i := 3) rfl rfl ((HS1232.cells_own (i := 3) rfl).self)) (i := 2) rfl rfl (HS1232.cells_box (i := 2) rfl).self)) h1238).mono (fun e w hc => ?_))
                                  obtain ⟨A1245, c1246, rfl, HSo⟩ := hc
                                  refine ⟨.tuple #[.int .i64 z1239, .int .i64 z1240], rfl, ?_⟩
                                  have HS1244 : Hp S0 w0 w [.rd A_lens_0 (rowC (Eint .i64) l_lens_0), .rd A_symbols_2 (rowC (Eint .i64) l_symbols_2), .box g237 (([.slice A239 z230.length c240, .slice A242 z231.length c243] : List Value) ++ rowC (Eint .i64) z232 ++ rowC (Eint .i64) z233 ++ ([.slice A245 z234.length c246] : List Value)) 108, .own A239 c240 (rowC (Eint .i64) z230) 3 (Eint .i64).sz, .own A242 c243 (rowC (Eint .i64) z231) 3 (Eint .i64).sz, .own A245 c246 (rowC (Eint .i64) z234) 3 (Eint .i64).sz, .box g443 [.slice A731 l733.length c732, .int .i64 y737] 98, .own A731 c732 (rowC (Eint .u8) l733) 5 (Eint .u8).sz, .own A734 c735 (rowC (Eint .i64) l736) 3 (Eint .i64).sz, .box g997 [.slice A1245 z1241.length c1246, .int .i64 z1242] 112, .own A1245 c1246 (rowC (Eint .u8) z1241) 5 (Eint .u8).sz] := (HS1232.back [9, 10] HSo rfl).sel [0, 1, 2, 3, 4, 5, 6, 7, 8, 11, 12] rfl
                                  refine F_val rfl rfl rfl (O_move rfl rfl) ?_
                                  refine F_val rfl rfl rfl (O_extract (v := .int .i64 z1239) rfl rfl rfl) ?_
                                  refine F_val rfl rfl rfl (O_extract (v := .int .i64 z1240) rfl rfl rfl) ?_
                                  refine F_val rfl rfl rfl (O_assign rfl rfl) ?_
                                  refine F_val rfl rfl rfl (O_assign rfl rfl) ?_
                                  refine F_nil ?_
                                  refine L_seq ?_
                                  refine L_region ?_
                                  refine F_val rfl rfl rfl (O_move rfl rfl) ?_
                                  refine F_val rfl rfl rfl (O_move rfl rfl) ?_
                                  refine F_val rfl rfl rfl (O_move rfl rfl) ?_
                                  obtain ⟨⟨g1247, g1248⟩, H⟩ := of_gd H
                                  refine F_val rfl rfl rfl (O_idx rfl rfl rfl Try.underlying22 size3 g1247 g1248 (Cells.isA (HS1244.cells_own (i := 8) rfl) (rowC_ne (E := (Eint .i64)) g1247 g1248 (by decide)))) ?_
                                  refine F_val rfl rfl rfl (O_loadC rfl rfl flat3 (HS1244.cells_own (i := 8) rfl) (int_cell g1247 g1248)) ?_
                                  refine F_val rfl rfl rfl (O_ne rfl rfl rfl) ?_
                                  refine F_val rfl rfl rfl (O_move rfl rfl) ?_
                                  refine F_grpQ 4 [(179, .bool (decide ((z1239 ≠ rd l736 i_1230) ∨ (z1240 ≠ 0)))), (7, .pointer (some ⟨g237, 0, none⟩)), (16, .pointer (some ⟨g443, 0, none⟩)), (18, .slice A734 l736.length c735), (23, .pointer (some ⟨g997, 0, none⟩)), (24, .int .i64 i_1230)] ?_ (fun w1255 hw1256 => ?_)
                                  · rcases Decidable.em (z1239 ≠ rd l736 i_1230) with c1258 | c1258
                                    · refine F_know (i := 175) rfl (dec_t c1258) ?_
                                      refine F_gskip rfl rfl rfl rfl rfl rfl rfl ?_
                                      refine F_gskip rfl rfl rfl rfl rfl rfl rfl ?_
                                      refine F_gskip rfl rfl rfl rfl rfl rfl rfl ?_
                                      refine F_val rfl rfl rfl (O_pickT rfl rfl rfl) ?_
                                      refine F_know (i := 179) rfl (dec_or_t (q := z1240 ≠ 0) c1258) ?_
                                      exact F_grpQE (Chg.refl NoB _) (fun a ha => Is.cons ha (Is.cons ha (Is.cons ha (Is.cons ha (Is.cons ha (Is.cons ha (Is.nil ha) rfl) rfl) rfl) rfl) rfl) rfl)
                                    · refine F_know (i := 175) rfl (dec_f c1258) ?_
                                      refine F_gval rfl rfl rfl rfl rfl rfl (O_move rfl rfl) ?_
                                      refine F_gqcall (v := .int .i64 z1240) (xs := [.tmp 176]) rfl rfl rfl rfl rfl rfl rfl Try.func23 nm23 rfl rfl ((valiselaw5_num.calls (HS1244.give [] rfl (Lent.nil)) (rfl : valiselaw5_num.f z1240 = some z1240)).mono (fun e w hc => ?_)) (fun w1262 hw1263 => ?_)
                                      · obtain ⟨rfl, h⟩ := hc
                                        exact ⟨rfl, h.chg0⟩
                                      have HS1264 := HS1244.keep hw1263
                                      refine F_gval rfl rfl rfl rfl rfl rfl (O_ne rfl rfl rfl) ?_
                                      refine F_val rfl rfl rfl (O_pickF rfl rfl rfl) ?_
                                      refine F_know (i := 179) rfl (dec_or_f (q := z1240 ≠ 0) c1258) ?_
                                      exact F_grpQE ((Chg.refl NoB _).trans hw1263) (fun a ha => Is.cons ha (Is.cons ha (Is.cons ha (Is.cons ha (Is.cons ha (Is.cons ha (Is.nil ha) rfl) rfl) rfl) rfl) rfl) rfl)
                                  · have HS1257 := HS1244.keep hw1256
                                    refine F_nil ?_
                                    refine L_condP rfl (fun c1265 => ?_) (fun c1265 => ?_)
                                    · have H := of_pos H c1265
                                      refine L_seq ?_
                                      refine L_region ?_
                                      refine F_val rfl rfl rfl (O_assign rfl rfl) ?_
                                      refine F_nil ?_
                                      refine L_ret (fun a ha => (hO1234 .ret a _ rfl (hOp1225 .ret a _ rfl (hOb1147 .ret a _ rfl (hOj1021 .ret a _ rfl (post_ret1 ha rfl rfl ?_))))))
                                      obtain rfl := Option.some.inj H
                                      obtain rfl := Option.some.inj (show (some false : Option (Bool)) = some _ from HOj1021)
                                      exact ⟨rfl, HS1257.sel [] rfl⟩
                                    · have H := of_neg H c1265
                                      refine L_skip ?_
                                      refine L_endB hN1234 ?_
                                      refine L_region ?_
                                      refine F_val rfl rfl rfl (O_move rfl rfl) ?_
                                      refine F_val rfl rfl rfl (O_add rfl rfl rfl) ?_
                                      obtain ⟨x1266, h1267, H⟩ := of_bnd H
                                      refine F_val rfl rfl rfl (O_assign' rfl rfl (congrArg (Value.int .i64) h1267)) ?_
                                      refine F_nil ?_
                                      refine L_nil (fun a ha => hNp1225 _ a _ (Nat.lt_succ_self _) ⟨_, _, _, _, _, Is.cons ha (Is.cons ha (Is.cons ha (Is.cons ha (Is.cons ha (Is.nil ha) rfl) rfl) rfl) rfl) rfl, HS1257.sel [0, 1, 2, 3, 4, 5, 6, 7, 8, 9, 10] rfl, H⟩)
                                · have H := of_neg H c1233
                                  refine L_exitB (fun a w h => hOp1225 (.exit 2) a w rfl (hXb1147 a w h)) ?_
                                  refine L_nil (fun a ha => hNj1021 a _ ⟨_, _, _, _, (Option.some.inj H).symm, Is.cons ha (Is.cons ha (Is.nil ha) rfl) rfl, HS1232.sel [0, 1, 6, 7, 9, 10] rfl⟩)
                            · obtain ⟨l1145, y1146, A1143, c1144, rfl, ha, HS1269⟩ := hR
                              refine wpLF_app ?_ ha
                              have H := (onR_inr _ _ _).symm.trans H
                              refine L_seq ?_
                              refine L_region ?_
                              refine F_val rfl rfl rfl (O_move rfl rfl) ?_
                              obtain ⟨z1272, h1271, H⟩ := of_bind H
                              refine F_qcall (v := .int .i64 z1272) (xs := [.tmp 180]) rfl rfl rfl rfl Try.func53 nm53 rfl rfl ((bits_Reader_At.calls (HS1269.give [] rfl (Lent.box HS1269 (Lent.own HS1269 (Lent.nil) (i := 5) rfl rfl ((HS1269.cells_own (i := 5) rfl).self)) (i := 4) rfl rfl (HS1269.cells_box (i := 4) rfl).self)) h1271).mono (fun e w hc => ?_)) (fun w1273 hw1274 => ?_)
                              · obtain ⟨rfl, h⟩ := hc
                                exact ⟨rfl, h.chg0⟩
                              have HS1275 := HS1269.keep hw1274
                              refine F_val rfl rfl rfl (O_move rfl rfl) ?_
                              obtain ⟨z1278, h1277, H⟩ := of_bind H
                              refine F_qcall (v := .int .i64 z1278) (xs := [.tmp 182]) rfl rfl rfl rfl Try.func40 nm40 rfl rfl ((bits_Writer_Len.calls (HS1275.give [] rfl (Lent.box HS1275 (Lent.own HS1275 (Lent.nil) (i := 3) rfl rfl ((HS1275.cells_own (i := 3) rfl).self)) (i := 2) rfl rfl (HS1275.cells_box (i := 2) rfl).self)) h1277).mono (fun e w hc => ?_)) (fun w1279 hw1280 => ?_)
                              · obtain ⟨rfl, h⟩ := hc
                                exact ⟨rfl, h.chg0⟩
                              have HS1281 := HS1275.keep hw1280
                              refine F_val rfl rfl rfl (O_eq rfl rfl rfl) ?_
                              refine F_val rfl rfl rfl (O_assign rfl rfl) ?_
                              refine F_nil ?_
                              refine L_ret (fun a ha => (post_ret1 ha rfl rfl ?_))
                              obtain rfl := Option.some.inj H
                              exact ⟨rfl, HS1281.sel [] rfl⟩

end Go.Proofs.Ytfglehdaimgaeaa
