import Derived.Test.YtfglehdaimgaeaaGCodeTurnsWalk1
set_option linter.unusedVariables false
set_option linter.unusedSimpArgs false
set_option maxRecDepth 10000
set_option maxHeartbeats 1000000
namespace Go.Proofs.Ytfglehdaimgaeaa
open Go Go.V Go.V.Pu
/-! function 11: valise/valiselaw5.CodeTurns -/
theorem valiselaw5_CodeTurns.calls {S0 : Nat → Prop} {w0 : World} {A_one_0 : Option Addr} {c_one_0 : Nat} {A_two_1 : Option Addr} {c_two_1 : Nat} {A_symbols_2 : Option Addr} {c_symbols_2 : Nat} {l_one_0 : List Int} {l_two_1 : List Int} {l_symbols_2 : List Int} {r : Bool} (HS0 : Hp S0 w0 w0 [.rd A_one_0 (rowC (Eint .i64) l_one_0), .rd A_two_1 (rowC (Eint .i64) l_two_1), .rd A_symbols_2 (rowC (Eint .i64) l_symbols_2)]) (hc_one_0 : l_one_0.length ≤ c_one_0) (hc_two_1 : l_two_1.length ≤ c_two_1) (hc_symbols_2 : l_symbols_2.length ≤ c_symbols_2) (h : valiselaw5_CodeTurns.f l_one_0 l_two_1 l_symbols_2 = some r) :
    Calls Try.prog 11 ([.slice A_one_0 l_one_0.length c_one_0, .slice A_two_1 l_two_1.length c_two_1, .slice A_symbols_2 l_symbols_2.length c_symbols_2] : List Value).toArray w0 (fun e w => e = .returned (.bool r) ∧ Hp S0 w0 w []) := by
  have H : (((valiselaw5_copied.f l_one_0).bind fun z5 => (code_NewEncoder.f z5).bind fun (z15, z16) => (valiselaw5_copied.f l_two_1).bind fun z31 => (code_NewEncoder.f z31).bind fun (z41, z42) => (valiselaw5_copied.f l_one_0).bind fun z58 => (code_NewDecoder.f z58).bind fun (z68, z69) => (valiselaw5_copied.f l_two_1).bind fun z87 => (code_NewDecoder.f z87).bind fun (z97, z98) => if ((z69 ≠ 0) ∨ (z98 ≠ 0)) ∨ (16777216 < (l_symbols_2.length : Int)) then ((code_NewDecoder.f [1, 1]).bind fun (z150, z151) => some (decide (((!z150.isNone) = true) ∧ (z151 = 0)))) else ((bits_NewWriter.f).bind fun (z185, z186) => (bits_NewWriter.f).bind fun (z198, z199) => (if z15.isNone = true then (some true) else (some z41.isNone)).bind fun b207 => (if b207 = true then (some true) else (some z68.isNone)).bind fun b212 => (if b212 = true then (some true) else (some z97.isNone)).bind fun b217 => if ((((b217 = true) ∧ true) ∧ true) ∨ (z16 ≠ 0)) ∨ (z42 ≠ 0) then (some false) else (onO z15 none fun (z264, z265, z266, z267) => onO z41 none fun (z269, z270, z271, z272) => onO z68 none fun (z274, z275, z276, z277, z278) => onO z97 none fun (z280, z281, z282, z283, z284) => (valiselaw5_CodeTurns.l1 FU z185 z198 z186 z199 0 l_symbols_2 z264 z265 z266 z267 z269 z270 z271 z272).bind fun (l395, l398, y399, y400) => (bits_Writer_Bytes.f l395 y399).bind fun z513 => (bits_NewReader.f z513).bind fun z523 => (bits_Writer_Bytes.f l398 y400).bind fun z535 => (bits_NewReader.f z535).bind fun z545 => (if z523.isNone = true then (some true) else (some z545.isNone)).bind fun b554 => if b554 = true then (some false) else (onO z523 none fun (z561, z562) => onO z545 none fun (z564, z565) => (valiselaw5_CodeTurns.l3 FU z561 z564 z562 z565 0 l_symbols_2 z264 z265 z266 z267 z269 z270 z271 z272 z274 z275 z276 z277 z278 z280 z281 z282 z283 z284).bind fun (yj567 : Sum (Bool) (List Int × List Int × Int × Int)) => onR yj567 (fun r => some r) fun (l686, l689, y690, y691) => (bits_Reader_At.f l686 y690).bind fun z812 => (bits_Writer_Len.f l395 y399).bind fun z818 => (if z812 = z818 then ((bits_Reader_At.f l689 y691).bind fun z841 => (bits_Writer_Len.f l398 y400).bind fun z847 => some (decide (z841 = z847))) else (some false)).bind fun b834 => some b834)))) : Option (Bool)) = some r := h
  refine calls_start Try.func11 rfl rfl ?_
  refine L_seq ?_
  refine L_region ?_
  refine F_val rfl rfl rfl (O_assign rfl rfl) ?_
  refine F_nil ?_
  refine L_seq ?_
  refine L_region ?_
  refine F_val rfl rfl rfl (O_move rfl rfl) ?_
  obtain ⟨z5, h4, H⟩ := of_bind H
  refine F_call (xs := [.tmp 25]) rfl rfl rfl rfl Try.func28 nm28 rfl rfl ((valiselaw5_copied.calls (HS0.give [] rfl (Lent.rd HS0 (Lent.nil) (i := 0) rfl ((HS0.cells_rd (i := 0) rfl).self))) hc_one_0 h4).mono (fun e w hc => ?_))
  obtain ⟨A8, c9, rfl, HSo⟩ := hc
  refine ⟨.slice A8 z5.length c9, rfl, ?_⟩
  have HS7 : Hp S0 w0 w [.rd A_one_0 (rowC (Eint .i64) l_one_0), .rd A_two_1 (rowC (Eint .i64) l_two_1), .rd A_symbols_2 (rowC (Eint .i64) l_symbols_2), .own A8 c9 (rowC (Eint .i64) z5) 3 (Eint .i64).sz] := (HS0.back [] HSo rfl).sel [0, 1, 2, 3] rfl
  obtain ⟨⟨z15, z16⟩, h14, H⟩ := of_bind H
  refine F_call (xs := [.tmp 26]) rfl rfl rfl rfl Try.func30 nm30 rfl rfl ((code_NewEncoder.calls (HS7.give [] rfl (Lent.own HS7 (Lent.nil) (i := 3) rfl rfl ((HS7.cells_own (i := 3) rfl).self))) (HS7.own_capE (i := 3) rfl (by decide)) h14).mono (fun e w hc => ?_))
  obtain ⟨g19, A21, c22, A24, c25, rfl, HSo⟩ := hc
  refine ⟨.tuple #[oV z15 g19, .int .i64 z16], rfl, ?_⟩
  have HS18 : Hp S0 w0 w [.rd A_one_0 (rowC (Eint .i64) l_one_0), .rd A_two_1 (rowC (Eint .i64) l_two_1), .rd A_symbols_2 (rowC (Eint .i64) l_symbols_2), .own A8 c9 (rowC (Eint .i64) z5) 3 (Eint .i64).sz, oR z15 (fun x => .box g19 (([.slice A21 x.1.length c22, .slice A24 x.2.1.length c25] : List Value) ++ rowC (Eint .i64) x.2.2.1 ++ rowC (Eint .i64) x.2.2.2) 94), oR z15 (fun x => .own A21 c22 (rowC (Eint .i64) x.1) 3 (Eint .i64).sz), oR z15 (fun x => .own A24 c25 (rowC (Eint .i64) x.2.1) 3 (Eint .i64).sz)] := (HS7.back [] HSo (by cases z15 <;> rfl)).sel [0, 1, 2, 3, 4, 5, 6] rfl
  refine F_val rfl rfl rfl (O_move rfl rfl) ?_
  refine F_val rfl rfl rfl (O_extract (v := oV z15 g19) rfl rfl rfl) ?_
  refine F_val rfl rfl rfl (O_extract (v := .int .i64 z16) rfl rfl rfl) ?_
  refine F_val rfl rfl rfl (O_assign rfl rfl) ?_
  refine F_val rfl rfl rfl (O_assign rfl rfl) ?_
  refine F_nil ?_
  refine L_seq ?_
  refine L_region ?_
  refine F_val rfl rfl rfl (O_move rfl rfl) ?_
  obtain ⟨z31, h30, H⟩ := of_bind H
  refine F_call (xs := [.tmp 31]) rfl rfl rfl rfl Try.func28 nm28 rfl rfl ((valiselaw5_copied.calls (HS18.give [] rfl (Lent.rd HS18 (Lent.nil) (i := 1) rfl ((HS18.cells_rd (i := 1) rfl).self))) hc_two_1 h30).mono (fun e w hc => ?_))
  obtain ⟨A34, c35, rfl, HSo⟩ := hc
  refine ⟨.slice A34 z31.length c35, rfl, ?_⟩
  have HS33 : Hp S0 w0 w [.rd A_one_0 (rowC (Eint .i64) l_one_0), .rd A_two_1 (rowC (Eint .i64) l_two_1), .rd A_symbols_2 (rowC (Eint .i64) l_symbols_2), .own A8 c9 (rowC (Eint .i64) z5) 3 (Eint .i64).sz, oR z15 (fun x => .box g19 (([.slice A21 x.1.length c22, .slice A24 x.2.1.length c25] : List Value) ++ rowC (Eint .i64) x.2.2.1 ++ rowC (Eint .i64) x.2.2.2) 94), oR z15 (fun x => .own A21 c22 (rowC (Eint .i64) x.1) 3 (Eint .i64).sz), oR z15 (fun x => .own A24 c25 (rowC (Eint .i64) x.2.1) 3 (Eint .i64).sz), .own A34 c35 (rowC (Eint .i64) z31) 3 (Eint .i64).sz] := (HS18.back [] HSo rfl).sel [0, 1, 2, 3, 4, 5, 6, 7] rfl
  obtain ⟨⟨z41, z42⟩, h40, H⟩ := of_bind H
  refine F_call (xs := [.tmp 32]) rfl rfl rfl rfl Try.func30 nm30 rfl rfl ((code_NewEncoder.calls (HS33.give [] rfl (Lent.own HS33 (Lent.nil) (i := 7) rfl rfl ((HS33.cells_own (i := 7) rfl).self))) (HS33.own_capE (i := 7) rfl (by decide)) h40).mono (fun e w hc => ?_))
  obtain ⟨g45, A47, c48, A50, c51, rfl, HSo⟩ := hc
  refine ⟨.tuple #[oV z41 g45, .int .i64 z42], rfl, ?_⟩
  have HS44 : Hp S0 w0 w [.rd A_one_0 (rowC (Eint .i64) l_one_0), .rd A_two_1 (rowC (Eint .i64) l_two_1), .rd A_symbols_2 (rowC (Eint .i64) l_symbols_2), .own A8 c9 (rowC (Eint .i64) z5) 3 (Eint .i64).sz, oR z15 (fun x => .box g19 (([.slice A21 x.1.length c22, .slice A24 x.2.1.length c25] : List Value) ++ rowC (Eint .i64) x.2.2.1 ++ rowC (Eint .i64) x.2.2.2) 94), oR z15 (fun x => .own A21 c22 (rowC (Eint .i64) x.1) 3 (Eint .i64).sz), oR z15 (fun x => .own A24 c25 (rowC (Eint .i64) x.2.1) 3 (Eint .i64).sz), .own A34 c35 (rowC (Eint .i64) z31) 3 (Eint .i64).sz, oR z41 (fun x => .box g45 (([.slice A47 x.1.length c48, .slice A50 x.2.1.length c51] : List Value) ++ rowC (Eint .i64) x.2.2.1 ++ rowC (Eint .i64) x.2.2.2) 94), oR z41 (fun x => .own A47 c48 (rowC (Eint .i64) x.1) 3 (Eint .i64).sz), oR z41 (fun x => .own A50 c51 (rowC (Eint .i64) x.2.1) 3 (Eint .i64).sz)] := (HS33.back [] HSo (by cases z41 <;> rfl)).sel [0, 1, 2, 3, 4, 5, 6, 7, 8, 9, 10] rfl
  refine F_val rfl rfl rfl (O_move rfl rfl) ?_
  refine F_val rfl rfl rfl (O_extract (v := oV z41 g45) rfl rfl rfl) ?_
  refine F_val rfl rfl rfl (O_extract (v := .int .i64 z42) rfl rfl rfl) ?_
  refine F_val rfl rfl rfl (O_assign rfl rfl) ?_
  refine F_val rfl rfl rfl (O_assign rfl rfl) ?_
  refine F_nil ?_
  refine L_seq ?_
  have HS53 : Hp S0 w0 w [.rd A_one_0 (rowC (Eint .i64) l_one_0), .rd A_two_1 (rowC (Eint .i64) l_two_1), .rd A_symbols_2 (rowC (Eint .i64) l_symbols_2), oR z15 (fun x => .box g19 (([.slice A21 x.1.length c22, .slice A24 x.2.1.length c25] : List Value) ++ rowC (Eint .i64) x.2.2.1 ++ rowC (Eint .i64) x.2.2.2) 94), oR z15 (fun x => .own A21 c22 (rowC (Eint .i64) x.1) 3 (Eint .i64).sz), oR z15 (fun x => .own A24 c25 (rowC (Eint .i64) x.2.1) 3 (Eint .i64).sz), oR z41 (fun x => .box g45 (([.slice A47 x.1.length c48, .slice A50 x.2.1.length c51] : List Value) ++ rowC (Eint .i64) x.2.2.1 ++ rowC (Eint .i64) x.2.2.2) 94), oR z41 (fun x => .own A47 c48 (rowC (Eint .i64) x.1) 3 (Eint .i64).sz), oR z41 (fun x => .own A50 c51 (rowC (Eint .i64) x.2.1) 3 (Eint .i64).sz)] := HS44.sel [0, 1, 2, 4, 5, 6, 8, 9, 10] rfl
  refine L_region ?_
  refine F_val rfl rfl rfl (O_move rfl rfl) ?_
  obtain ⟨z58, h57, H⟩ := of_bind H
  refine F_call (xs := [.tmp 37]) rfl rfl rfl rfl Try.func28 nm28 rfl rfl ((valiselaw5_copied.calls (HS53.give [] rfl (Lent.rd HS53 (Lent.nil) (i := 0) rfl ((HS53.cells_rd (i := 0) rfl).self))) hc_one_0 h57).mono (fun e w hc => ?_))
  obtain ⟨A61, c62, rfl, HSo⟩ := hc
  refine ⟨.slice A61 z58.length c62, rfl, ?_⟩
  have HS60 : Hp S0 w0 w [.rd A_one_0 (rowC (Eint .i64) l_one_0), .rd A_two_1 (rowC (Eint .i64) l_two_1), .rd A_symbols_2 (rowC (Eint .i64) l_symbols_2), oR z15 (fun x => .box g19 (([.slice A21 x.1.length c22, .slice A24 x.2.1.length c25] : List Value) ++ rowC (Eint .i64) x.2.2.1 ++ rowC (Eint .i64) x.2.2.2) 94), oR z15 (fun x => .own A21 c22 (rowC (Eint .i64) x.1) 3 (Eint .i64).sz), oR z15 (fun x => .own A24 c25 (rowC (Eint .i64) x.2.1) 3 (Eint .i64).sz), oR z41 (fun x => .box g45 (([.slice A47 x.1.length c48, .slice A50 x.2.1.length c51] : List Value) ++ rowC (Eint .i64) x.2.2.1 ++ rowC (Eint .i64) x.2.2.2) 94), oR z41 (fun x => .own A47 c48 (rowC (Eint .i64) x.1) 3 (Eint .i64).sz), oR z41 (fun x => .own A50 c51 (rowC (Eint .i64) x.2.1) 3 (Eint .i64).sz), .own A61 c62 (rowC (Eint .i64) z58) 3 (Eint .i64).sz] := (HS53.back [] HSo rfl).sel [0, 1, 2, 3, 4, 5, 6, 7, 8, 9] rfl
  obtain ⟨⟨z68, z69⟩, h67, H⟩ := of_bind H
  refine F_call (xs := [.tmp 38]) rfl rfl rfl rfl Try.func45 nm45 rfl rfl ((code_NewDecoder.calls (HS60.give [] rfl (Lent.own HS60 (Lent.nil) (i := 9) rfl rfl ((HS60.cells_own (i := 9) rfl).self))) (HS60.own_capE (i := 9) rfl (by decide)) h67).mono (fun e w hc => ?_))
  obtain ⟨g72, A74, c75, A77, c78, A80, c81, rfl, HSo⟩ := hc
  refine ⟨.tuple #[oV z68 g72, .int .i64 z69], rfl, ?_⟩
  have HS71 : Hp S0 w0 w [.rd A_one_0 (rowC (Eint .i64) l_one_0), .rd A_two_1 (rowC (Eint .i64) l_two_1), .rd A_symbols_2 (rowC (Eint .i64) l_symbols_2), oR z15 (fun x => .box g19 (([.slice A21 x.1.length c22, .slice A24 x.2.1.length c25] : List Value) ++ rowC (Eint .i64) x.2.2.1 ++ rowC (Eint .i64) x.2.2.2) 94), oR z15 (fun x => .own A21 c22 (rowC (Eint .i64) x.1) 3 (Eint .i64).sz), oR z15 (fun x => .own A24 c25 (rowC (Eint .i64) x.2.1) 3 (Eint .i64).sz), oR z41 (fun x => .box g45 (([.slice A47 x.1.length c48, .slice A50 x.2.1.length c51] : List Value) ++ rowC (Eint .i64) x.2.2.1 ++ rowC (Eint .i64) x.2.2.2) 94), oR z41 (fun x => .own A47 c48 (rowC (Eint .i64) x.1) 3 (Eint .i64).sz), oR z41 (fun x => .own A50 c51 (rowC (Eint .i64) x.2.1) 3 (Eint .i64).sz), .own A61 c62 (rowC (Eint .i64) z58) 3 (Eint .i64).sz, oR z68 (fun x => .box g72 (([.slice A74 x.1.length c75, .slice A77 x.2.1.length c78] : List Value) ++ rowC (Eint .i64) x.2.2.1 ++ rowC (Eint .i64) x.2.2.2.1 ++ ([.slice A80 x.2.2.2.2.length c81] : List Value)) 108), oR z68 (fun x => .own A74 c75 (rowC (Eint .i64) x.1) 3 (Eint .i64).sz), oR z68 (fun x => .own A77 c78 (rowC (Eint .i64) x.2.1) 3 (Eint .i64).sz), oR z68 (fun x => .own A80 c81 (rowC (Eint .i64) x.2.2.2.2) 3 (Eint .i64).sz)] := (HS60.back [] HSo (by cases z68 <;> rfl)).sel [0, 1, 2, 3, 4, 5, 6, 7, 8, 9, 10, 11, 12, 13] rfl
  refine F_val rfl rfl rfl (O_move rfl rfl) ?_
  refine F_val rfl rfl rfl (O_extract (v := oV z68 g72) rfl rfl rfl) ?_
  refine F_val rfl rfl rfl (O_extract (v := .int .i64 z69) rfl rfl rfl) ?_
  refine F_val rfl rfl rfl (O_assign rfl rfl) ?_
  refine F_val rfl rfl rfl (O_assign rfl rfl) ?_
  refine F_nil ?_
  refine L_seq ?_
  refine L_region ?_
  refine F_val rfl rfl rfl (O_move rfl rfl) ?_
  obtain ⟨z87, h86, H⟩ := of_bind H
  refine F_call (xs := [.tmp 43]) rfl rfl rfl rfl Try.func28 nm28 rfl rfl ((valiselaw5_copied.calls (HS71.give [] rfl (Lent.rd HS71 (Lent.nil) (i := 1) rfl ((HS71.cells_rd (i := 1) rfl).self))) hc_two_1 h86).mono (fun e w hc => ?_))
  obtain ⟨A90, c91, rfl, HSo⟩ := hc
  refine ⟨.slice A90 z87.length c91, rfl, ?_⟩
  have HS89 : Hp S0 w0 w [.rd A_one_0 (rowC (Eint .i64) l_one_0), .rd A_two_1 (rowC (Eint .i64) l_two_1), .rd A_symbols_2 (rowC (Eint .i64) l_symbols_2), oR z15 (fun x => .box g19 (([.slice A21 x.1.length c22, .slice A24 x.2.1.length c25] : List Value) ++ rowC (Eint .i64) x.2.2.1 ++ rowC (Eint .i64) x.2.2.2) 94), oR z15 (fun x => .own A21 c22 (rowC (Eint .i64) x.1) 3 (Eint .i64).sz), oR z15 (fun x => .own A24 c25 (rowC (Eint .i64) x.2.1) 3 (Eint .i64).sz), oR z41 (fun x => .box g45 (([.slice A47 x.1.length c48, .slice A50 x.2.1.length c51] : List Value) ++ rowC (Eint .i64) x.2.2.1 ++ rowC (Eint .i64) x.2.2.2) 94), oR z41 (fun x => .own A47 c48 (rowC (Eint .i64) x.1) 3 (Eint .i64).sz), oR z41 (fun x => .own A50 c51 (rowC (Eint .i64) x.2.1) 3 (Eint .i64).sz), .own A61 c62 (rowC (Eint .i64) z58) 3 (Eint .i64).sz, oR z68 (fun x => .box g72 (([.slice A74 x.1.length c75, .slice A77 x.2.1.length c78] : List Value) ++ rowC (Eint .i64) x.2.2.1 ++ rowC (Eint .i64) x.2.2.2.1 ++ ([.slice A80 x.2.2.2.2.length c81] : List Value)) 108), oR z68 (fun x => .own A74 c75 (rowC (Eint .i64) x.1) 3 (Eint .i64).sz), oR z68 (fun x => .own A77 c78 (rowC (Eint .i64) x.2.1) 3 (Eint .i64).sz), oR z68 (fun x => .own A80 c81 (rowC (Eint .i64) x.2.2.2.2) 3 (Eint .i64).sz), .own A90 c91 (rowC (Eint .i64) z87) 3 (Eint .i64).sz] := (HS71.back [] HSo rfl).sel [0, 1, 2, 3, 4, 5, 6, 7, 8, 9, 10, 11, 12, 13, 14] rfl
  obtain ⟨⟨z97, z98⟩, h96, H⟩ := of_bind H
  refine F_call (xs := [.tmp 44]) rfl rfl rfl rfl Try.func45 nm45 rfl rfl ((code_NewDecoder.calls (HS89.give [] rfl (Lent.own HS89 (Lent.nil) (i := 14) rfl rfl ((HS89.cells_own (i := 14) rfl).self))) (HS89.own_capE (i := 14) rfl (by decide)) h96).mono (fun e w hc => ?_))
  obtain ⟨g101, A103, c104, A106, c107, A109, c110, rfl, HSo⟩ := hc
  refine ⟨.tuple #[oV z97 g101, .int .i64 z98], rfl, ?_⟩
  have HS100 : Hp S0 w0 w [.rd A_one_0 (rowC (Eint .i64) l_one_0), .rd A_two_1 (rowC (Eint .i64) l_two_1), .rd A_symbols_2 (rowC (Eint .i64) l_symbols_2), oR z15 (fun x => .box g19 (([.slice A21 x.1.length c22, .slice A24 x.2.1.length c25] : List Value) ++ rowC (Eint .i64) x.2.2.1 ++ rowC (Eint .i64) x.2.2.2) 94), oR z15 (fun x => .own A21 c22 (rowC (Eint .i64) x.1) 3 (Eint .i64).sz), oR z15 (fun x => .own A24 c25 (rowC (Eint .i64) x.2.1) 3 (Eint .i64).sz), oR z41 (fun x => .box g45 (([.slice A47 x.1.length c48, .slice A50 x.2.1.length c51] : List Value) ++ rowC (Eint .i64) x.2.2.1 ++ rowC (Eint .i64) x.2.2.2) 94), oR z41 (fun x => .own A47 c48 (rowC (Eint .i64) x.1) 3 (Eint .i64).sz), oR z41 (fun x => .own A50 c51 (rowC (Eint .i64) x.2.1) 3 (Eint .i64).sz), .own A61 c62 (rowC (Eint .i64) z58) 3 (Eint .i64).sz, oR z68 (fun x => .box g72 (([.slice A74 x.1.length c75, .slice A77 x.2.1.length c78] : List Value) ++ rowC (Eint .i64) x.2.2.1 ++ rowC (Eint .i64) x.2.2.2.1 ++ ([.slice A80 x.2.2.2.2.length c81] : List Value)) 108), oR z68 (fun x => .own A74 c75 (rowC (Eint .i64) x.1) 3 (Eint .i64).sz), oR z68 (fun x => .own A77 c78 (rowC (Eint .i64) x.2.1) 3 (Eint .i64).sz), oR z68 (fun x => .own A80 c81 (rowC (Eint .i64) x.2.2.2.2) 3 (Eint .i64).sz), .own A90 c91 (rowC (Eint .i64) z87) 3 (Eint .i64).sz, oR z97 (fun x => .box g101 (([.slice A103 x.1.length c104, .slice A106 x.2.1.length c107] : List Value) ++ rowC (Eint .i64) x.2.2.1 ++ rowC (Eint .i64) x.2.2.2.1 ++ ([.slice A109 x.2.2.2.2.length c110] : List Value)) 108), oR z97 (fun x => .own A103 c104 (rowC (Eint .i64) x.1) 3 (Eint .i64).sz), oR z97 (fun x => .own A106 c107 (rowC (Eint .i64) x.2.1) 3 (Eint .i64).sz), oR z97 (fun x => .own A109 c110 (rowC (Eint .i64) x.2.2.2.2) 3 (Eint .i64).sz)] := (HS89.back [] HSo (by cases z97 <;> rfl)).sel [0, 1, 2, 3, 4, 5, 6, 7, 8, 9, 10, 11, 12, 13, 14, 15, 16, 17, 18] rfl
  refine F_val rfl rfl rfl (O_move rfl rfl) ?_
  refine F_val rfl rfl rfl (O_extract (v := oV z97 g101) rfl rfl rfl) ?_
  refine F_val rfl rfl rfl (O_extract (v := .int .i64 z98) rfl rfl rfl) ?_
  refine F_val rfl rfl rfl (O_assign rfl rfl) ?_
  refine F_val rfl rfl rfl (O_assign rfl rfl) ?_
  refine F_nil ?_
  refine L_seq ?_
  refine L_seq ?_
  have HS112 : Hp S0 w0 w [.rd A_one_0 (rowC (Eint .i64) l_one_0), .rd A_two_1 (rowC (Eint .i64) l_two_1), .rd A_symbols_2 (rowC (Eint .i64) l_symbols_2), oR z15 (fun x => .box g19 (([.slice A21 x.1.length c22, .slice A24 x.2.1.length c25] : List Value) ++ rowC (Eint .i64) x.2.2.1 ++ rowC (Eint .i64) x.2.2.2) 94), oR z15 (fun x => .own A21 c22 (rowC (Eint .i64) x.1) 3 (Eint .i64).sz), oR z15 (fun x => .own A24 c25 (rowC (Eint .i64) x.2.1) 3 (Eint .i64).sz), oR z41 (fun x => .box g45 (([.slice A47 x.1.length c48, .slice A50 x.2.1.length c51] : List Value) ++ rowC (Eint .i64) x.2.2.1 ++ rowC (Eint .i64) x.2.2.2) 94), oR z41 (fun x => .own A47 c48 (rowC (Eint .i64) x.1) 3 (Eint .i64).sz), oR z41 (fun x => .own A50 c51 (rowC (Eint .i64) x.2.1) 3 (Eint .i64).sz), oR z68 (fun x => .box g72 (([.slice A74 x.1.length c75, .slice A77 x.2.1.length c78] : List Value) ++ rowC (Eint .i64) x.2.2.1 ++ rowC (Eint .i64) x.2.2.2.1 ++ ([.slice A80 x.2.2.2.2.length c81] : List Value)) 108), oR z68 (fun x => .own A74 c75 (rowC (Eint .i64) x.1) 3 (Eint .i64).sz), oR z68 (fun x => .own A77 c78 (rowC (Eint .i64) x.2.1) 3 (Eint .i64).sz), oR z68 (fun x => .own A80 c81 (rowC (Eint .i64) x.2.2.2.2) 3 (Eint .i64).sz), oR z97 (fun x => .box g101 (([.slice A103 x.1.length c104, .slice A106 x.2.1.length c107] : List Value) ++ rowC (Eint .i64) x.2.2.1 ++ rowC (Eint .i64) x.2.2.2.1 ++ ([.slice A109 x.2.2.2.2.length c110] : List Value)) 108), oR z97 (fun x => .own A103 c104 (rowC (Eint .i64) x.1) 3 (Eint .i64).sz), oR z97 (fun x => .own A106 c107 (rowC (Eint .i64) x.2.1) 3 (Eint .i64).sz), oR z97 (fun x => .own A109 c110 (rowC (Eint .i64) x.2.2.2.2) 3 (Eint .i64).sz)] := HS100.sel [0, 1, 2, 3, 4, 5, 6, 7, 8, 10, 11, 12, 13, 15, 16, 17, 18] rfl
  refine L_region ?_
  refine F_val rfl rfl rfl (O_move rfl rfl) ?_
  refine F_qcall (v := .int .i64 z69) (xs := [.tmp 48]) rfl rfl rfl rfl Try.func23 nm23 rfl rfl ((valiselaw5_num.calls (HS112.give [] rfl (Lent.nil)) (rfl : valiselaw5_num.f z69 = some z69)).mono (fun e w hc => ?_)) (fun w116 hw117 => ?_)
  · obtain ⟨rfl, h⟩ := hc
    exact ⟨rfl, h.chg0⟩
  have HS118 := HS112.keep hw117
  refine F_val rfl rfl rfl (O_ne rfl rfl rfl) ?_
  refine F_val rfl rfl rfl (O_move rfl rfl) ?_
  refine F_grpQ 4 [(55, .bool (decide ((z69 ≠ 0) ∨ (z98 ≠ 0)))), (2, .slice A_symbols_2 l_symbols_2.length c_symbols_2), (7, oV z15 g19), (8, .int .i64 z16), (9, oV z41 g45), (10, .int .i64 z42), (11, oV z68 g72), (13, oV z97 g101)] ?_ (fun w125 hw126 => ?_)
  · rcases Decidable.em (z69 ≠ 0) with c128 | c128
    · refine F_know (i := 51) rfl (dec_t c128) ?_
      refine F_gskip rfl rfl rfl rfl rfl rfl rfl ?_
      refine F_gskip rfl rfl rfl rfl rfl rfl rfl ?_
      refine F_gskip rfl rfl rfl rfl rfl rfl rfl ?_
      refine F_val rfl rfl rfl (O_pickT rfl rfl rfl) ?_
      refine F_know (i := 55) rfl (dec_or_t (q := z98 ≠ 0) c128) ?_
      exact F_grpQE (Chg.refl NoB _) (fun a ha => Is.cons ha (Is.cons ha (Is.cons ha (Is.cons ha (Is.cons ha (Is.cons ha (Is.cons ha (Is.cons ha (Is.nil ha) rfl) rfl) rfl) rfl) rfl) rfl) rfl) rfl)
    · refine F_know (i := 51) rfl (dec_f c128) ?_
      refine F_gval rfl rfl rfl rfl rfl rfl (O_move rfl rfl) ?_
      refine F_gqcall (v := .int .i64 z98) (xs := [.tmp 52]) rfl rfl rfl rfl rfl rfl rfl Try.func23 nm23 rfl rfl ((valiselaw5_num.calls (HS118.give [] rfl (Lent.nil)) (rfl : valiselaw5_num.f z98 = some z98)).mono (fun e w hc => ?_)) (fun w132 hw133 => ?_)
      · obtain ⟨rfl, h⟩ := hc
        exact ⟨rfl, h.chg0⟩
      have HS134 := HS118.keep hw133
      refine F_gval rfl rfl rfl rfl rfl rfl (O_ne rfl rfl rfl) ?_
      refine F_val rfl rfl rfl (O_pickF rfl rfl rfl) ?_
      refine F_know (i := 55) rfl (dec_or_f (q := z98 ≠ 0) c128) ?_
      exact F_grpQE ((Chg.refl NoB _).trans hw133) (fun a ha => Is.cons ha (Is.cons ha (Is.cons ha (Is.cons ha (Is.cons ha (Is.cons ha (Is.cons ha (Is.cons ha (Is.nil ha) rfl) rfl) rfl) rfl) rfl) rfl) rfl) rfl)
  · have HS127 := HS118.keep hw126
    refine F_val rfl rfl rfl (O_move rfl rfl) ?_
    refine F_grp 4 [(60, .bool (decide (((z69 ≠ 0) ∨ (z98 ≠ 0)) ∨ (16777216 < (l_symbols_2.length : Int))))), (2, .slice A_symbols_2 l_symbols_2.length c_symbols_2), (7, oV z15 g19), (8, .int .i64 z16), (9, oV z41 g45), (10, .int .i64 z42), (11, oV z68 g72), (13, oV z97 g101)] ?_ ?_
    · rcases Decidable.em ((z69 ≠ 0) ∨ (z98 ≠ 0)) with c138 | c138
      · refine F_know (i := 56) rfl (dec_t c138) ?_
        refine F_gskip rfl rfl rfl rfl rfl rfl rfl ?_
        refine F_gskip rfl rfl rfl rfl rfl rfl rfl ?_
        refine F_gskip rfl rfl rfl rfl rfl rfl rfl ?_
        refine F_val rfl rfl rfl (O_pickT rfl rfl rfl) ?_
        refine F_know (i := 60) rfl (dec_or_t (q := 16777216 < (l_symbols_2.length : Int)) c138) ?_
        exact F_grpE (fun a ha => Is.cons ha (Is.cons ha (Is.cons ha (Is.cons ha (Is.cons ha (Is.cons ha (Is.cons ha (Is.cons ha (Is.nil ha) rfl) rfl) rfl) rfl) rfl) rfl) rfl) rfl)
      · refine F_know (i := 56) rfl (dec_f c138) ?_
        refine F_gval rfl rfl rfl rfl rfl rfl (O_move rfl rfl) ?_
        refine F_gval rfl rfl rfl rfl rfl rfl (O_len rfl rfl Try.underlying22) ?_
        refine F_gval rfl rfl rfl rfl rfl rfl (O_gt rfl rfl rfl) ?_
        refine F_val rfl rfl rfl (O_pickF rfl rfl rfl) ?_
        refine F_know (i := 60) rfl (dec_or_f (q := 16777216 < (l_symbols_2.length : Int)) c138) ?_
        exact F_grpE (fun a ha => Is.cons ha (Is.cons ha (Is.cons ha (Is.cons ha (Is.cons ha (Is.cons ha (Is.cons ha (Is.cons ha (Is.nil ha) rfl) rfl) rfl) rfl) rfl) rfl) rfl) rfl)
    · skip
      refine F_nil ?_
      refine L_condP rfl (fun c139 => ?_) (fun c139 => ?_)
      · have H := of_pos H c139
        refine L_seq ?_
        have HS140 : Hp S0 w0 w125 [.rd A_one_0 (rowC (Eint .i64) l_one_0), .rd A_two_1 (rowC (Eint .i64) l_two_1), .rd A_symbols_2 (rowC (Eint .i64) l_symbols_2)] := HS127.sel [0, 1, 2] rfl
        refine L_region ?_
        refine F_litE (E := (Eint .i64)) (e := 3) [(0, .int .i64 1), (1, .int .i64 1)] [1, 1] rfl rfl rfl rfl rfl rfl rfl (by decide) (fun w => by kernel_rfl) HS140 (fun w141 A143 c144 HS142 => ?_)
        have HS142 : Hp S0 w0 w141 [.rd A_one_0 (rowC (Eint .i64) l_one_0), .rd A_two_1 (rowC (Eint .i64) l_two_1), .rd A_symbols_2 (rowC (Eint .i64) l_symbols_2), .own A143 c144 (rowC (Eint .i64) [1, 1]) 3 (Eint .i64).sz] := HS142
        obtain ⟨⟨z150, z151⟩, h149, H⟩ := of_bind H
        refine F_call (xs := [.tmp 62]) rfl rfl rfl rfl Try.func45 nm45 rfl rfl ((code_NewDecoder.calls (HS142.give [] rfl (Lent.own HS142 (Lent.nil) (i := 3) rfl rfl ((HS142.cells_own (i := 3) rfl).self))) (HS142.own_capE (i := 3) rfl (by decide)) h149).mono (fun e w hc => ?_))
        obtain ⟨g154, A156, c157, A159, c160, A162, c163, rfl, HSo⟩ := hc
        refine ⟨.tuple #[oV z150 g154, .int .i64 z151], rfl, ?_⟩
        have HS153 : Hp S0 w0 w [.rd A_one_0 (rowC (Eint .i64) l_one_0), .rd A_two_1 (rowC (Eint .i64) l_two_1), .rd A_symbols_2 (rowC (Eint .i64) l_symbols_2), .own A143 c144 (rowC (Eint .i64) [1, 1]) 3 (Eint .i64).sz, oR z150 (fun x => .box g154 (([.slice A156 x.1.length c157, .slice A159 x.2.1.length c160] : List Value) ++ rowC (Eint .i64) x.2.2.1 ++ rowC (Eint .i64) x.2.2.2.1 ++ ([.slice A162 x.2.2.2.2.length c163] : List Value)) 108), oR z150 (fun x => .own A156 c157 (rowC (Eint .i64) x.1) 3 (Eint .i64).sz), oR z150 (fun x => .own A159 c160 (rowC (Eint .i64) x.2.1) 3 (Eint .i64).sz), oR z150 (fun x => .own A162 c163 (rowC (Eint .i64) x.2.2.2.2) 3 (Eint .i64).sz)] := (HS142.back [] HSo (by cases z150 <;> rfl)).sel [0, 1, 2, 3, 4, 5, 6, 7] rfl
        refine F_val rfl rfl rfl (O_move rfl rfl) ?_
        refine F_val rfl rfl rfl (O_extract (v := oV z150 g154) rfl rfl rfl) ?_
        refine F_val rfl rfl rfl (O_extract (v := .int .i64 z151) rfl rfl rfl) ?_
        refine F_val rfl rfl rfl (O_assign rfl rfl) ?_
        refine F_val rfl rfl rfl (O_assign rfl rfl) ?_
        refine F_nil ?_
        refine L_seq ?_
        refine L_region ?_
        refine F_val rfl rfl rfl (O_move rfl rfl) ?_
        refine F_val rfl rfl rfl (O_pneO rfl rfl rfl Try.underlying62) ?_
        refine F_val rfl rfl rfl (O_move rfl rfl) ?_
        refine F_grpQ 4 [(72, .bool (decide (((!z150.isNone) = true) ∧ (z151 = 0))))] ?_ (fun w171 hw172 => ?_)
        · rcases Decidable.em ((!z150.isNone) = true) with c174 | c174
          · refine F_know (i := 68) rfl (congrArg Value.bool c174) ?_
            refine F_gval rfl rfl rfl rfl rfl rfl (O_move rfl rfl) ?_
            refine F_gqcall (v := .int .i64 z151) (xs := [.tmp 69]) rfl rfl rfl rfl rfl rfl rfl Try.func23 nm23 rfl rfl ((valiselaw5_num.calls (HS153.give [] rfl (Lent.nil)) (rfl : valiselaw5_num.f z151 = some z151)).mono (fun e w hc => ?_)) (fun w178 hw179 => ?_)
            · obtain ⟨rfl, h⟩ := hc
              exact ⟨rfl, h.chg0⟩
            have HS180 := HS153.keep hw179
            refine F_gval rfl rfl rfl rfl rfl rfl (O_eq rfl rfl rfl) ?_
            refine F_val rfl rfl rfl (O_pickT rfl rfl rfl) ?_
            refine F_know (i := 72) rfl (dec_and_t (q := z151 = 0) c174) ?_
            exact F_grpQE ((Chg.refl NoB _).trans hw179) (fun a ha => Is.cons ha (Is.nil ha) rfl)
          · refine F_know (i := 68) rfl (congrArg Value.bool (Bool.eq_false_iff.mpr c174)) ?_
            refine F_gskip rfl rfl rfl rfl rfl rfl rfl ?_
            refine F_gskip rfl rfl rfl rfl rfl rfl rfl ?_
            refine F_gskip rfl rfl rfl rfl rfl rfl rfl ?_
            refine F_val rfl rfl rfl (O_pickF rfl rfl rfl) ?_
            refine F_know (i := 72) rfl (dec_and_f (q := z151 = 0) c174) ?_
            exact F_grpQE (Chg.refl NoB _) (fun a ha => Is.cons ha (Is.nil ha) rfl)
        · have HS173 := HS153.keep hw172
          refine F_val rfl rfl rfl (O_assign rfl rfl) ?_
          refine F_nil ?_
          refine L_ret (fun a ha => (post_ret1 ha rfl rfl ?_))
          obtain rfl := Option.some.inj H
          exact ⟨rfl, HS173.sel [] rfl⟩
      · have H := of_neg H c139
        refine L_skip ?_
        refine L_seq ?_
        refine L_region ?_
        obtain ⟨⟨z185, z186⟩, h184, H⟩ := of_bind H
        refine F_call (xs := []) rfl rfl rfl rfl Try.func32 nm32 rfl rfl ((bits_NewWriter.calls (HS127.give [] rfl (Lent.nil)) h184).mono (fun e w hc => ?_))
        obtain ⟨g189, A191, c192, rfl, HSo⟩ := hc
        refine ⟨.pointer (some ⟨g189, 0, none⟩), rfl, ?_⟩
        have HS188 : Hp S0 w0 w [.rd A_one_0 (rowC (Eint .i64) l_one_0), .rd A_two_1 (rowC (Eint .i64) l_two_1), .rd A_symbols_2 (rowC (Eint .i64) l_symbols_2), oR z15 (fun x => .box g19 (([.slice A21 x.1.length c22, .slice A24 x.2.1.length c25] : List Value) ++ rowC (Eint .i64) x.2.2.1 ++ rowC (Eint .i64) x.2.2.2) 94), oR z15 (fun x => .own A21 c22 (rowC (Eint .i64) x.1) 3 (Eint .i64).sz), oR z15 (fun x => .own A24 c25 (rowC (Eint .i64) x.2.1) 3 (Eint .i64).sz), oR z41 (fun x => .box g45 (([.slice A47 x.1.length c48, .slice A50 x.2.1.length c51] : List Value) ++ rowC (Eint .i64) x.2.2.1 ++ rowC (Eint .i64) x.2.2.2) 94), oR z41 (fun x => .own A47 c48 (rowC (Eint .i64) x.1) 3 (Eint .i64).sz), oR z41 (fun x => .own A50 c51 (rowC (Eint .i64) x.2.1) 3 (Eint .i64).sz), oR z68 (fun x => .box g72 (([.slice A74 x.1.length c75, .slice A77 x.2.1.length c78] : List Value) ++ rowC (Eint .i64) x.2.2.1 ++ rowC (Eint .i64) x.2.2.2.1 ++ ([.slice A80 x.2.2.2.2.length c81] : List Value)) 108), oR z68 (fun x => .own A74 c75 (rowC (Eint .i64) x.1) 3 (Eint .i64).sz), oR z68 (fun x => .own A77 c78 (rowC (Eint .i64) x.2.1) 3 (Eint .i64).sz), oR z68 (fun x => .own A80 c81 (rowC (Eint .i64) x.2.2.2.2) 3 (Eint .i64).sz), oR z97 (fun x => .box g101 (([.slice A103 x.1.length c104, .slice A106 x.2.1.length c107] : List Value) ++ rowC (Eint .i64) x.2.2.1 ++ rowC (Eint .i64) x.2.2.2.1 ++ ([.slice A109 x.2.2.2.2.length c110] : List Value)) 108), oR z97 (fun x => .own A103 c104 (rowC (Eint .i64) x.1) 3 (Eint .i64).sz), oR z97 (fun x => .own A106 c107 (rowC (Eint .i64) x.2.1) 3 (Eint .i64).sz), oR z97 (fun x => .own A109 c110 (rowC (Eint .i64) x.2.2.2.2) 3 (Eint .i64).sz), .box g189 [.slice A191 z185.length c192, .int .i64 z186] 98, .own A191 c192 (rowC (Eint .u8) z185) 5 (Eint .u8).sz] := (HS127.back [] HSo rfl).sel [0, 1, 2, 3, 4, 5, 6, 7, 8, 9, 10, 11, 12, 13, 14, 15, 16, 17, 18] rfl
        refine F_val rfl rfl rfl (O_assign rfl rfl) ?_
        refine F_nil ?_
        refine L_seq ?_
        refine L_region ?_
        obtain ⟨⟨z198, z199⟩, h197, H⟩ := of_bind H
        refine F_call (xs := []) rfl rfl rfl rfl Try.func32 nm32 rfl rfl ((bits_NewWriter.calls (HS188.give [] rfl (Lent.nil)) h197).mono (fun e w hc => ?_))
        obtain ⟨g202, A204, c205, rfl, HSo⟩ := hc
        refine ⟨.pointer (some ⟨g202, 0, none⟩), rfl, ?_⟩
        have HS201 : Hp S0 w0 w [.rd A_one_0 (rowC (Eint .i64) l_one_0), .rd A_two_1 (rowC (Eint .i64) l_two_1), .rd A_symbols_2 (rowC (Eint .i64) l_symbols_2), oR z15 (fun x => .box g19 (([.slice A21 x.1.length c22, .slice A24 x.2.1.length c25] : List Value) ++ rowC (Eint .i64) x.2.2.1 ++ rowC (Eint .i64) x.2.2.2) 94), oR z15 (fun x => .own A21 c22 (rowC (Eint .i64) x.1) 3 (Eint .i64).sz), oR z15 (fun x => .own A24 c25 (rowC (Eint .i64) x.2.1) 3 (Eint .i64).sz), oR z41 (fun x => .box g45 (([.slice A47 x.1.length c48, .slice A50 x.2.1.length c51] : List Value) ++ rowC (Eint .i64) x.2.2.1 ++ rowC (Eint .i64) x.2.2.2) 94), oR z41 (fun x => .own A47 c48 (rowC (Eint .i64) x.1) 3 (Eint .i64).sz), oR z41 (fun x => .own A50 c51 (rowC (Eint .i64) x.2.1) 3 (Eint .i64).sz), oR z68 (fun x => .box g72 (([.slice A74 x.1.length c75, .slice A77 x.2.1.length c78] : List Value) ++ rowC (Eint .i64) x.2.2.1 ++ rowC (Eint .i64) x.2.2.2.1 ++ ([.slice A80 x.2.2.2.2.length c81] : List Value)) 108), oR z68 (fun x => .own A74 c75 (rowC (Eint .i64) x.1) 3 (Eint .i64).sz), oR z68 (fun x => .own A77 c78 (rowC (Eint .i64) x.2.1) 3 (Eint .i64).sz), oR z68 (fun x => .own A80 c81 (rowC (Eint .i64) x.2.2.2.2) 3 (Eint .i64).sz), oR z97 (fun x => .box g101 (([.slice A103 x.1.length c104, .slice A106 x.2.1.length c107] : List Value) ++ rowC (Eint .i64) x.2.2.1 ++ rowC (Eint .i64) x.2.2.2.1 ++ ([.slice A109 x.2.2.2.2.length c110] : List Value)) 108), oR z97 (fun x => .own A103 c104 (rowC (Eint .i64) x.1) 3 (Eint .i64).sz), oR z97 (fun x => .own A106 c107 (rowC (Eint .i64) x.2.1) 3 (Eint .i64).sz), oR z97 (fun x => .own A109 c110 (rowC (Eint .i64) x.2.2.2.2) 3 (Eint .i64).sz), .box g189 [.slice A191 z185.length c192, .int .i64 z186] 98, .own A191 c192 (rowC (Eint .u8) z185) 5 (Eint .u8).sz, .box g202 [.slice A204 z198.length c205, .int .i64 z199] 98, .own A204 c205 (rowC (Eint .u8) z198) 5 (Eint .u8).sz] := (HS188.back [] HSo rfl).sel [0, 1, 2, 3, 4, 5, 6, 7, 8, 9, 10, 11, 12, 13, 14, 15, 16, 17, 18, 19, 20] rfl
        refine F_val rfl rfl rfl (O_assign rfl rfl) ?_
        refine F_nil ?_
        refine L_seq ?_
        refine L_seq ?_
        refine L_region ?_
        refine F_val rfl rfl rfl (O_move rfl rfl) ?_
        refine F_val rfl rfl rfl (O_peqO rfl rfl rfl Try.underlying41) ?_
        refine F_val rfl rfl rfl (O_move rfl rfl) ?_
        obtain ⟨b207, Hb207, H⟩ := of_bind H
        refine F_grp 3 [(80, .bool b207), (2, .slice A_symbols_2 l_symbols_2.length c_symbols_2), (7, oV z15 g19), (8, .int .i64 z16), (9, oV z41 g45), (10, .int .i64 z42), (11, oV z68 g72), (13, oV z97 g101), (17, .pointer (some ⟨g189, 0, none⟩)), (18, .pointer (some ⟨g202, 0, none⟩))] ?_ ?_
        · rcases Decidable.em (z15.isNone = true) with c211 | c211
          · refine F_know (i := 77) rfl (congrArg Value.bool c211) ?_
            have H := of_pos Hb207 c211
            refine F_gskip rfl rfl rfl rfl rfl rfl rfl ?_
            refine F_gskip rfl rfl rfl rfl rfl rfl rfl ?_
            refine F_val rfl rfl rfl (O_pickT rfl rfl rfl) ?_
            refine F_know (i := 80) rfl (congrArg Value.bool (Option.some.inj H)) ?_
            exact F_grpE (fun a ha => Is.cons ha (Is.cons ha (Is.cons ha (Is.cons ha (Is.cons ha (Is.cons ha (Is.cons ha (Is.cons ha (Is.cons ha (Is.cons ha (Is.nil ha) rfl) rfl) rfl) rfl) rfl) rfl) rfl) rfl) rfl) rfl)
          · refine F_know (i := 77) rfl (congrArg Value.bool (Bool.eq_false_iff.mpr c211)) ?_
            have H := of_neg Hb207 c211
            refine F_gval rfl rfl rfl rfl rfl rfl (O_move rfl rfl) ?_
            refine F_gval rfl rfl rfl rfl rfl rfl (O_peqO rfl rfl rfl Try.underlying41) ?_
            refine F_val rfl rfl rfl (O_pickF rfl rfl rfl) ?_
            refine F_know (i := 80) rfl (congrArg Value.bool (Option.some.inj H)) ?_
            exact F_grpE (fun a ha => Is.cons ha (Is.cons ha (Is.cons ha (Is.cons ha (Is.cons ha (Is.cons ha (Is.cons ha (Is.cons ha (Is.cons ha (Is.cons ha (Is.nil ha) rfl) rfl) rfl) rfl) rfl) rfl) rfl) rfl) rfl) rfl)
        · skip
          refine F_val rfl rfl rfl (O_move rfl rfl) ?_
          obtain ⟨b212, Hb212, H⟩ := of_bind H
          refine F_grp 3 [(84, .bool b212), (2, .slice A_symbols_2 l_symbols_2.length c_symbols_2), (7, oV z15 g19), (8, .int .i64 z16), (9, oV z41 g45), (10, .int .i64 z42), (11, oV z68 g72), (13, oV z97 g101), (17, .pointer (some ⟨g189, 0, none⟩)), (18, .pointer (some ⟨g202, 0, none⟩))] ?_ ?_
          · rcases Decidable.em (b207 = true) with c216 | c216
            · refine F_know (i := 81) rfl (congrArg Value.bool c216) ?_
              have H := of_pos Hb212 c216
              refine F_gskip rfl rfl rfl rfl rfl rfl rfl ?_
              refine F_gskip rfl rfl rfl rfl rfl rfl rfl ?_
              refine F_val rfl rfl rfl (O_pickT rfl rfl rfl) ?_
              refine F_know (i := 84) rfl (congrArg Value.bool (Option.some.inj H)) ?_
              exact F_grpE (fun a ha => Is.cons ha (Is.cons ha (Is.cons ha (Is.cons ha (Is.cons ha (Is.cons ha (Is.cons ha (Is.cons ha (Is.cons ha (Is.cons ha (Is.nil ha) rfl) rfl) rfl) rfl) rfl) rfl) rfl) rfl) rfl) rfl)
            · refine F_know (i := 81) rfl (congrArg Value.bool (Bool.eq_false_iff.mpr c216)) ?_
              have H := of_neg Hb212 c216
              refine F_gval rfl rfl rfl rfl rfl rfl (O_move rfl rfl) ?_
              refine F_gval rfl rfl rfl rfl rfl rfl (O_peqO rfl rfl rfl Try.underlying62) ?_
              refine F_val rfl rfl rfl (O_pickF rfl rfl rfl) ?_
              refine F_know (i := 84) rfl (congrArg Value.bool (Option.some.inj H)) ?_
              exact F_grpE (fun a ha => Is.cons ha (Is.cons ha (Is.cons ha (Is.cons ha (Is.cons ha (Is.cons ha (Is.cons ha (Is.cons ha (Is.cons ha (Is.cons ha (Is.nil ha) rfl) rfl) rfl) rfl) rfl) rfl) rfl) rfl) rfl) rfl)
          · skip
            refine F_val rfl rfl rfl (O_move rfl rfl) ?_
            obtain ⟨b217, Hb217, H⟩ := of_bind H
            refine F_grp 3 [(88, .bool b217), (2, .slice A_symbols_2 l_symbols_2.length c_symbols_2), (7, oV z15 g19), (8, .int .i64 z16), (9, oV z41 g45), (10, .int .i64 z42), (11, oV z68 g72), (13, oV z97 g101), (17, .pointer (some ⟨g189, 0, none⟩)), (18, .pointer (some ⟨g202, 0, none⟩))] ?_ ?_
            · rcases Decidable.em (b212 = true) with c221 | c221
              · refine F_know (i := 85) rfl (congrArg Value.bool c221) ?_
                have H := of_pos Hb217 c221
                refine F_gskip rfl rfl rfl rfl rfl rfl rfl ?_
                refine F_gskip rfl rfl rfl rfl rfl rfl rfl ?_
                refine F_val rfl rfl rfl (O_pickT rfl rfl rfl) ?_
                refine F_know (i := 88) rfl (congrArg Value.bool (Option.some.inj H)) ?_
                exact F_grpE (fun a ha => Is.cons ha (Is.cons ha (Is.cons ha (Is.cons ha (Is.cons ha (Is.cons ha (Is.cons ha (Is.cons ha (Is.cons ha (Is.cons ha (Is.nil ha) rfl) rfl) rfl) rfl) rfl) rfl) rfl) rfl) rfl) rfl)
              · refine F_know (i := 85) rfl (congrArg Value.bool (Bool.eq_false_iff.mpr c221)) ?_
                have H := of_neg Hb217 c221
                refine F_gval rfl rfl rfl rfl rfl rfl (O_move rfl rfl) ?_
                refine F_gval rfl rfl rfl rfl rfl rfl (O_peqO rfl rfl rfl Try.underlying62) ?_
                refine F_val rfl rfl rfl (O_pickF rfl rfl rfl) ?_
                refine F_know (i := 88) rfl (congrArg Value.bool (Option.some.inj H)) ?_
                exact F_grpE (fun a ha => Is.cons ha (Is.cons ha (Is.cons ha (Is.cons ha (Is.cons ha (Is.cons ha (Is.cons ha (Is.cons ha (Is.cons ha (Is.cons ha (Is.nil ha) rfl) rfl) rfl) rfl) rfl) rfl) rfl) rfl) rfl) rfl)
            · skip
              refine F_val rfl rfl rfl (O_move rfl rfl) ?_
              refine F_grp 3 [(92, .bool (decide ((b217 = true) ∧ true))), (2, .slice A_symbols_2 l_symbols_2.length c_symbols_2), (7, oV z15 g19), (8, .int .i64 z16), (9, oV z41 g45), (10, .int .i64 z42), (11, oV z68 g72), (13, oV z97 g101), (17, .pointer (some ⟨g189, 0, none⟩)), (18, .pointer (some ⟨g202, 0, none⟩))] ?_ ?_
              · rcases Decidable.em (b217 = true) with c225 | c225
                · refine F_know (i := 89) rfl (congrArg Value.bool c225) ?_
                  refine F_gskip rfl rfl rfl rfl rfl rfl rfl ?_
                  refine F_gskip rfl rfl rfl rfl rfl rfl rfl ?_
                  refine F_val rfl rfl rfl (O_pickT rfl rfl rfl) ?_
                  refine F_know (i := 92) rfl (dec_and_t (q := true) c225) ?_
                  exact F_grpE (fun a ha => Is.cons ha (Is.cons ha (Is.cons ha (Is.cons ha (Is.cons ha (Is.cons ha (Is.cons ha (Is.cons ha (Is.cons ha (Is.cons ha (Is.nil ha) rfl) rfl) rfl) rfl) rfl) rfl) rfl) rfl) rfl) rfl)
                · refine F_know (i := 89) rfl (congrArg Value.bool (Bool.eq_false_iff.mpr c225)) ?_
                  refine F_gval rfl rfl rfl rfl rfl rfl (O_move rfl rfl) ?_
                  refine F_gval rfl rfl rfl rfl rfl rfl (O_peq rfl rfl rfl Try.underlying47) ?_
                  refine F_val rfl rfl rfl (O_pickF rfl rfl rfl) ?_
                  refine F_know (i := 92) rfl (dec_and_f (q := true) c225) ?_
                  exact F_grpE (fun a ha => Is.cons ha (Is.cons ha (Is.cons ha (Is.cons ha (Is.cons ha (Is.cons ha (Is.cons ha (Is.cons ha (Is.cons ha (Is.cons ha (Is.nil ha) rfl) rfl) rfl) rfl) rfl) rfl) rfl) rfl) rfl) rfl)
              · skip
                refine F_val rfl rfl rfl (O_move rfl rfl) ?_
                refine F_grp 3 [(96, .bool (decide (((b217 = true) ∧ true) ∧ true))), (2, .slice A_symbols_2 l_symbols_2.length c_symbols_2), (7, oV z15 g19), (8, .int .i64 z16), (9, oV z41 g45), (10, .int .i64 z42), (11, oV z68 g72), (13, oV z97 g101), (17, .pointer (some ⟨g189, 0, none⟩)), (18, .pointer (some ⟨g202, 0, none⟩))] ?_ ?_
                · rcases Decidable.em ((b217 = true) ∧ true) with c229 | c229
                  · refine F_know (i := 93) rfl (dec_t c229) ?_
                    refine F_gskip rfl rfl rfl rfl rfl rfl rfl ?_
                    refine F_gskip rfl rfl rfl rfl rfl rfl rfl ?_
                    refine F_val rfl rfl rfl (O_pickT rfl rfl rfl) ?_
                    refine F_know (i := 96) rfl (dec_and_t (q := true) c229) ?_
                    exact F_grpE (fun a ha => Is.cons ha (Is.cons ha (Is.cons ha (Is.cons ha (Is.cons ha (Is.cons ha (Is.cons ha (Is.cons ha (Is.cons ha (Is.cons ha (Is.nil ha) rfl) rfl) rfl) rfl) rfl) rfl) rfl) rfl) rfl) rfl)
                  · refine F_know (i := 93) rfl (dec_f c229) ?_
                    refine F_gval rfl rfl rfl rfl rfl rfl (O_move rfl rfl) ?_
                    refine F_gval rfl rfl rfl rfl rfl rfl (O_peq rfl rfl rfl Try.underlying47) ?_
                    refine F_val rfl rfl rfl (O_pickF rfl rfl rfl) ?_
                    refine F_know (i := 96) rfl (dec_and_f (q := true) c229) ?_
                    exact F_grpE (fun a ha => Is.cons ha (Is.cons ha (Is.cons ha (Is.cons ha (Is.cons ha (Is.cons ha (Is.cons ha (Is.cons ha (Is.cons ha (Is.cons ha (Is.nil ha) rfl) rfl) rfl) rfl) rfl) rfl) rfl) rfl) rfl) rfl)
                · skip
                  refine F_val rfl rfl rfl (O_move rfl rfl) ?_
                  refine F_grpQ 4 [(101, .bool (decide ((((b217 = true) ∧ true) ∧ true) ∨ (z16 ≠ 0)))), (2, .slice A_symbols_2 l_symbols_2.length c_symbols_2), (7, oV z15 g19), (9, oV z41 g45), (10, .int .i64 z42), (11, oV z68 g72), (13, oV z97 g101), (17, .pointer (some ⟨g189, 0, none⟩)), (18, .pointer (some ⟨g202, 0, none⟩))] ?_ (fun w236 hw237 => ?_)
                  · rcases Decidable.em (((b217 = true) ∧ true) ∧ true) with c239 | c239
                    · refine F_know (i := 97) rfl (dec_t c239) ?_
                      refine F_gskip rfl rfl rfl rfl rfl rfl rfl ?_
                      refine F_gskip rfl rfl rfl rfl rfl rfl rfl ?_
                      refine F_gskip rfl rfl rfl rfl rfl rfl rfl ?_
                      refine F_val rfl rfl rfl (O_pickT rfl rfl rfl) ?_
                      refine F_know (i := 101) rfl (dec_or_t (q := z16 ≠ 0) c239) ?_
                      exact F_grpQE (Chg.refl NoB _) (fun a ha => Is.cons ha (Is.cons ha (Is.cons ha (Is.cons ha (Is.cons ha (Is.cons ha (Is.cons ha (Is.cons ha (Is.cons ha (Is.nil ha) rfl) rfl) rfl) rfl) rfl) rfl) rfl) rfl) rfl)
                    · refine F_know (i := 97) rfl (dec_f c239) ?_
                      refine F_gval rfl rfl rfl rfl rfl rfl (O_move rfl rfl) ?_
                      refine F_gqcall (v := .int .i64 z16) (xs := [.tmp 98]) rfl rfl rfl rfl rfl rfl rfl Try.func23 nm23 rfl rfl ((valiselaw5_num.calls (HS201.give [] rfl (Lent.nil)) (rfl : valiselaw5_num.f z16 = some z16)).mono (fun e w hc => ?_)) (fun w243 hw244 => ?_)
                      · obtain ⟨rfl, h⟩ := hc
                        exact ⟨rfl, h.chg0⟩
                      have HS245 := HS201.keep hw244
                      refine F_gval rfl rfl rfl rfl rfl rfl (O_ne rfl rfl rfl) ?_
                      refine F_val rfl rfl rfl (O_pickF rfl rfl rfl) ?_
                      refine F_know (i := 101) rfl (dec_or_f (q := z16 ≠ 0) c239) ?_
                      exact F_grpQE ((Chg.refl NoB _).trans hw244) (fun a ha => Is.cons ha (Is.cons ha (Is.cons ha (Is.cons ha (Is.cons ha (Is.cons ha (Is.cons ha (Is.cons ha (Is.cons ha (Is.nil ha) rfl) rfl) rfl) rfl) rfl) rfl) rfl) rfl) rfl)
                  · have HS238 := HS201.keep hw237
                    refine F_val rfl rfl rfl (O_move rfl rfl) ?_
                    refine F_grpQ 4 [(106, .bool (decide (((((b217 = true) ∧ true) ∧ true) ∨ (z16 ≠ 0)) ∨ (z42 ≠ 0)))), (2, .slice A_symbols_2 l_symbols_2.length c_symbols_2), (7, oV z15 g19), (9, oV z41 g45), (11, oV z68 g72), (13, oV z97 g101), (17, .pointer (some ⟨g189, 0, none⟩)), (18, .pointer (some ⟨g202, 0, none⟩))] ?_ (fun w252 hw253 => ?_)
                    · rcases Decidable.em ((((b217 = true) ∧ true) ∧ true) ∨ (z16 ≠ 0)) with c255 | c255
                      · refine F_know (i := 102) rfl (dec_t c255) ?_
                        refine F_gskip rfl rfl rfl rfl rfl rfl rfl ?_
                        refine F_gskip rfl rfl rfl rfl rfl rfl rfl ?_
                        refine F_gskip rfl rfl rfl rfl rfl rfl rfl ?_
                        refine F_val rfl rfl rfl (O_pickT rfl rfl rfl) ?_
                        refine F_know (i := 106) rfl (dec_or_t (q := z42 ≠ 0) c255) ?_
                        exact F_grpQE (Chg.refl NoB _) (fun a ha => Is.cons ha (Is.cons ha (Is.cons ha (Is.cons ha (Is.cons ha (Is.cons ha (Is.cons ha (Is.cons ha (Is.nil ha) rfl) rfl) rfl) rfl) rfl) rfl) rfl) rfl)
                      · refine F_know (i := 102) rfl (dec_f c255) ?_
                        refine F_gval rfl rfl rfl rfl rfl rfl (O_move rfl rfl) ?_
                        refine F_gqcall (v := .int .i64 z42) (xs := [.tmp 103]) rfl rfl rfl rfl rfl rfl rfl Try.func23 nm23 rfl rfl ((valiselaw5_num.calls (HS238.give [] rfl (Lent.nil)) (rfl : valiselaw5_num.f z42 = some z42)).mono (fun e w hc => ?_)) (fun w259 hw260 => ?_)
                        · obtain ⟨rfl, h⟩ := hc
                          exact ⟨rfl, h.chg0⟩
                        have HS261 := HS238.keep hw260
                        refine F_gval rfl rfl rfl rfl rfl rfl (O_ne rfl rfl rfl) ?_
                        refine F_val rfl rfl rfl (O_pickF rfl rfl rfl) ?_
                        refine F_know (i := 106) rfl (dec_or_f (q := z42 ≠ 0) c255) ?_
                        exact F_grpQE ((Chg.refl NoB _).trans hw260) (fun a ha => Is.cons ha (Is.cons ha (Is.cons ha (Is.cons ha (Is.cons ha (Is.cons ha (Is.cons ha (Is.cons ha (Is.nil ha) rfl) rfl) rfl) rfl) rfl) rfl) rfl) rfl)
                    · have HS254 := HS238.keep hw253
                      refine F_nil ?_
                      refine L_condP rfl (fun c262 => ?_) (fun c262 => ?_)
                      · have H := of_pos H c262
                        refine L_seq ?_
                        have HS263 : Hp S0 w0 w252 [.rd A_one_0 (rowC (Eint .i64) l_one_0), .rd A_two_1 (rowC (Eint .i64) l_two_1), .rd A_symbols_2 (rowC (Eint .i64) l_symbols_2)] := HS254.sel [0, 1, 2] rfl
                        refine L_region ?_
                        refine F_val rfl rfl rfl (O_assign rfl rfl) ?_
                        refine F_nil ?_
                        refine L_ret (fun a ha => (post_ret1 ha rfl rfl ?_))
                        obtain rfl := Option.some.inj H
                        exact ⟨rfl, HS263.sel [] rfl⟩
                      · have H := of_neg H c262
                        refine L_skip ?_
                        refine L_seq ?_
                        refine L_seq ?_
                        refine L_region ?_
                        refine F_val rfl rfl rfl (O_assign rfl rfl) ?_
                        refine F_nil ?_
                        rcases z15 with _ | ⟨z264, z265, z266, z267⟩
                        · cases (show (none : Option _) = some _ from (onO_none _ _).symm.trans H)
                        have H := (onO_some _ _ _).symm.trans H
                        have HS268 : Hp S0 w0 w252 [.rd A_one_0 (rowC (Eint .i64) l_one_0), .rd A_two_1 (rowC (Eint .i64) l_two_1), .rd A_symbols_2 (rowC (Eint .i64) l_symbols_2), .box g19 (([.slice A21 z264.length c22, .slice A24 z265.length c25] : List Value) ++ rowC (Eint .i64) z266 ++ rowC (Eint .i64) z267) 94, .own A21 c22 (rowC (Eint .i64) z264) 3 (Eint .i64).sz, .own A24 c25 (rowC (Eint .i64) z265) 3 (Eint .i64).sz, oR z41 (fun x => .box g45 (([.slice A47 x.1.length c48, .slice A50 x.2.1.length c51] : List Value) ++ rowC (Eint .i64) x.2.2.1 ++ rowC (Eint .i64) x.2.2.2) 94), oR z41 (fun x => .own A47 c48 (rowC (Eint .i64) x.1) 3 (Eint .i64).sz), oR z41 (fun x => .own A50 c51 (rowC (Eint .i64) x.2.1) 3 (Eint .i64).sz), oR z68 (fun x => .box g72 (([.slice A74 x.1.length c75, .slice A77 x.2.1.length c78] : List Value) ++ rowC (Eint .i64) x.2.2.1 ++ rowC (Eint .i64) x.2.2.2.1 ++ ([.slice A80 x.2.2.2.2.length c81] : List Value)) 108), oR z68 (fun x => .own A74 c75 (rowC (Eint .i64) x.1) 3 (Eint .i64).sz), oR z68 (fun x => .own A77 c78 (rowC (Eint .i64) x.2.1) 3 (Eint .i64).sz), oR z68 (fun x => .own A80 c81 (rowC (Eint .i64) x.2.2.2.2) 3 (Eint .i64).sz), oR z97 (fun x => .box g101 (([.slice A103 x.1.length c104, .slice A106 x.2.1.length c107] : List Value) ++ rowC (Eint .i64) x.2.2.1 ++ rowC (Eint .i64) x.2.2.2.1 ++ ([.slice A109 x.2.2.2.2.length c110] : List Value)) 108), oR z97 (fun x => .own A103 c104 (rowC (Eint .i64) x.1) 3 (Eint .i64).sz), oR z97 (fun x => .own A106 c107 (rowC (Eint .i64) x.2.1) 3 (Eint .i64).sz), oR z97 (fun x => .own A109 c110 (rowC (Eint .i64) x.2.2.2.2) 3 (Eint .i64).sz), .box g189 [.slice A191 z185.length c192, .int .i64 z186] 98, .own A191 c192 (rowC (Eint .u8) z185) 5 (Eint .u8).sz, .box g202 [.slice A204 z198.length c205, .int .i64 z199] 98, .own A204 c205 (rowC (Eint .u8) z198) 5 (Eint .u8).sz] := HS254
                        rcases z41 with _ | ⟨z269, z270, z271, z272⟩
                        · cases (show (none : Option _) = some _ from (onO_none _ _).symm.trans H)
                        have H := (onO_some _ _ _).symm.trans H
                        have HS273 : Hp S0 w0 w252 [.rd A_one_0 (rowC (Eint .i64) l_one_0), .rd A_two_1 (rowC (Eint .i64) l_two_1), .rd A_symbols_2 (rowC (Eint .i64) l_symbols_2), .box g19 (([.slice A21 z264.length c22, .slice A24 z265.length c25] : List Value) ++ rowC (Eint .i64) z266 ++ rowC (Eint .i64) z267) 94, .own A21 c22 (rowC (Eint .i64) z264) 3 (Eint .i64).sz, .own A24 c25 (rowC (Eint .i64) z265) 3 (Eint .i64).sz, .box g45 (([.slice A47 z269.length c48, .slice A50 z270.length c51] : List Value) ++ rowC (Eint .i64) z271 ++ rowC (Eint .i64) z272) 94, .own A47 c48 (rowC (Eint .i64) z269) 3 (Eint .i64).sz, .own A50 c51 (rowC (Eint .i64) z270) 3 (Eint .i64).sz, oR z68 (fun x => .box g72 (([.slice A74 x.1.length c75, .slice A77 x.2.1.length c78] : List Value) ++ rowC (Eint .i64) x.2.2.1 ++ rowC (Eint .i64) x.2.2.2.1 ++ ([.slice A80 x.2.2.2.2.length c81] : List Value)) 108), oR z68 (fun x => .own A74 c75 (rowC (Eint .i64) x.1) 3 (Eint .i64).sz), oR z68 (fun x => .own A77 c78 (rowC (Eint .i64) x.2.1) 3 (Eint .i64).sz), oR z68 (fun x => .own A80 c81 (rowC (Eint .i64) x.2.2.2.2) 3 (Eint .i64).sz), oR z97 (fun x => .box g101 (([.slice A103 x.1.length c104, .slice A106 x.2.1.length c107] : List Value) ++ rowC (Eint .i64) x.2.2.1 ++ rowC (Eint .i64) x.2.2.2.1 ++ ([.slice A109 x.2.2.2.2.length c110] : List Value)) 108), oR z97 (fun x => .own A103 c104 (rowC (Eint .i64) x.1) 3 (Eint .i64).sz), oR z97 (fun x => .own A106 c107 (rowC (Eint .i64) x.2.1) 3 (Eint .i64).sz), oR z97 (fun x => .own A109 c110 (rowC (Eint .i64) x.2.2.2.2) 3 (Eint .i64).sz), .box g189 [.slice A191 z185.length c192, .int .i64 z186] 98, .own A191 c192 (rowC (Eint .u8) z185) 5 (Eint .u8).sz, .box g202 [.slice A204 z198.length c205, .int .i64 z199] 98, .own A204 c205 (rowC (Eint .u8) z198) 5 (Eint .u8).sz] := HS268
                        rcases z68 with _ | ⟨z274, z275, z276, z277, z278⟩
                        · cases (show (none : Option _) = some _ from (onO_none _ _).symm.trans H)
                        have H := (onO_some _ _ _).symm.trans H
                        have HS279 : Hp S0 w0 w252 [.rd A_one_0 (rowC (Eint .i64) l_one_0), .rd A_two_1 (rowC (Eint .i64) l_two_1), .rd A_symbols_2 (rowC (Eint .i64) l_symbols_2), .box g19 (([.slice A21 z264.length c22, .slice A24 z265.length c25] : List Value) ++ rowC (Eint .i64) z266 ++ rowC (Eint .i64) z267) 94, .own A21 c22 (rowC (Eint .i64) z264) 3 (Eint .i64).sz, .own A24 c25 (rowC (Eint .i64) z265) 3 (Eint .i64).sz, .box g45 (([.slice A47 z269.length c48, .slice A50 z270.length c51] : List Value) ++ rowC (Eint .i64) z271 ++ rowC (Eint .i64) z272) 94, .own A47 c48 (rowC (Eint .i64) z269) 3 (Eint .i64).sz, .own A50 c51 (rowC (Eint .i64) z270) 3 (Eint .i64).sz, .box g72 (([.slice A74 z274.length c75, .slice A77 z275.length c78] : List Value) ++ rowC (Eint .i64) z276 ++ rowC (Eint .i64) z277 ++ ([.slice A80 z278.length c81] : List Value)) 108, .own A74 c75 (rowC (Eint .i64) z274) 3 (Eint .i64).sz, .own A77 c78 (rowC (Eint .i64) z275) 3 (Eint .i64).sz, .own A80 c81 (rowC (Eint .i64) z278) 3 (Eint .i64).sz, oR z97 (fun x => .box g101 (([.slice A103 x.1.length c104, .slice A106 x.2.1.length c107] : List Value) ++ rowC (Eint .i64) x.2.2.1 ++ rowC (Eint .i64) x.2.2.2.1 ++ ([.slice A109 x.2.2.2.2.length c110] : List Value)) 108), oR z97 (fun x => .own A103 c104 (rowC (Eint .i64) x.1) 3 (Eint .i64).sz), oR z97 (fun x => .own A106 c107 (rowC (Eint .i64) x.2.1) 3 (Eint .i64).sz), oR z97 (fun x => .own A109 c110 (rowC (Eint .i64) x.2.2.2.2) 3 (Eint .i64).sz), .box g189 [.slice A191 z185.length c192, .int .i64 z186] 98, .own A191 c192 (rowC (Eint .u8) z185) 5 (Eint .u8).sz, .box g202 [.slice A204 z198.length c205, .int .i64 z199] 98, .own A204 c205 (rowC (Eint .u8) z198) 5 (Eint .u8).sz] := HS273
                        rcases z97 with _ | ⟨z280, z281, z282, z283, z284⟩
                        · cases (show (none : Option _) = some _ from (onO_none _ _).symm.trans H)
                        have H := (onO_some _ _ _).symm.trans H
                        have HS285 : Hp S0 w0 w252 [.rd A_one_0 (rowC (Eint .i64) l_one_0), .rd A_two_1 (rowC (Eint .i64) l_two_1), .rd A_symbols_2 (rowC (Eint .i64) l_symbols_2), .box g19 (([.slice A21 z264.length c22, .slice A24 z265.length c25] : List Value) ++ rowC (Eint .i64) z266 ++ rowC (Eint .i64) z267) 94, .own A21 c22 (rowC (Eint .i64) z264) 3 (Eint .i64).sz, .own A24 c25 (rowC (Eint .i64) z265) 3 (Eint .i64).sz, .box g45 (([.slice A47 z269.length c48, .slice A50 z270.length c51] : List Value) ++ rowC (Eint .i64) z271 ++ rowC (Eint .i64) z272) 94, .own A47 c48 (rowC (Eint .i64) z269) 3 (Eint .i64).sz, .own A50 c51 (rowC (Eint .i64) z270) 3 (Eint .i64).sz, .box g72 (([.slice A74 z274.length c75, .slice A77 z275.length c78] : List Value) ++ rowC (Eint .i64) z276 ++ rowC (Eint .i64) z277 ++ ([.slice A80 z278.length c81] : List Value)) 108, .own A74 c75 (rowC (Eint .i64) z274) 3 (Eint .i64).sz, .own A77 c78 (rowC (Eint .i64) z275) 3 (Eint .i64).sz, .own A80 c81 (rowC (Eint .i64) z278) 3 (Eint .i64).sz, .box g101 (([.slice A103 z280.length c104, .slice A106 z281.length c107] : List Value) ++ rowC (Eint .i64) z282 ++ rowC (Eint .i64) z283 ++ ([.slice A109 z284.length c110] : List Value)) 108, .own A103 c104 (rowC (Eint .i64) z280) 3 (Eint .i64).sz, .own A106 c107 (rowC (Eint .i64) z281) 3 (Eint .i64).sz, .own A109 c110 (rowC (Eint .i64) z284) 3 (Eint .i64).sz, .box g189 [.slice A191 z185.length c192, .int .i64 z186] 98, .own A191 c192 (rowC (Eint .u8) z185) 5 (Eint .u8).sz, .box g202 [.slice A204 z198.length c205, .int .i64 z199] 98, .own A204 c205 (rowC (Eint .u8) z198) 5 (Eint .u8).sz] := HS279
                        obtain ⟨yj286, Hyj286, H⟩ := of_bind H
                        refine L_join (fun a w => ∃ (l395 : List Int), ∃ (l398 : List Int), ∃ (y399 : Int), ∃ (y400 : Int), ∃ (A393 : Option Addr), ∃ (c394 : Nat), ∃ (A396 : Option Addr), ∃ (c397 : Nat), yj286 = (l395, l398, y399, y400) ∧ Is Try.f11.ntmps a [(2, .slice A_symbols_2 l_symbols_2.length c_symbols_2), (7, .pointer (some ⟨g19, 0, none⟩)), (9, .pointer (some ⟨g45, 0, none⟩)), (11, .pointer (some ⟨g72, 0, none⟩)), (13, .pointer (some ⟨g101, 0, none⟩)), (17, .pointer (some ⟨g189, 0, none⟩)), (18, .pointer (some ⟨g202, 0, none⟩))] ∧ Hp S0 w0 w [.rd A_one_0 (rowC (Eint .i64) l_one_0), .rd A_two_1 (rowC (Eint .i64) l_two_1), .rd A_symbols_2 (rowC (Eint .i64) l_symbols_2), .box g19 (([.slice A21 z264.length c22, .slice A24 z265.length c25] : List Value) ++ rowC (Eint .i64) z266 ++ rowC (Eint .i64) z267) 94, .own A21 c22 (rowC (Eint .i64) z264) 3 (Eint .i64).sz, .own A24 c25 (rowC (Eint .i64) z265) 3 (Eint .i64).sz, .box g45 (([.slice A47 z269.length c48, .slice A50 z270.length c51] : List Value) ++ rowC (Eint .i64) z271 ++ rowC (Eint .i64) z272) 94, .own A47 c48 (rowC (Eint .i64) z269) 3 (Eint .i64).sz, .own A50 c51 (rowC (Eint .i64) z270) 3 (Eint .i64).sz, .box g72 (([.slice A74 z274.length c75, .slice A77 z275.length c78] : List Value) ++ rowC (Eint .i64) z276 ++ rowC (Eint .i64) z277 ++ ([.slice A80 z278.length c81] : List Value)) 108, .own A74 c75 (rowC (Eint .i64) z274) 3 (Eint .i64).sz, .own A77 c78 (rowC (Eint .i64) z275) 3 (Eint .i64).sz, .own A80 c81 (rowC (Eint .i64) z278) 3 (Eint .i64).sz, .box g101 (([.slice A103 z280.length c104, .slice A106 z281.length c107] : List Value) ++ rowC (Eint .i64) z282 ++ rowC (Eint .i64) z283 ++ ([.slice A109 z284.length c110] : List Value)) 108, .own A103 c104 (rowC (Eint .i64) z280) 3 (Eint .i64).sz, .own A106 c107 (rowC (Eint .i64) z281) 3 (Eint .i64).sz, .own A109 c110 (rowC (Eint .i64) z284) 3 (Eint .i64).sz, .box g189 [.slice A393 l395.length c394, .int .i64 y399] 98, .own A393 c394 (rowC (Eint .u8) l395) 5 (Eint .u8).sz, .box g202 [.slice A396 l398.length c397, .int .i64 y400] 98, .own A396 c397 (rowC (Eint .u8) l398) 5 (Eint .u8).sz]) (fun Qj286 hNj286 hOj286 => ?_) (fun a w hR => ?_)
                        · skip
                          have H := Hyj286
                          refine L_blk (fun Qb401 hNb401 hXb401 hOb401 => ?_)
                          refine L_lp (fun k a w => ∃ (l470 : List Int), ∃ (l473 : List Int), ∃ (y474 : Int), ∃ (y475 : Int), ∃ (i_476 : Int), ∃ (A468 : Option Addr), ∃ (c469 : Nat), ∃ (A471 : Option Addr), ∃ (c472 : Nat), Is Try.f11.ntmps a [(2, .slice A_symbols_2 l_symbols_2.length c_symbols_2), (7, .pointer (some ⟨g19, 0, none⟩)), (9, .pointer (some ⟨g45, 0, none⟩)), (11, .pointer (some ⟨g72, 0, none⟩)), (13, .pointer (some ⟨g101, 0, none⟩)), (17, .pointer (some ⟨g189, 0, none⟩)), (18, .pointer (some ⟨g202, 0, none⟩)), (19, .int .i64 i_476)] ∧ Hp S0 w0 w [.rd A_one_0 (rowC (Eint .i64) l_one_0), .rd A_two_1 (rowC (Eint .i64) l_two_1), .rd A_symbols_2 (rowC (Eint .i64) l_symbols_2), .box g19 (([.slice A21 z264.length c22, .slice A24 z265.length c25] : List Value) ++ rowC (Eint .i64) z266 ++ rowC (Eint .i64) z267) 94, .own A21 c22 (rowC (Eint .i64) z264) 3 (Eint .i64).sz, .own A24 c25 (rowC (Eint .i64) z265) 3 (Eint .i64).sz, .box g45 (([.slice A47 z269.length c48, .slice A50 z270.length c51] : List Value) ++ rowC (Eint .i64) z271 ++ rowC (Eint .i64) z272) 94, .own A47 c48 (rowC (Eint .i64) z269) 3 (Eint .i64).sz, .own A50 c51 (rowC (Eint .i64) z270) 3 (Eint .i64).sz, .box g72 (([.slice A74 z274.length c75, .slice A77 z275.length c78] : List Value) ++ rowC (Eint .i64) z276 ++ rowC (Eint .i64) z277 ++ ([.slice A80 z278.length c81] : List Value)) 108, .own A74 c75 (rowC (Eint .i64) z274) 3 (Eint .i64).sz, .own A77 c78 (rowC (Eint .i64) z275) 3 (Eint .i64).sz, .own A80 c81 (rowC (Eint .i64) z278) 3 (Eint .i64).sz, .box g101 (([.slice A103 z280.length c104, .slice A106 z281.length c107] : List Value) ++ rowC (Eint .i64) z282 ++ rowC (Eint .i64) z283 ++ ([.slice A109 z284.length c110] : List Value)) 108, .own A103 c104 (rowC (Eint .i64) z280) 3 (Eint .i64).sz, .own A106 c107 (rowC (Eint .i64) z281) 3 (Eint .i64).sz, .own A109 c110 (rowC (Eint .i64) z284) 3 (Eint .i64).sz, .box g189 [.slice A468 l470.length c469, .int .i64 y474] 98, .own A468 c469 (rowC (Eint .u8) l470) 5 (Eint .u8).sz, .box g202 [.slice A471 l473.length c472, .int .i64 y475] 98, .own A471 c472 (rowC (Eint .u8) l473) 5 (Eint .u8).sz] ∧ valiselaw5_CodeTurns.l1 k l470 l473 y474 y475 i_476 l_symbols_2 z264 z265 z266 z267 z269 z270 z271 z272 = some yj286) FU (fun a ha => ⟨_, _, _, _, _, _, _, _, _, Is.cons ha (Is.cons ha (Is.cons ha (Is.cons ha (Is.cons ha (Is.cons ha (Is.cons ha (Is.cons ha (Is.nil ha) rfl) rfl) rfl) rfl) rfl) rfl) rfl) rfl, HS285.sel [0, 1, 2, 3, 4, 5, 6, 7, 8, 9, 10, 11, 12, 13, 14, 15, 16, 17, 18, 19, 20] rfl, H⟩) (fun kp467 a w477 hI Qp467 hNp467 hOp467 => ?_)
                          obtain ⟨l470, l473, y474, y475, i_476, A468, c469, A471, c472, ha, HS478, HAp467⟩ := hI
                          cases kp467 with
                          | zero => cases (show (none : Option _) = some _ from HAp467)
                          | succ kp467 =>
                            have H := (valiselaw5_CodeTurns.l1.eq_2 ..).symm.trans HAp467
                            refine wpLF_app ?_ ha
                            refine L_seq ?_
                            refine L_seq ?_
                            refine L_region ?_
                            refine F_val rfl rfl rfl (O_move rfl rfl) ?_
                            refine F_val rfl rfl rfl (O_move rfl rfl) ?_
                            refine F_val rfl rfl rfl (O_len rfl rfl Try.underlying22) ?_
                            refine F_val rfl rfl rfl (O_lt rfl rfl rfl) ?_
                            refine F_nil ?_
                            refine L_condP rfl (fun c479 => ?_) (fun c479 => ?_)
                            · have H := of_pos H c479
                              refine L_skip ?_
                              refine L_seq ?_
                              refine L_blk (fun Q480 hN480 hX480 hO480 => ?_)
                              refine L_seq ?_
                              refine L_region ?_
                              refine F_val rfl rfl rfl (O_move rfl rfl) ?_
                              refine F_val rfl rfl rfl (O_move rfl rfl) ?_
                              refine F_val rfl rfl rfl (O_move rfl rfl) ?_
                              refine F_val rfl rfl rfl (O_move rfl rfl) ?_
                              obtain ⟨⟨g481, g482⟩, H⟩ := of_gd H
                              refine F_val rfl rfl rfl (O_idx rfl rfl rfl Try.underlying22 size3 g481 g482 (Cells.isA (HS478.cells_rd (i := 2) rfl) (rowC_ne (E := (Eint .i64)) g481 g482 (by decide)))) ?_
                              refine F_val rfl rfl rfl (O_loadC rfl rfl flat3 (HS478.cells_rd (i := 2) rfl) (int_cell g481 g482)) ?_
                              obtain ⟨⟨z487, z488, z489⟩, h486, H⟩ := of_bind H
                              refine F_call (xs := [.tmp 113, .tmp 114, .tmp 118]) rfl rfl rfl rfl Try.func36 nm36 rfl rfl ((code_Encoder_Put.calls (HS478.give [17, 18] rfl (Lent.box HS478 (Lent.own HS478 (Lent.own HS478 (Lent.nil) (i := 5) rfl rfl ((HS478.cells_own (i := 5) rfl).self)) (i := 4) rfl rfl ((HS478.cells_own (i := 4) rfl).self)) (i := 3) rfl rfl (HS478.cells_box (i := 3) rfl).self)) h486).mono (fun e w hc => ?_))
                              obtain ⟨A492, c493, rfl, HSo⟩ := hc
                              refine ⟨.int .i64 z487, rfl, ?_⟩
                              have HS491 : Hp S0 w0 w [.rd A_one_0 (rowC (Eint .i64) l_one_0), .rd A_two_1 (rowC (Eint .i64) l_two_1), .rd A_symbols_2 (rowC (Eint .i64) l_symbols_2), .box g19 (([.slice A21 z264.length c22, .slice A24 z265.length c25] : List Value) ++ rowC (Eint .i64) z266 ++ rowC (Eint .i64) z267) 94, .own A21 c22 (rowC (Eint .i64) z264) 3 (Eint .i64).sz, .own A24 c25 (rowC (Eint .i64) z265) 3 (Eint .i64).sz, .box g45 (([.slice A47 z269.length c48, .slice A50 z270.length c51] : List Value) ++ rowC (Eint .i64) z271 ++ rowC (Eint .i64) z272) 94, .own A47 c48 (rowC (Eint .i64) z269) 3 (Eint .i64).sz, .own A50 c51 (rowC (Eint .i64) z270) 3 (Eint .i64).sz, .box g72 (([.slice A74 z274.length c75, .slice A77 z275.length c78] : List Value) ++ rowC (Eint .i64) z276 ++ rowC (Eint .i64) z277 ++ ([.slice A80 z278.length c81] : List Value)) 108, .own A74 c75 (rowC (Eint .i64) z274) 3 (Eint .i64).sz, .own A77 c78 (rowC (Eint .i64) z275) 3 (Eint .i64).sz, .own A80 c81 (rowC (Eint .i64) z278) 3 (Eint .i64).sz, .box g101 (([.slice A103 z280.length c104, .slice A106 z281.length c107] : List Value) ++ rowC (Eint .i64) z282 ++ rowC (Eint .i64) z283 ++ ([.slice A109 z284.length c110] : List Value)) 108, .own A103 c104 (rowC (Eint .i64) z280) 3 (Eint .i64).sz, .own A106 c107 (rowC (Eint .i64) z281) 3 (Eint .i64).sz, .own A109 c110 (rowC (Eint .i64) z284) 3 (Eint .i64).sz, .box g189 [.slice A492 z488.length c493, .int .i64 z489] 98, .own A492 c493 (rowC (Eint .u8) z488) 5 (Eint .u8).sz, .box g202 [.slice A471 l473.length c472, .int .i64 y475] 98, .own A471 c472 (rowC (Eint .u8) l473) 5 (Eint .u8).sz] := (HS478.back [17, 18] HSo rfl).sel [0, 1, 2, 3, 4, 5, 6, 7, 8, 9, 10, 11, 12, 13, 14, 15, 16, 21, 22, 19, 20] rfl
                              refine F_nil ?_
                              refine L_region ?_
                              refine F_val rfl rfl rfl (O_move rfl rfl) ?_
                              refine F_val rfl rfl rfl (O_move rfl rfl) ?_
                              refine F_val rfl rfl rfl (O_move rfl rfl) ?_
                              refine F_val rfl rfl rfl (O_move rfl rfl) ?_
                              refine F_val rfl rfl rfl (O_idx rfl rfl rfl Try.underlying22 size3 g481 g482 (Cells.isA (HS491.cells_rd (i := 2) rfl) (rowC_ne (E := (Eint .i64)) g481 g482 (by decide)))) ?_
                              refine F_val rfl rfl rfl (O_loadC rfl rfl flat3 (HS491.cells_rd (i := 2) rfl) (int_cell g481 g482)) ?_
                              obtain ⟨⟨z498, z499, z500⟩, h497, H⟩ := of_bind H
                              refine F_call (xs := [.tmp 120, .tmp 121, .tmp 125]) rfl rfl rfl rfl Try.func36 nm36 rfl rfl ((code_Encoder_Put.calls (HS491.give [19, 20] rfl (Lent.box HS491 (Lent.own HS491 (Lent.own HS491 (Lent.nil) (i := 8) rfl rfl ((HS491.cells_own (i := 8) rfl).self)) (i := 7) rfl rfl ((HS491.cells_own (i := 7) rfl).self)) (i := 6) rfl rfl (HS491.cells_box (i := 6) rfl).self)) h497).mono (fun e w hc => ?_))
                              obtain ⟨A503, c504, rfl, HSo⟩ := hc
                              refine ⟨.int .i64 z498, rfl, ?_⟩
                              have HS502 : Hp S0 w0 w [.rd A_one_0 (rowC (Eint .i64) l_one_0), .rd A_two_1 (rowC (Eint .i64) l_two_1), .rd A_symbols_2 (rowC (Eint .i64) l_symbols_2), .box g19 (([.slice A21 z264.length c22, .slice A24 z265.length c25] : List Value) ++ rowC (Eint .i64) z266 ++ rowC (Eint .i64) z267) 94, .own A21 c22 (rowC (Eint .i64) z264) 3 (Eint .i64).sz, .own A24 c25 (rowC (Eint .i64) z265) 3 (Eint .i64).sz, .box g45 (([.slice A47 z269.length c48, .slice A50 z270.length c51] : List Value) ++ rowC (Eint .i64) z271 ++ rowC (Eint .i64) z272) 94, .own A47 c48 (rowC (Eint .i64) z269) 3 (Eint .i64).sz, .own A50 c51 (rowC (Eint .i64) z270) 3 (Eint .i64).sz, .box g72 (([.slice A74 z274.length c75, .slice A77 z275.length c78] : List Value) ++ rowC (Eint .i64) z276 ++ rowC (Eint .i64) z277 ++ ([.slice A80 z278.length c81] : List Value)) 108, .own A74 c75 (rowC (Eint .i64) z274) 3 (Eint .i64).sz, .own A77 c78 (rowC (Eint .i64) z275) 3 (Eint .i64).sz, .own A80 c81 (rowC (Eint .i64) z278) 3 (Eint .i64).sz, .box g101 (([.slice A103 z280.length c104, .slice A106 z281.length c107] : List Value) ++ rowC (Eint .i64) z282 ++ rowC (Eint .i64) z283 ++ ([.slice A109 z284.length c110] : List Value)) 108, .own A103 c104 (rowC (Eint .i64) z280) 3 (Eint .i64).sz, .own A106 c107 (rowC (Eint .i64) z281) 3 (Eint .i64).sz, .own A109 c110 (rowC (Eint .i64) z284) 3 (Eint .i64).sz, .box g189 [.slice A492 z488.length c493, .int .i64 z489] 98, .own A492 c493 (rowC (Eint .u8) z488) 5 (Eint .u8).sz, .box g202 [.slice A503 z499.length c504, .int .i64 z500] 98, .own A503 c504 (rowC (Eint .u8) z499) 5 (Eint .u8).sz] := (HS491.back [19, 20] HSo rfl).sel [0, 1, 2, 3, 4, 5, 6, 7, 8, 9, 10, 11, 12, 13, 14, 15, 16, 17, 18, 21, 22] rfl
                              refine F_nil ?_
                              refine L_endB hN480 ?_
                              refine L_region ?_
                              refine F_val rfl rfl rfl (O_move rfl rfl) ?_
                              refine F_val rfl rfl rfl (O_add rfl rfl rfl) ?_
                              obtain ⟨x505, h506, H⟩ := of_bnd H
                              refine F_val rfl rfl rfl (O_assign' rfl rfl (congrArg (Value.int .i64) h506)) ?_
                              refine F_nil ?_
                              refine L_nil (fun a ha => hNp467 _ a _ (Nat.lt_succ_self _) ⟨_, _, _, _, _, _, _, _, _, Is.cons ha (Is.cons ha (Is.cons ha (Is.cons ha (Is.cons ha (Is.cons ha (Is.cons ha (Is.cons ha (Is.nil ha) rfl) rfl) rfl) rfl) rfl) rfl) rfl) rfl, HS502.sel [0, 1, 2, 3, 4, 5, 6, 7, 8, 9, 10, 11, 12, 13, 14, 15, 16, 17, 18, 19, 20] rfl, H⟩)
                            · have H := of_neg H c479
                              refine L_exitB (fun a w h => hOp467 (.exit 0) a w rfl (hXb401 a w h)) ?_
                              refine L_nil (fun a ha => hNj286 a _ ⟨_, _, _, _, _, _, _, _, (Option.some.inj H).symm, Is.cons ha (Is.cons ha (Is.cons ha (Is.cons ha (Is.cons ha (Is.cons ha (Is.cons ha (Is.nil ha) rfl) rfl) rfl) rfl) rfl) rfl) rfl, HS478.sel [0, 1, 2, 3, 4, 5, 6, 7, 8, 9, 10, 11, 12, 13, 14, 15, 16, 17, 18, 19, 20] rfl⟩)
                        · obtain ⟨l395, l398, y399, y400, A393, c394, A396, c397, rfl, ha, HS508⟩ := hR
                          refine wpLF_app ?_ ha
                          refine L_seq ?_
                          refine L_region ?_
                          refine F_val rfl rfl rfl (O_move rfl rfl) ?_
                          obtain ⟨z513, h512, H⟩ := of_bind H
                          refine F_call (xs := [.tmp 127]) rfl rfl rfl rfl Try.func43 nm43 rfl rfl ((bits_Writer_Bytes.calls (HS508.give [] rfl (Lent.box HS508 (Lent.own HS508 (Lent.nil) (i := 18) rfl rfl ((HS508.cells_own (i := 18) rfl).self)) (i := 17) rfl rfl (HS508.cells_box (i := 17) rfl).self)) h512).mono (fun e w hc => ?_))
                          obtain ⟨A516, c517, rfl, HSo⟩ := hc
                          refine ⟨.slice A516 z513.length c517, rfl, ?_⟩
                          have HS515 : Hp S0 w0 w [.rd A_one_0 (rowC (Eint .i64) l_one_0), .rd A_two_1 (rowC (Eint .i64) l_two_1), .rd A_symbols_2 (rowC (Eint .i64) l_symbols_2), .box g19 (([.slice A21 z264.length c22, .slice A24 z265.length c25] : List Value) ++ rowC (Eint .i64) z266 ++ rowC (Eint .i64) z267) 94, .own A21 c22 (rowC (Eint .i64) z264) 3 (Eint .i64).sz, .own A24 c25 (rowC (Eint .i64) z265) 3 (Eint .i64).sz, .box g45 (([.slice A47 z269.length c48, .slice A50 z270.length c51] : List Value) ++ rowC (Eint .i64) z271 ++ rowC (Eint .i64) z272) 94, .own A47 c48 (rowC (Eint .i64) z269) 3 (Eint .i64).sz, .own A50 c51 (rowC (Eint .i64) z270) 3 (Eint .i64).sz, .box g72 (([.slice A74 z274.length c75, .slice A77 z275.length c78] : List Value) ++ rowC (Eint .i64) z276 ++ rowC (Eint .i64) z277 ++ ([.slice A80 z278.length c81] : List Value)) 108, .own A74 c75 (rowC (Eint .i64) z274) 3 (Eint .i64).sz, .own A77 c78 (rowC (Eint .i64) z275) 3 (Eint .i64).sz, .own A80 c81 (rowC (Eint .i64) z278) 3 (Eint .i64).sz, .box g101 (([.slice A103 z280.length c104, .slice A106 z281.length c107] : List Value) ++ rowC (Eint .i64) z282 ++ rowC (Eint .i64) z283 ++ ([.slice A109 z284.length c110] : List Value)) 108, .own A103 c104 (rowC (Eint .i64) z280) 3 (Eint .i64).sz, .own A106 c107 (rowC (Eint .i64) z281) 3 (Eint .i64).sz, .own A109 c110 (rowC (Eint .i64) z284) 3 (Eint .i64).sz, .box g189 [.slice A393 l395.length c394, .int .i64 y399] 98, .own A393 c394 (rowC (Eint .u8) l395) 5 (Eint .u8).sz, .box g202 [.slice A396 l398.length c397, .int .i64 y400] 98, .own A396 c397 (rowC (Eint .u8) l398) 5 (Eint .u8).sz, .own A516 c517 (rowC (Eint .u8) z513) 5 (Eint .u8).sz] := (HS508.back [] HSo rfl).sel [0, 1, 2, 3, 4, 5, 6, 7, 8, 9, 10, 11, 12, 13, 14, 15, 16, 17, 18, 19, 20, 21] rfl
                          obtain ⟨z523, h522, H⟩ := of_bind H
                          refine F_call (xs := [.tmp 128]) rfl rfl rfl rfl Try.func47 nm47 rfl rfl ((bits_NewReader.calls (HS515.give [] rfl (Lent.own HS515 (Lent.nil) (i := 21) rfl rfl ((HS515.cells_own (i := 21) rfl).self))) (HS515.own_capE (i := 21) rfl (by decide)) h522).mono (fun e w hc => ?_))
                          obtain ⟨g526, A528, c529, rfl, HSo⟩ := hc
                          refine ⟨oV z523 g526, rfl, ?_⟩
                          have HS525 : Hp S0 w0 w [.rd A_one_0 (rowC (Eint .i64) l_one_0), .rd A_two_1 (rowC (Eint .i64) l_two_1), .rd A_symbols_2 (rowC (Eint .i64) l_symbols_2), .box g19 (([.slice A21 z264.length c22, .slice A24 z265.length c25] : List Value) ++ rowC (Eint .i64) z266 ++ rowC (Eint .i64) z267) 94, .own A21 c22 (rowC (Eint .i64) z264) 3 (Eint .i64).sz, .own A24 c25 (rowC (Eint .i64) z265) 3 (Eint .i64).sz, .box g45 (([.slice A47 z269.length c48, .slice A50 z270.length c51] : List Value) ++ rowC (Eint .i64) z271 ++ rowC (Eint .i64) z272) 94, .own A47 c48 (rowC (Eint .i64) z269) 3 (Eint .i64).sz, .own A50 c51 (rowC (Eint .i64) z270) 3 (Eint .i64).sz, .box g72 (([.slice A74 z274.length c75, .slice A77 z275.length c78] : List Value) ++ rowC (Eint .i64) z276 ++ rowC (Eint .i64) z277 ++ ([.slice A80 z278.length c81] : List Value)) 108, .own A74 c75 (rowC (Eint .i64) z274) 3 (Eint .i64).sz, .own A77 c78 (rowC (Eint .i64) z275) 3 (Eint .i64).sz, .own A80 c81 (rowC (Eint .i64) z278) 3 (Eint .i64).sz, .box g101 (([.slice A103 z280.length c104, .slice A106 z281.length c107] : List Value) ++ rowC (Eint .i64) z282 ++ rowC (Eint .i64) z283 ++ ([.slice A109 z284.length c110] : List Value)) 108, .own A103 c104 (rowC (Eint .i64) z280) 3 (Eint .i64).sz, .own A106 c107 (rowC (Eint .i64) z281) 3 (Eint .i64).sz, .own A109 c110 (rowC (Eint .i64) z284) 3 (Eint .i64).sz, .box g189 [.slice A393 l395.length c394, .int .i64 y399] 98, .own A393 c394 (rowC (Eint .u8) l395) 5 (Eint .u8).sz, .box g202 [.slice A396 l398.length c397, .int .i64 y400] 98, .own A396 c397 (rowC (Eint .u8) l398) 5 (Eint .u8).sz, .own A516 c517 (rowC (Eint .u8) z513) 5 (Eint .u8).sz, oR z523 (fun x => .box g526 [.slice A528 x.1.length c529, .int .i64 x.2] 112), oR z523 (fun x => .own A528 c529 (rowC (Eint .u8) x.1) 5 (Eint .u8).sz)] := (HS515.back [] HSo (by cases z523 <;> rfl)).sel [0, 1, 2, 3, 4, 5, 6, 7, 8, 9, 10, 11, 12, 13, 14, 15, 16, 17, 18, 19, 20, 21, 22, 23] rfl
                          refine F_val rfl rfl rfl (O_assign rfl rfl) ?_
                          refine F_nil ?_
                          refine L_seq ?_
                          refine L_region ?_
                          refine F_val rfl rfl rfl (O_move rfl rfl) ?_
                          obtain ⟨z535, h534, H⟩ := of_bind H
                          refine F_call (xs := [.tmp 130]) rfl rfl rfl rfl Try.func43 nm43 rfl rfl ((bits_Writer_Bytes.calls (HS525.give [] rfl (Lent.box HS525 (Lent.own HS525 (Lent.nil) (i := 20) rfl rfl ((HS525.cells_own (i := 20) rfl).self)) (i := 19) rfl rfl (HS525.cells_box (i := 19) rfl).self)) h534).mono (fun e w hc => ?_))
                          obtain ⟨A538, c539, rfl, HSo⟩ := hc
                          refine ⟨.slice A538 z535.length c539, rfl, ?_⟩
                          have HS537 : Hp S0 w0 w [.rd A_one_0 (rowC (Eint .i64) l_one_0), .rd A_two_1 (rowC (Eint .i64) l_two_1), .rd A_symbols_2 (rowC (Eint .i64) l_symbols_2), .box g19 (([.slice A21 z264.length c22, .slice A24 z265.length c25] : List Value) ++ rowC (Eint .i64) z266 ++ rowC (Eint .i64) z267) 94, .own A21 c22 (rowC (Eint .i64) z264) 3 (Eint .i64).sz, .own A24 c25 (rowC (Eint .i64) z265) 3 (Eint .i64).sz, .box g45 (([.slice A47 z269.length c48, .slice A50 z270.length c51] : List Value) ++ rowC (Eint .i64) z271 ++ rowC (Eint .i64) z272) 94, .own A47 c48 (rowC (Eint .i64) z269) 3 (Eint .i64).sz, .own A50 c51 (rowC (Eint .i64) z270) 3 (Eint .i64).sz, .box g72 (([.slice A74 z274.length c75, .slice A77 z275.length c78] : List Value) ++ rowC (Eint .i64) z276 ++ rowC (Eint .i64) z277 ++ ([.slice A80 z278.length c81] : List Value)) 108, .own A74 c75 (rowC (Eint .i64) z274) 3 (Eint .i64).sz, .own A77 c78 (rowC (Eint .i64) z275) 3 (Eint .i64).sz, .own A80 c81 (rowC (Eint .i64) z278) 3 (Eint .i64).sz, .box g101 (([.slice A103 z280.length c104, .slice A106 z281.length c107] : List Value) ++ rowC (Eint .i64) z282 ++ rowC (Eint .i64) z283 ++ ([.slice A109 z284.length c110] : List Value)) 108, .own A103 c104 (rowC (Eint .i64) z280) 3 (Eint .i64).sz, .own A106 c107 (rowC (Eint .i64) z281) 3 (Eint .i64).sz, .own A109 c110 (rowC (Eint .i64) z284) 3 (Eint .i64).sz, .box g189 [.slice A393 l395.length c394, .int .i64 y399] 98, .own A393 c394 (rowC (Eint .u8) l395) 5 (Eint .u8).sz, .box g202 [.slice A396 l398.length c397, .int .i64 y400] 98, .own A396 c397 (rowC (Eint .u8) l398) 5 (Eint .u8).sz, .own A516 c517 (rowC (Eint .u8) z513) 5 (Eint .u8).sz, oR z523 (fun x => .box g526 [.slice A528 x.1.length c529, .int .i64 x.2] 112), oR z523 (fun x => .own A528 c529 (rowC (Eint .u8) x.1) 5 (Eint .u8).sz), .own A538 c539 (rowC (Eint .u8) z535) 5 (Eint .u8).sz] := (HS525.back [] HSo rfl).sel [0, 1, 2, 3, 4, 5, 6, 7, 8, 9, 10, 11, 12, 13, 14, 15, 16, 17, 18, 19, 20, 21, 22, 23, 24] rfl
                          obtain ⟨z545, h544, H⟩ := of_bind H
                          refine F_call (xs := [.tmp 131]) rfl rfl rfl rfl Try.func47 nm47 rfl rfl ((bits_NewReader.calls (HS537.give [] rfl (Lent.own HS537 (Lent.nil) (i := 24) rfl rfl ((HS537.cells_own (i := 24) rfl).self))) (HS537.own_capE (i := 24) rfl (by decide)) h544).mono (fun e w hc => ?_))
                          obtain ⟨g548, A550, c551, rfl, HSo⟩ := hc
                          refine ⟨oV z545 g548, rfl, ?_⟩
                          have HS547 : Hp S0 w0 w [.rd A_one_0 (rowC (Eint .i64) l_one_0), .rd A_two_1 (rowC (Eint .i64) l_two_1), .rd A_symbols_2 (rowC (Eint .i64) l_symbols_2), .box g19 (([.slice A21 z264.length c22, .slice A24 z265.length c25] : List Value) ++ rowC (Eint .i64) z266 ++ rowC (Eint .i64) z267) 94, .own A21 c22 (rowC (Eint .i64) z264) 3 (Eint .i64).sz, .own A24 c25 (rowC (Eint .i64) z265) 3 (Eint .i64).sz, .box g45 (([.slice A47 z269.length c48, .slice A50 z270.length c51] : List Value) ++ rowC (Eint .i64) z271 ++ rowC (Eint .i64) z272) 94, .own A47 c48 (rowC (Eint .i64) z269) 3 (Eint .i64).sz, .own A50 c51 (rowC (Eint .i64) z270) 3 (Eint .i64).sz, .box g72 (([.slice A74 z274.length c75, .slice A77 z275.length c78] : List Value) ++ rowC (Eint .i64) z276 ++ rowC (Eint .i64) z277 ++ ([.slice A80 z278.length c81] : List Value)) 108, .own A74 c75 (rowC (Eint .i64) z274) 3 (Eint .i64).sz, .own A77 c78 (rowC (Eint .i64) z275) 3 (Eint .i64).sz, .own A80 c81 (rowC (Eint .i64) z278) 3 (Eint .i64).sz, .box g101 (([.slice A103 z280.length c104, .slice A106 z281.length c107] : List Value) ++ rowC (Eint .i64) z282 ++ rowC (Eint .i64) z283 ++ ([.slice A109 z284.length c110] : List Value)) 108, .own A103 c104 (rowC (Eint .i64) z280) 3 (Eint .i64).sz, .own A106 c107 (rowC (Eint .i64) z281) 3 (Eint .i64).sz, .own A109 c110 (rowC (Eint .i64) z284) 3 (Eint .i64).sz, .box g189 [.slice A393 l395.length c394, .int .i64 y399] 98, .own A393 c394 (rowC (Eint .u8) l395) 5 (Eint .u8).sz, .box g202 [.slice A396 l398.length c397, .int .i64 y400] 98, .own A396 c397 (rowC (Eint .u8) l398) 5 (Eint .u8).sz, .own A516 c517 (rowC (Eint .u8) z513) 5 (Eint .u8).sz, oR z523 (fun x => .box g526 [.slice A528 x.1.length c529, .int .i64 x.2] 112), oR z523 (fun x => .own A528 c529 (rowC (Eint .u8) x.1) 5 (Eint .u8).sz), .own A538 c539 (rowC (Eint .u8) z535) 5 (Eint .u8).sz, oR z545 (fun x => .box g548 [.slice A550 x.1.length c551, .int .i64 x.2] 112), oR z545 (fun x => .own A550 c551 (rowC (Eint .u8) x.1) 5 (Eint .u8).sz)] := (HS537.back [] HSo (by cases z545 <;> rfl)).sel [0, 1, 2, 3, 4, 5, 6, 7, 8, 9, 10, 11, 12, 13, 14, 15, 16, 17, 18, 19, 20, 21, 22, 23, 24, 25, 26] rfl
                          refine F_val rfl rfl rfl (O_assign rfl rfl) ?_
                          refine F_nil ?_
                          refine L_seq ?_
                          refine L_seq ?_
                          have HS553 : Hp S0 w0 w [.rd A_one_0 (rowC (Eint .i64) l_one_0), .rd A_two_1 (rowC (Eint .i64) l_two_1), .rd A_symbols_2 (rowC (Eint .i64) l_symbols_2), .box g19 (([.slice A21 z264.length c22, .slice A24 z265.length c25] : List Value) ++ rowC (Eint .i64) z266 ++ rowC (Eint .i64) z267) 94, .own A21 c22 (rowC (Eint .i64) z264) 3 (Eint .i64).sz, .own A24 c25 (rowC (Eint .i64) z265) 3 (Eint .i64).sz, .box g45 (([.slice A47 z269.length c48, .slice A50 z270.length c51] : List Value) ++ rowC (Eint .i64) z271 ++ rowC (Eint .i64) z272) 94, .own A47 c48 (rowC (Eint .i64) z269) 3 (Eint .i64).sz, .own A50 c51 (rowC (Eint .i64) z270) 3 (Eint .i64).sz, .box g72 (([.slice A74 z274.length c75, .slice A77 z275.length c78] : List Value) ++ rowC (Eint .i64) z276 ++ rowC (Eint .i64) z277 ++ ([.slice A80 z278.length c81] : List Value)) 108, .own A74 c75 (rowC (Eint .i64) z274) 3 (Eint .i64).sz, .own A77 c78 (rowC (Eint .i64) z275) 3 (Eint .i64).sz, .own A80 c81 (rowC (Eint .i64) z278) 3 (Eint .i64).sz, .box g101 (([.slice A103 z280.length c104, .slice A106 z281.length c107] : List Value) ++ rowC (Eint .i64) z282 ++ rowC (Eint .i64) z283 ++ ([.slice A109 z284.length c110] : List Value)) 108, .own A103 c104 (rowC (Eint .i64) z280) 3 (Eint .i64).sz, .own A106 c107 (rowC (Eint .i64) z281) 3 (Eint .i64).sz, .own A109 c110 (rowC (Eint .i64) z284) 3 (Eint .i64).sz, .box g189 [.slice A393 l395.length c394, .int .i64 y399] 98, .own A393 c394 (rowC (Eint .u8) l395) 5 (Eint .u8).sz, .box g202 [.slice A396 l398.length c397, .int .i64 y400] 98, .own A396 c397 (rowC (Eint .u8) l398) 5 (Eint .u8).sz, oR z523 (fun x => .box g526 [.slice A528 x.1.length c529, .int .i64 x.2] 112), oR z523 (fun x => .own A528 c529 (rowC (Eint .u8) x.1) 5 (Eint .u8).sz), oR z545 (fun x => .box g548 [.slice A550 x.1.length c551, .int .i64 x.2] 112), oR z545 (fun x => .own A550 c551 (rowC (Eint .u8) x.1) 5 (Eint .u8).sz)] := HS547.sel [0, 1, 2, 3, 4, 5, 6, 7, 8, 9, 10, 11, 12, 13, 14, 15, 16, 17, 18, 19, 20, 22, 23, 25, 26] rfl
                          refine L_region ?_
                          refine F_val rfl rfl rfl (O_move rfl rfl) ?_
                          refine F_val rfl rfl rfl (O_peqO rfl rfl rfl Try.underlying68) ?_
                          refine F_val rfl rfl rfl (O_move rfl rfl) ?_
                          obtain ⟨b554, Hb554, H⟩ := of_bind H
                          refine F_grp 3 [(138, .bool b554), (2, .slice A_symbols_2 l_symbols_2.length c_symbols_2), (7, .pointer (some ⟨g19, 0, none⟩)), (9, .pointer (some ⟨g45, 0, none⟩)), (11, .pointer (some ⟨g72, 0, none⟩)), (13, .pointer (some ⟨g101, 0, none⟩)), (17, .pointer (some ⟨g189, 0, none⟩)), (18, .pointer (some ⟨g202, 0, none⟩)), (20, oV z523 g526), (21, oV z545 g548)] ?_ ?_
                          · rcases Decidable.em (z523.isNone = true) with c558 | c558
                            · refine F_know (i := 135) rfl (congrArg Value.bool c558) ?_
                              have H := of_pos Hb554 c558
                              refine F_gskip rfl rfl rfl rfl rfl rfl rfl ?_
                              refine F_gskip rfl rfl rfl rfl rfl rfl rfl ?_
                              refine F_val rfl rfl rfl (O_pickT rfl rfl rfl) ?_
                              refine F_know (i := 138) rfl (congrArg Value.bool (Option.some.inj H)) ?_
                              exact F_grpE (fun a ha => Is.cons ha (Is.cons ha (Is.cons ha (Is.cons ha (Is.cons ha (Is.cons ha (Is.cons ha (Is.cons ha (Is.cons ha (Is.cons ha (Is.nil ha) rfl) rfl) rfl) rfl) rfl) rfl) rfl) rfl) rfl) rfl)
                            · refine F_know (i := 135) rfl (congrArg Value.bool (Bool.eq_false_iff.mpr c558)) ?_
                              have H := of_neg Hb554 c558
                              refine F_gval rfl rfl rfl rfl rfl rfl (O_move rfl rfl) ?_
                              refine F_gval rfl rfl rfl rfl rfl rfl (O_peqO rfl rfl rfl Try.underlying68) ?_
                              refine F_val rfl rfl rfl (O_pickF rfl rfl rfl) ?_
                              refine F_know (i := 138) rfl (congrArg Value.bool (Option.some.inj H)) ?_
                              exact F_grpE (fun a ha => Is.cons ha (Is.cons ha (Is.cons ha (Is.cons ha (Is.cons ha (Is.cons ha (Is.cons ha (Is.cons ha (Is.cons ha (Is.cons ha (Is.nil ha) rfl) rfl) rfl) rfl) rfl) rfl) rfl) rfl) rfl) rfl)
                          · skip
                            refine F_nil ?_
                            refine L_cond rfl (fun c559 => ?_) (fun c559 => ?_)
                            · have H := of_pos H c559
                              refine L_seq ?_
                              have HS560 : Hp S0 w0 w [.rd A_one_0 (rowC (Eint .i64) l_one_0), .rd A_two_1 (rowC (Eint .i64) l_two_1), .rd A_symbols_2 (rowC (Eint .i64) l_symbols_2)] := HS553.sel [0, 1, 2] rfl
                              refine L_region ?_
                              refine F_val rfl rfl rfl (O_assign rfl rfl) ?_
                              refine F_nil ?_
                              refine L_ret (fun a ha => (post_ret1 ha rfl rfl ?_))
                              obtain rfl := Option.some.inj H
                              exact ⟨rfl, HS560.sel [] rfl⟩
                            · have H := of_neg H (by rw [c559]; exact Bool.false_ne_true)
                              refine L_skip ?_
                              refine L_seq ?_
                              refine L_seq ?_
                              refine L_region ?_
                              refine F_val rfl rfl rfl (O_assign rfl rfl) ?_
                              refine F_nil ?_
                              rcases z523 with _ | ⟨z561, z562⟩
                              · cases (show (none : Option _) = some _ from (onO_none _ _).symm.trans H)
                              have H := (onO_some _ _ _).symm.trans H
                              have HS563 : Hp S0 w0 w [.rd A_one_0 (rowC (Eint .i64) l_one_0), .rd A_two_1 (rowC (Eint .i64) l_two_1), .rd A_symbols_2 (rowC (Eint .i64) l_symbols_2), .box g19 (([.slice A21 z264.length c22, .slice A24 z265.length c25] : List Value) ++ rowC (Eint .i64) z266 ++ rowC (Eint .i64) z267) 94, .own A21 c22 (rowC (Eint .i64) z264) 3 (Eint .i64).sz, .own A24 c25 (rowC (Eint .i64) z265) 3 (Eint .i64).sz, .box g45 (([.slice A47 z269.length c48, .slice A50 z270.length c51] : List Value) ++ rowC (Eint .i64) z271 ++ rowC (Eint .i64) z272) 94, .own A47 c48 (rowC (Eint .i64) z269) 3 (Eint .i64).sz, .own A50 c51 (rowC (Eint .i64) z270) 3 (Eint .i64).sz, .box g72 (([.slice A74 z274.length c75, .slice A77 z275.length c78] : List Value) ++ rowC (Eint .i64) z276 ++ rowC (Eint .i64) z277 ++ ([.slice A80 z278.length c81] : List Value)) 108, .own A74 c75 (rowC (Eint .i64) z274) 3 (Eint .i64).sz, .own A77 c78 (rowC (Eint .i64) z275) 3 (Eint .i64).sz, .own A80 c81 (rowC (Eint .i64) z278) 3 (Eint .i64).sz, .box g101 (([.slice A103 z280.length c104, .slice A106 z281.length c107] : List Value) ++ rowC (Eint .i64) z282 ++ rowC (Eint .i64) z283 ++ ([.slice A109 z284.length c110] : List Value)) 108, .own A103 c104 (rowC (Eint .i64) z280) 3 (Eint .i64).sz, .own A106 c107 (rowC (Eint .i64) z281) 3 (Eint .i64).sz, .own A109 c110 (rowC (Eint .i64) z284) 3 (Eint .i64).sz, .box g189 [.slice A393 l395.length c394, .int .i64 y399] 98, .own A393 c394 (rowC (Eint .u8) l395) 5 (Eint .u8).sz, .box g202 [.slice A396 l398.length c397, .int .i64 y400] 98, .own A396 c397 (rowC (Eint .u8) l398) 5 (Eint .u8).sz, .box g526 [.slice A528 z561.length c529, .int .i64 z562] 112, .own A528 c529 (rowC (Eint .u8) z561) 5 (Eint .u8).sz, oR z545 (fun x => .box g548 [.slice A550 x.1.length c551, .int .i64 x.2] 112), oR z545 (fun x => .own A550 c551 (rowC (Eint .u8) x.1) 5 (Eint .u8).sz)] := HS553
                              rcases z545 with _ | ⟨z564, z565⟩
                              · cases (show (none : Option _) = some _ from (onO_none _ _).symm.trans H)
                              have H := (onO_some _ _ _).symm.trans H
                              have HS566 : Hp S0 w0 w [.rd A_one_0 (rowC (Eint .i64) l_one_0), .rd A_two_1 (rowC (Eint .i64) l_two_1), .rd A_symbols_2 (rowC (Eint .i64) l_symbols_2), .box g19 (([.slice A21 z264.length c22, .slice A24 z265.length c25] : List Value) ++ rowC (Eint .i64) z266 ++ rowC (Eint .i64) z267) 94, .own A21 c22 (rowC (Eint .i64) z264) 3 (Eint .i64).sz, .own A24 c25 (rowC (Eint .i64) z265) 3 (Eint .i64).sz, .box g45 (([.slice A47 z269.length c48, .slice A50 z270.length c51] : List Value) ++ rowC (Eint .i64) z271 ++ rowC (Eint .i64) z272) 94, .own A47 c48 (rowC (Eint .i64) z269) 3 (Eint .i64).sz, .own A50 c51 (rowC (Eint .i64) z270) 3 (Eint .i64).sz, .box g72 (([.slice A74 z274.length c75, .slice A77 z275.length c78] : List Value) ++ rowC (Eint .i64) z276 ++ rowC (Eint .i64) z277 ++ ([.slice A80 z278.length c81] : List Value)) 108, .own A74 c75 (rowC (Eint .i64) z274) 3 (Eint .i64).sz, .own A77 c78 (rowC (Eint .i64) z275) 3 (Eint .i64).sz, .own A80 c81 (rowC (Eint .i64) z278) 3 (Eint .i64).sz, .box g101 (([.slice A103 z280.length c104, .slice A106 z281.length c107] : List Value) ++ rowC (Eint .i64) z282 ++ rowC (Eint .i64) z283 ++ ([.slice A109 z284.length c110] : List Value)) 108, .own A103 c104 (rowC (Eint .i64) z280) 3 (Eint .i64).sz, .own A106 c107 (rowC (Eint .i64) z281) 3 (Eint .i64).sz, .own A109 c110 (rowC (Eint .i64) z284) 3 (Eint .i64).sz, .box g189 [.slice A393 l395.length c394, .int .i64 y399] 98, .own A393 c394 (rowC (Eint .u8) l395) 5 (Eint .u8).sz, .box g202 [.slice A396 l398.length c397, .int .i64 y400] 98, .own A396 c397 (rowC (Eint .u8) l398) 5 (Eint .u8).sz, .box g526 [.slice A528 z561.length c529, .int .i64 z562] 112, .own A528 c529 (rowC (Eint .u8) z561) 5 (Eint .u8).sz, .box g548 [.slice A550 z564.length c551, .int .i64 z565] 112, .own A550 c551 (rowC (Eint .u8) z564) 5 (Eint .u8).sz] := HS563
                              obtain ⟨yj567, Hyj567, H⟩ := of_bind H
                              refine L_join (fun a w => ∃ (l686 : List Int), ∃ (l689 : List Int), ∃ (y690 : Int), ∃ (y691 : Int), ∃ (A684 : Option Addr), ∃ (c685 : Nat), ∃ (A687 : Option Addr), ∃ (c688 : Nat), yj567 = Sum.inr (l686, l689, y690, y691) ∧ Is Try.f11.ntmps a [(17, .pointer (some ⟨g189, 0, none⟩)), (18, .pointer (some ⟨g202, 0, none⟩)), (20, .pointer (some ⟨g526, 0, none⟩)), (21, .pointer (some ⟨g548, 0, none⟩))] ∧ Hp S0 w0 w [.rd A_one_0 (rowC (Eint .i64) l_one_0), .rd A_two_1 (rowC (Eint .i64) l_two_1), .rd A_symbols_2 (rowC (Eint .i64) l_symbols_2), .box g189 [.slice A393 l395.length c394, .int .i64 y399] 98, .own A393 c394 (rowC (Eint .u8) l395) 5 (Eint .u8).sz, .box g202 [.slice A396 l398.length c397, .int .i64 y400] 98, .own A396 c397 (rowC (Eint .u8) l398) 5 (Eint .u8).sz, .box g526 [.slice A684 l686.length c685, .int .i64 y690] 112, .own A684 c685 (rowC (Eint .u8) l686) 5 (Eint .u8).sz, .box g548 [.slice A687 l689.length c688, .int .i64 y691] 112, .own A687 c688 (rowC (Eint .u8) l689) 5 (Eint .u8).sz]) (fun Qj567 hNj567 hOj567 => ?_) (fun a w hR => ?_)
                              · have HOj567 := H
                                have H := Hyj567
                                refine L_blk (fun Qb692 hNb692 hXb692 hOb692 => ?_)
                                refine L_lp (fun k a w => ∃ (l769 : List Int), ∃ (l772 : List Int), ∃ (y773 : Int), ∃ (y774 : Int), ∃ (i_775 : Int), ∃ (A767 : Option Addr), ∃ (c768 : Nat), ∃ (A770 : Option Addr), ∃ (c771 : Nat), Is Try.f11.ntmps a [(2, .slice A_symbols_2 l_symbols_2.length c_symbols_2), (7, .pointer (some ⟨g19, 0, none⟩)), (9, .pointer (some ⟨g45, 0, none⟩)), (11, .pointer (some ⟨g72, 0, none⟩)), (13, .pointer (some ⟨g101, 0, none⟩)), (17, .pointer (some ⟨g189, 0, none⟩)), (18, .pointer (some ⟨g202, 0, none⟩)), (20, .pointer (some ⟨g526, 0, none⟩)), (21, .pointer (some ⟨g548, 0, none⟩)), (22, .int .i64 i_775)] ∧ Hp S0 w0 w [.rd A_one_0 (rowC (Eint .i64) l_one_0), .rd A_two_1 (rowC (Eint .i64) l_two_1), .rd A_symbols_2 (rowC (Eint .i64) l_symbols_2), .box g19 (([.slice A21 z264.length c22, .slice A24 z265.length c25] : List Value) ++ rowC (Eint .i64) z266 ++ rowC (Eint .i64) z267) 94, .own A21 c22 (rowC (Eint .i64) z264) 3 (Eint .i64).sz, .own A24 c25 (rowC (Eint .i64) z265) 3 (Eint .i64).sz, .box g45 (([.slice A47 z269.length c48, .slice A50 z270.length c51] : List Value) ++ rowC (Eint .i64) z271 ++ rowC (Eint .i64) z272) 94, .own A47 c48 (rowC (Eint .i64) z269) 3 (Eint .i64).sz, .own A50 c51 (rowC (Eint .i64) z270) 3 (Eint .i64).sz, .box g72 (([.slice A74 z274.length c75, .slice A77 z275.length c78] : List Value) ++ rowC (Eint .i64) z276 ++ rowC (Eint .i64) z277 ++ ([.slice A80 z278.length c81] : List Value)) 108, .own A74 c75 (rowC (Eint .i64) z274) 3 (Eint .i64).sz, .own A77 c78 (rowC (Eint .i64) z275) 3 (Eint .i64).sz, .own A80 c81 (rowC (Eint .i64) z278) 3 (Eint .i64).sz, .box g101 (([.slice A103 z280.length c104, .slice A106 z281.length c107] : List Value) ++ rowC (Eint .i64) z282 ++ rowC (Eint .i64) z283 ++ ([.slice A109 z284.length c110] : List Value)) 108, .own A103 c104 (rowC (Eint .i64) z280) 3 (Eint .i64).sz, .own A106 c107 (rowC (Eint .i64) z281) 3 (Eint .i64).sz, .own A109 c110 (rowC (Eint .i64) z284) 3 (Eint .i64).sz, .box g189 [.slice A393 l395.length c394, .int .i64 y399] 98, .own A393 c394 (rowC (Eint .u8) l395) 5 (Eint .u8).sz, .box g202 [.slice A396 l398.length c397, .int .i64 y400] 98, .own A396 c397 (rowC (Eint .u8) l398) 5 (Eint .u8).sz, .box g526 [.slice A767 l769.length c768, .int .i64 y773] 112, .own A767 c768 (rowC (Eint .u8) l769) 5 (Eint .u8).sz, .box g548 [.slice A770 l772.length c771, .int .i64 y774] 112, .own A770 c771 (rowC (Eint .u8) l772) 5 (Eint .u8).sz] ∧ valiselaw5_CodeTurns.l3 k l769 l772 y773 y774 i_775 l_symbols_2 z264 z265 z266 z267 z269 z270 z271 z272 z274 z275 z276 z277 z278 z280 z281 z282 z283 z284 = some yj567) FU (fun a ha => ⟨_, _, _, _, _, _, _, _, _, Is.cons ha (Is.cons ha (Is.cons ha (Is.cons ha (Is.cons ha (Is.cons ha (Is.cons ha (Is.cons ha (Is.cons ha (Is.cons ha (Is.nil ha) rfl) rfl) rfl) rfl) rfl) rfl) rfl) rfl) rfl) rfl, HS566.sel [0, 1, 2, 3, 4, 5, 6, 7, 8, 9, 10, 11, 12, 13, 14, 15, 16, 17, 18, 19, 20, 21, 22, 23, 24] rfl, H⟩) (fun kp766 a w776 hI Qp766 hNp766 hOp766 => ?_)
                                obtain ⟨l769, l772, y773, y774, i_775, A767, c768, A770, c771, ha, HS777, HAp766⟩ := hI
                                cases kp766 with
                                | zero => cases (show (none : Option _) = some _ from HAp766)
                                | succ kp766 =>
                                  have H := (valiselaw5_CodeTurns.l3.eq_2 ..).symm.trans HAp766
                                  refine wpLF_app ?_ ha
                                  refine L_seq ?_
                                  refine L_seq ?_
                                  refine L_region ?_
                                  refine F_val rfl rfl rfl (O_move rfl rfl) ?_
                                  refine F_val rfl rfl rfl (O_move rfl rfl) ?_
                                  refine F_val rfl rfl rfl (O_len rfl rfl Try.underlying22) ?_
                                  refine F_val rfl rfl rfl (O_lt rfl rfl rfl) ?_
                                  refine F_nil ?_
                                  refine L_condP rfl (fun c778 => ?_) (fun c778 => ?_)
                                  · have H := of_pos H c778
                                    refine L_skip ?_
                                    refine L_seq ?_
                                    refine L_blk (fun Q779 hN779 hX779 hO779 => ?_)
                                    refine L_seq ?_
                                    refine L_region ?_
                                    refine F_val rfl rfl rfl (O_move rfl rfl) ?_
                                    refine F_val rfl rfl rfl (O_move rfl rfl) ?_
                                    refine F_val rfl rfl rfl (O_move rfl rfl) ?_
                                    refine F_val rfl rfl rfl (O_move rfl rfl) ?_
                                    refine F_val rfl rfl rfl (O_move rfl rfl) ?_
                                    obtain ⟨⟨g780, g781⟩, H⟩ := of_gd H
                                    refine F_val rfl rfl rfl (O_idx rfl rfl rfl Try.underlying22 size3 g780 g781 (Cells.isA (HS777.cells_rd (i := 2) rfl) (rowC_ne (E := (Eint .i64)) g780 g781 (by decide)))) ?_
                                    refine F_val rfl rfl rfl (O_loadC rfl rfl flat3 (HS777.cells_rd (i := 2) rfl) (int_cell g780 g781)) ?_
                                    obtain ⟨⟨z786, z787, z788⟩, h785, H⟩ := of_bind H
                                    refine F_call (xs := [.tmp 145, .tmp 146, .tmp 147, .tmp 151]) rfl rfl rfl rfl Try.func56 nm56 rfl rfl ((valiselaw5_reads.calls (HS777.give [21, 22] rfl (Lent.box HS777 (Lent.own HS777 (Lent.own HS777 (Lent.own HS777 (Lent.box HS777 (Lent.own HS777 (Lent.own HS777 (Lent.nil) (i := 5) rfl rfl ((HS777.cells_own (i := 5) rfl).self)) (i := 4) rfl rfl ((HS777.cells_own (i := 4) rfl).self)) (i := 3) rfl rfl (HS777.cells_box (i := 3) rfl).self) (i := 12) rfl rfl ((HS777.cells_own (i := 12) rfl).self)) (i := 11) rfl rfl ((HS777.cells_own (i := 11) rfl).self)) (i := 10) rfl rfl ((HS777.cells_own (i := 10) rfl).self)) (i := 9) rfl rfl (HS777.cells_box (i := 9) rfl).self)) h785).mono (fun e w hc => ?_))
                                    obtain ⟨A791, c792, rfl, HSo⟩ := hc
                                    refine ⟨.bool z786, rfl, ?_⟩
                                    have HS790 : Hp S0 w0 w [.rd A_one_0 (rowC (Eint .i64) l_one_0), .rd A_two_1 (rowC (Eint .i64) l_two_1), .rd A_symbols_2 (rowC (Eint .i64) l_symbols_2), .box g19 (([.slice A21 z264.length c22, .slice A24 z265.length c25] : List Value) ++ rowC (Eint .i64) z266 ++ rowC (Eint .i64) z267) 94, .own A21 c22 (rowC (Eint .i64) z264) 3 (Eint .i64).sz, .own A24 c25 (rowC (Eint .i64) z265) 3 (Eint .i64).sz, .box g45 (([.slice A47 z269.length c48, .slice A50 z270.length c51] : List Value) ++ rowC (Eint .i64) z271 ++ rowC (Eint .i64) z272) 94, .own A47 c48 (rowC (Eint .i64) z269) 3 (Eint .i64).sz, .own A50 c51 (rowC (Eint .i64) z270) 3 (Eint .i64).sz, .box g72 (([.slice A74 z274.length c75, .slice A77 z275.length c78] : List Value) ++ rowC (Eint .i64) z276 ++ rowC (Eint .i64) z277 ++ ([.slice A80 z278.length c81] : List Value)) 108, .own A74 c75 (rowC (Eint .i64) z274) 3 (Eint .i64).sz, .own A77 c78 (rowC (Eint .i64) z275) 3 (Eint .i64).sz, .own A80 c81 (rowC (Eint .i64) z278) 3 (Eint .i64).sz, .box g101 (([.slice A103 z280.length c104, .slice A106 z281.length c107] : List Value) ++ rowC (Eint .i64) z282 ++ rowC (Eint .i64) z283 ++ ([.slice A109 z284.length c110] : List Value)) 108, .own A103 c104 (rowC (Eint .i64) z280) 3 (Eint .i64).sz, .own A106 c107 (rowC (Eint .i64) z281) 3 (Eint .i64).sz, .own A109 c110 (rowC (Eint .i64) z284) 3 (Eint .i64).sz, .box g189 [.slice A393 l395.length c394, .int .i64 y399] 98, .own A393 c394 (rowC (Eint .u8) l395) 5 (Eint .u8).sz, .box g202 [.slice A396 l398.length c397, .int .i64 y400] 98, .own A396 c397 (rowC (Eint .u8) l398) 5 (Eint .u8).sz, .box g526 [.slice A791 z787.length c792, .int .i64 z788] 112, .own A791 c792 (rowC (Eint .u8) z787) 5 (Eint .u8).sz, .box g548 [.slice A770 l772.length c771, .int .i64 y774] 112, .own A770 c771 (rowC (Eint .u8) l772) 5 (Eint .u8).sz] := (HS777.back [21, 22] HSo rfl).sel [0, 1, 2, 3, 4, 5, 6, 7, 8, 9, 10, 11, 12, 13, 14, 15, 16, 17, 18, 19, 20, 25, 26, 23, 24] rfl
                                    refine F_val rfl rfl rfl (O_move rfl rfl) ?_
                                    rcases Decidable.em (z786 = true) with c793 | c793
                                    · have H := of_pos H c793
                                      refine F_know (i := 153) rfl (congrArg Value.bool c793) ?_
                                      refine F_gval rfl rfl rfl rfl rfl rfl (O_move rfl rfl) ?_
                                      refine F_gval rfl rfl rfl rfl rfl rfl (O_move rfl rfl) ?_
                                      refine F_gval rfl rfl rfl rfl rfl rfl (O_move rfl rfl) ?_
                                      refine F_gval rfl rfl rfl rfl rfl rfl (O_move rfl rfl) ?_
                                      refine F_gval rfl rfl rfl rfl rfl rfl (O_move rfl rfl) ?_
                                      refine F_gval rfl rfl rfl rfl rfl rfl (O_idx rfl rfl rfl Try.underlying22 size3 g780 g781 (Cells.isA (HS790.cells_rd (i := 2) rfl) (rowC_ne (E := (Eint .i64)) g780 g781 (by decide)))) ?_
                                      refine F_gval rfl rfl rfl rfl rfl rfl (O_loadC rfl rfl flat3 (HS790.cells_rd (i := 2) rfl) (int_cell g780 g781)) ?_
                                      obtain ⟨⟨z798, z799, z800⟩, h797, H⟩ := of_bind H
                                      refine F_gcall (xs := [.tmp 154, .tmp 155, .tmp 156, .tmp 160]) rfl rfl rfl rfl rfl rfl rfl Try.func56 nm56 rfl rfl ((valiselaw5_reads.calls (HS790.give [23, 24] rfl (Lent.box HS790 (Lent.own HS790 (Lent.own HS790 (Lent.own HS790 (Lent.box HS790 (Lent.own HS790 (Lent.own HS790 (Lent.nil) (i := 8) rfl rfl ((HS790.cells_own (i := 8) rfl).self)) (i := 7) rfl rfl ((HS790.cells_own (i := 7) rfl).self)) (i := 6) rfl rfl (HS790.cells_box (i := 6) rfl).self) (i := 16) rfl rfl ((HS790.cells_own (i := 16) rfl).self)) (i := 15) rfl rfl ((HS790.cells_own (i := 15) rfl).self)) (i := 14) rfl rfl ((HS790.cells_own (i := 14) rfl).self)) (i := 13) rfl rfl (HS790.cells_box (i := 13) rfl).self)) h797).mono (fun e w hc => ?_))
                                      obtain ⟨A803, c804, rfl, HSo⟩ := hc
                                      refine ⟨.bool z798, rfl, ?_⟩
                                      have HS802 : Hp S0 w0 w [.rd A_one_0 (rowC (Eint .i64) l_one_0), .rd A_two_1 (rowC (Eint .i64) l_two_1), .rd A_symbols_2 (rowC (Eint .i64) l_symbols_2), .box g19 (([.slice A21 z264.length c22, .slice A24 z265.length c25] : List Value) ++ rowC (Eint .i64) z266 ++ rowC (Eint .i64) z267) 94, .own A21 c22 (rowC (Eint .i64) z264) 3 (Eint .i64).sz, .own A24 c25 (rowC (Eint .i64) z265) 3 (Eint .i64).sz, .box g45 (([.slice A47 z269.length c48, .slice A50 z270.length c51] : List Value) ++ rowC (Eint .i64) z271 ++ rowC (Eint .i64) z272) 94, .own A47 c48 (rowC (Eint .i64) z269) 3 (Eint .i64).sz, .own A50 c51 (rowC (Eint .i64) z270) 3 (Eint .i64).sz, .box g72 (([.slice A74 z274.length c75, .slice A77 z275.length c78] : List Value) ++ rowC (Eint .i64) z276 ++ rowC (Eint .i64) z277 ++ ([.slice A80 z278.length c81] : List Value)) 108, .own A74 c75 (rowC (Eint .i64) z274) 3 (Eint .i64).sz, .own A77 c78 (rowC (Eint .i64) z275) 3 (Eint .i64).sz, .own A80 c81 (rowC (Eint .i64) z278) 3 (Eint .i64).sz, .box g101 (([.slice A103 z280.length c104, .slice A106 z281.length c107] : List Value) ++ rowC (Eint .i64) z282 ++ rowC (Eint .i64) z283 ++ ([.slice A109 z284.length c110] : List Value)) 108, .own A103 c104 (rowC (Eint .i64) z280) 3 (Eint .i64).sz, .own A106 c107 (rowC (Eint .i64) z281) 3 (Eint .i64).sz, .own A109 c110 (rowC (Eint .i64) z284) 3 (Eint .i64).sz, .box g189 [.slice A393 l395.length c394, .int .i64 y399] 98, .own A393 c394 (rowC (Eint .u8) l395) 5 (Eint .u8).sz, .box g202 [.slice A396 l398.length c397, .int .i64 y400] 98, .own A396 c397 (rowC (Eint .u8) l398) 5 (Eint .u8).sz, .box g526 [.slice A791 z787.length c792, .int .i64 z788] 112, .own A791 c792 (rowC (Eint .u8) z787) 5 (Eint .u8).sz, .box g548 [.slice A803 z799.length c804, .int .i64 z800] 112, .own A803 c804 (rowC (Eint .u8) z799) 5 (Eint .u8).sz] := (HS790.back [23, 24] HSo rfl).sel [0, 1, 2, 3, 4, 5, 6, 7, 8, 9, 10, 11, 12, 13, 14, 15, 16, 17, 18, 19, 20, 21, 22, 25, 26] rfl
                                      refine F_val rfl rfl rfl (O_pickT rfl rfl rfl) ?_
                                      refine F_val rfl rfl rfl (O_assign rfl rfl) ?_
                                      refine F_nil ?_
                                      refine L_seq ?_
                                      refine L_region ?_
                                      refine F_val rfl rfl rfl (O_move rfl rfl) ?_
                                      refine F_val rfl rfl rfl (O_notb rfl rfl) ?_
                                      refine F_nil ?_
                                      refine L_cond rfl (fun c805 => ?_) (fun c805 => ?_)
                                      · have H := of_pos H c805
                                        refine L_seq ?_
                                        refine L_region ?_
                                        refine F_val rfl rfl rfl (O_assign rfl rfl) ?_
                                        refine F_nil ?_
                                        refine L_ret (fun a ha => (hO779 .ret a _ rfl (hOp766 .ret a _ rfl (hOb692 .ret a _ rfl (hOj567 .ret a _ rfl (post_ret1 ha rfl rfl ?_))))))
                                        obtain rfl := Option.some.inj H
                                        obtain rfl := Option.some.inj (show (some false : Option (Bool)) = some _ from HOj567)
                                        exact ⟨rfl, HS802.sel [] rfl⟩
                                      · have H := of_neg H (by rw [c805]; exact Bool.false_ne_true)
                                        refine L_skip ?_
                                        refine L_endB hN779 ?_
                                        refine L_region ?_
                                        refine F_val rfl rfl rfl (O_move rfl rfl) ?_
                                        refine F_val rfl rfl rfl (O_add rfl rfl rfl) ?_
                                        obtain ⟨x806, h807, H⟩ := of_bnd H
                                        refine F_val rfl rfl rfl (O_assign' rfl rfl (congrArg (Value.int .i64) h807)) ?_
                                        refine F_nil ?_
                                        refine L_nil (fun a ha => hNp766 _ a _ (Nat.lt_succ_self _) ⟨_, _, _, _, _, _, _, _, _, Is.cons ha (Is.cons ha (Is.cons ha (Is.cons ha (Is.cons ha (Is.cons ha (Is.cons ha (Is.cons ha (Is.cons ha (Is.cons ha (Is.nil ha) rfl) rfl) rfl) rfl) rfl) rfl) rfl) rfl) rfl) rfl, HS802.sel [0, 1, 2, 3, 4, 5, 6, 7, 8, 9, 10, 11, 12, 13, 14, 15, 16, 17, 18, 19, 20, 21, 22, 23, 24] rfl, H⟩)
                                    · have H := of_neg H c793
                                      refine F_know (i := 153) rfl (congrArg Value.bool (Bool.eq_false_iff.mpr c793)) ?_
                                      refine F_gskip rfl rfl rfl rfl rfl rfl rfl ?_
                                      refine F_gskip rfl rfl rfl rfl rfl rfl rfl ?_
                                      refine F_gskip rfl rfl rfl rfl rfl rfl rfl ?_
                                      refine F_gskip rfl rfl rfl rfl rfl rfl rfl ?_
                                      refine F_gskip rfl rfl rfl rfl rfl rfl rfl ?_
                                      refine F_gskip rfl rfl rfl rfl rfl rfl rfl ?_
                                      refine F_gskip rfl rfl rfl rfl rfl rfl rfl ?_
                                      refine F_gskip rfl rfl rfl rfl rfl rfl rfl ?_
                                      refine F_val rfl rfl rfl (O_pickF rfl rfl rfl) ?_
                                      refine F_val rfl rfl rfl (O_assign rfl rfl) ?_
                                      refine F_nil ?_
                                      refine L_seq ?_
                                      refine L_region ?_
                                      refine F_val rfl rfl rfl (O_move rfl rfl) ?_
                                      refine F_val rfl rfl rfl (O_notb rfl rfl) ?_
                                      refine F_nil ?_
                                      refine L_cond rfl (fun _ => ?_) (fun hx => by cases hx)
                                      refine L_seq ?_
                                      refine L_region ?_
                                      refine F_val rfl rfl rfl (O_assign rfl rfl) ?_
                                      refine F_nil ?_
                                      refine L_ret (fun a ha => (hO779 .ret a _ rfl (hOp766 .ret a _ rfl (hOb692 .ret a _ rfl (hOj567 .ret a _ rfl (post_ret1 ha rfl rfl ?_))))))
                                      obtain rfl := Option.some.inj H
                                      obtain rfl := Option.some.inj (show (some false : Option (Bool)) = some _ from HOj567)
                                      exact ⟨rfl, HS790.sel [] rfl⟩
                                  · have H := of_neg H c778
                                    refine L_exitB (fun a w h => hOp766 (.exit 2) a w rfl (hXb692 a w h)) ?_
                                    refine L_nil (fun a ha => hNj567 a _ ⟨_, _, _, _, _, _, _, _, (Option.some.inj H).symm, Is.cons ha (Is.cons ha (Is.cons ha (Is.cons ha (Is.nil ha) rfl) rfl) rfl) rfl, HS777.sel [0, 1, 2, 17, 18, 19, 20, 21, 22, 23, 24] rfl⟩)
                              · obtain ⟨l686, l689, y690, y691, A684, c685, A687, c688, rfl, ha, HS809⟩ := hR
                                refine wpLF_app ?_ ha
                                have H := (onR_inr _ _ _).symm.trans H
                                refine L_seq ?_
                                refine L_region ?_
                                refine F_val rfl rfl rfl (O_move rfl rfl) ?_
                                obtain ⟨z812, h811, H⟩ := of_bind H
                                refine F_qcall (v := .int .i64 z812) (xs := [.tmp 165]) rfl rfl rfl rfl Try.func53 nm53 rfl rfl ((bits_Reader_At.calls (HS809.give [] rfl (Lent.box HS809 (Lent.own HS809 (Lent.nil) (i := 8) rfl rfl ((HS809.cells_own (i := 8) rfl).self)) (i := 7) rfl rfl (HS809.cells_box (i := 7) rfl).self)) h811).mono (fun e w hc => ?_)) (fun w813 hw814 => ?_)
                                · obtain ⟨rfl, h⟩ := hc
                                  exact ⟨rfl, h.chg0⟩
                                have HS815 := HS809.keep hw814
                                refine F_val rfl rfl rfl (O_move rfl rfl) ?_
                                obtain ⟨z818, h817, H⟩ := of_bind H
                                refine F_qcall (v := .int .i64 z818) (xs := [.tmp 167]) rfl rfl rfl rfl Try.func40 nm40 rfl rfl ((bits_Writer_Len.calls (HS815.give [] rfl (Lent.box HS815 (Lent.own HS815 (Lent.nil) (i := 4) rfl rfl ((HS815.cells_own (i := 4) rfl).self)) (i := 3) rfl rfl (HS815.cells_box (i := 3) rfl).self)) h817).mono (fun e w hc => ?_)) (fun w819 hw820 => ?_)
                                · obtain ⟨rfl, h⟩ := hc
                                  exact ⟨rfl, h.chg0⟩
                                have HS821 := HS815.keep hw820
                                refine F_val rfl rfl rfl (O_eq rfl rfl rfl) ?_
                                refine F_val rfl rfl rfl (O_move rfl rfl) ?_
                                obtain ⟨b834, Hb834, H⟩ := of_bind H
                                refine F_grpQ 6 [(176, .bool b834)] ?_ (fun w835 hw836 => ?_)
                                · rcases Decidable.em (z812 = z818) with c838 | c838
                                  · refine F_know (i := 170) rfl (dec_t c838) ?_
                                    have H := of_pos Hb834 c838
                                    refine F_gval rfl rfl rfl rfl rfl rfl (O_move rfl rfl) ?_
                                    obtain ⟨z841, h840, H⟩ := of_bind H
                                    refine F_gqcall (v := .int .i64 z841) (xs := [.tmp 171]) rfl rfl rfl rfl rfl rfl rfl Try.func53 nm53 rfl rfl ((bits_Reader_At.calls (HS821.give [] rfl (Lent.box HS821 (Lent.own HS821 (Lent.nil) (i := 10) rfl rfl ((HS821.cells_own (i := 10) rfl).self)) (i := 9) rfl rfl (HS821.cells_box (i := 9) rfl).self)) h840).mono (fun e w hc => ?_)) (fun w842 hw843 => ?_)
                                    · obtain ⟨rfl, h⟩ := hc
                                      exact ⟨rfl, h.chg0⟩
                                    have HS844 := HS821.keep hw843
                                    refine F_gval rfl rfl rfl rfl rfl rfl (O_move rfl rfl) ?_
                                    obtain ⟨z847, h846, H⟩ := of_bind H
                                    refine F_gqcall (v := .int .i64 z847) (xs := [.tmp 173]) rfl rfl rfl rfl rfl rfl rfl Try.func40 nm40 rfl rfl ((bits_Writer_Len.calls (HS844.give [] rfl (Lent.box HS844 (Lent.own HS844 (Lent.nil) (i := 6) rfl rfl ((HS844.cells_own (i := 6) rfl).self)) (i := 5) rfl rfl (HS844.cells_box (i := 5) rfl).self)) h846).mono (fun e w hc => ?_)) (fun w848 hw849 => ?_)
                                    · obtain ⟨rfl, h⟩ := hc
                                      exact ⟨rfl, h.chg0⟩
                                    have HS850 := HS844.keep hw849
                                    refine F_gval rfl rfl rfl rfl rfl rfl (O_eq rfl rfl rfl) ?_
                                    refine F_val rfl rfl rfl (O_pickT rfl rfl rfl) ?_
                                    refine F_know (i := 176) rfl (congrArg Value.bool (Option.some.inj H)) ?_
                                    exact F_grpQE (((Chg.refl NoB _).trans hw843).trans hw849) (fun a ha => Is.cons ha (Is.nil ha) rfl)
                                  · refine F_know (i := 170) rfl (dec_f c838) ?_
                                    have H := of_neg Hb834 c838
                                    refine F_gskip rfl rfl rfl rfl rfl rfl rfl ?_
                                    refine F_gskip rfl rfl rfl rfl rfl rfl rfl ?_
                                    refine F_gskip rfl rfl rfl rfl rfl rfl rfl ?_
                                    refine F_gskip rfl rfl rfl rfl rfl rfl rfl ?_
                                    refine F_gskip rfl rfl rfl rfl rfl rfl rfl ?_
                                    refine F_val rfl rfl rfl (O_pickF rfl rfl rfl) ?_
                                    refine F_know (i := 176) rfl (congrArg Value.bool (Option.some.inj H)) ?_
                                    exact F_grpQE (Chg.refl NoB _) (fun a ha => Is.cons ha (Is.nil ha) rfl)
                                · have HS837 := HS821.keep hw836
                                  refine F_val rfl rfl rfl (O_assign rfl rfl) ?_
                                  refine F_nil ?_
                                  refine L_ret (fun a ha => (post_ret1 ha rfl rfl ?_))
                                  obtain rfl := Option.some.inj H
                                  exact ⟨rfl, HS837.sel [] rfl⟩

end Go.Proofs.Ytfglehdaimgaeaa
