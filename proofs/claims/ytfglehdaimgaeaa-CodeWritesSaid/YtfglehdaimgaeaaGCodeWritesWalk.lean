import Derived.Test.YtfglehdaimgaeaaGCodeWritesWalk1
set_option linter.unusedVariables false
set_option linter.unusedSimpArgs false
set_option maxRecDepth 10000
set_option maxHeartbeats 1000000
namespace Go.Proofs.Ytfglehdaimgaeaa
open Go Go.V Go.V.Pu
/-! function 7: valise/valiselaw5.CodeWrites -/
theorem valiselaw5_CodeWrites.calls {S0 : Nat → Prop} {w0 : World} {A_lens_0 : Option Addr} {c_lens_0 : Nat} {A_symbols_2 : Option Addr} {c_symbols_2 : Nat} {l_lens_0 : List Int} {lead_1 : Int} {l_symbols_2 : List Int} {r : Bool} (HS0 : Hp S0 w0 w0 [.rd A_lens_0 (rowC (Eint .i64) l_lens_0), .rd A_symbols_2 (rowC (Eint .i64) l_symbols_2)]) (hc_lens_0 : l_lens_0.length ≤ c_lens_0) (hc_symbols_2 : l_symbols_2.length ≤ c_symbols_2) (h : valiselaw5_CodeWrites.f l_lens_0 lead_1 l_symbols_2 = some r) :
    Calls Try.prog 7 ([.slice A_lens_0 l_lens_0.length c_lens_0, .int .i64 lead_1, .slice A_symbols_2 l_symbols_2.length c_symbols_2] : List Value).toArray w0 (fun e w => e = .returned (.bool r) ∧ Hp S0 w0 w []) := by
  have H : (((valiselaw5_framed.f l_lens_0).bind fun z5 => gd ((0 : Int) ≤ (l_lens_0.length : Int) ∧ (l_lens_0.length : Int) ≤ (z5.length : Int)) ((code_NewEncoder.f (z5.take ((l_lens_0.length : Int) : Int).toNat)).bind fun (z17, z18) => (valiseref5_NewEncoder.f l_lens_0).bind fun (z33, z34) => (if z18 ≠ z34 then (some true) else (some (!(z17.isNone == z33.isNone)))).bind fun b51 => (if b51 = true then (some true) else ((valiselaw5_whole.f z5 l_lens_0).bind fun z69 => some (!z69))).bind fun b62 => if b62 = true then (some false) else ((if z17.isNone = true then (some true) else (some z33.isNone)).bind fun b75 => if b75 = true then (some true) else ((valiselaw5_spoil_v0.f z5 (((l_lens_0.length : Int) : Int).toNat)).bind fun z86 => (bits_NewWriter.f).bind fun (z95, z96) => (valiseref3_NewWriter.f).bind fun z108 => (bits_Writer_Put.f z95 z96 0 lead_1).bind fun (z120, z121, z122) => (valiseref3_Writer_Put.f z108 0 lead_1).bind fun (z131, z132) => onO z17 none fun (z137, z138, z139, z140) => onO z33 none fun (z142, z143) => (valiselaw5_CodeWrites.l1 FU z121 z132 z122 0 l_symbols_2 z137 z138 z139 z140 z142 z143).bind fun (yj145 : Sum (Bool) (List Int × List Int × Int)) => onR yj145 (fun r => some r) fun (l374, l377, y378) => (bits_Writer_Bytes.f l374 y378).bind fun z611 => (valiseref3_Writer_Bytes.f l377).bind fun z621 => (valiselaw5_sameBytes.f z611 z621).bind fun z629 => some z629)))) : Option (Bool)) = some r := h
  refine calls_start Try.func7 rfl rfl ?_
  refine L_seq ?_
  refine L_region ?_
  refine F_val rfl rfl rfl (O_assign rfl rfl) ?_
  refine F_nil ?_
  refine L_seq ?_
  refine L_region ?_
  refine F_val rfl rfl rfl (O_move rfl rfl) ?_
  obtain ⟨z5, h4, H⟩ := of_bind H
  refine F_call (xs := [.tmp 18]) rfl rfl rfl rfl Try.func20 nm20 rfl rfl ((valiselaw5_framed.calls (HS0.give [] rfl (Lent.rd HS0 (Lent.nil) (i := 0) rfl ((HS0.cells_rd (i := 0) rfl).self))) hc_lens_0 h4).mono (fun e w hc => ?_))
  obtain ⟨A8, c9, rfl, HSo⟩ := hc
  refine ⟨.slice A8 z5.length c9, rfl, ?_⟩
  have HS7 : Hp S0 w0 w [.rd A_lens_0 (rowC (Eint .i64) l_lens_0), .rd A_symbols_2 (rowC (Eint .i64) l_symbols_2), .own A8 c9 (rowC (Eint .i64) z5) 3 (Eint .i64).sz] := (HS0.back [] HSo rfl).sel [0, 1, 2] rfl
  refine F_val rfl rfl rfl (O_assign rfl rfl) ?_
  refine F_nil ?_
  refine L_seq ?_
  refine L_region ?_
  refine F_val rfl rfl rfl (O_move rfl rfl) ?_
  refine F_val rfl rfl rfl (O_move rfl rfl) ?_
  refine F_val rfl rfl rfl (O_len rfl rfl Try.underlying22) ?_
  obtain ⟨⟨g11, g12⟩, H⟩ := of_gd H
  refine F_val rfl rfl rfl (O_toE z5 rfl rfl rfl Try.underlying22 size3 g11 g12 (HS7.own_capE (i := 2) rfl (by decide))) ?_
  refine F_val rfl rfl rfl (O_assign rfl rfl) ?_
  refine F_nil ?_
  refine L_seq ?_
  refine L_region ?_
  refine F_val rfl rfl rfl (O_move rfl rfl) ?_
  obtain ⟨⟨z17, z18⟩, h16, H⟩ := of_bind H
  refine F_call (xs := [.tmp 25]) rfl rfl rfl rfl Try.func30 nm30 rfl rfl ((code_NewEncoder.calls (HS7.give [] rfl (Lent.own HS7 (Lent.nil) (i := 2) rfl rfl (Cells.take (HS7.cells_own (i := 2) rfl) ((l_lens_0.length : Int) : Int).toNat))) (Nat.le_trans (List.length_take_le' _ _) (HS7.own_capE (i := 2) rfl (by decide))) h16).mono (fun e w hc => ?_))
  obtain ⟨g21, A23, c24, A26, c27, rfl, HSo⟩ := hc
  refine ⟨.tuple #[oV z17 g21, .int .i64 z18], rfl, ?_⟩
  have HS20 : Hp S0 w0 w [.rd A_lens_0 (rowC (Eint .i64) l_lens_0), .rd A_symbols_2 (rowC (Eint .i64) l_symbols_2), .own A8 c9 (rowC (Eint .i64) z5) 3 (Eint .i64).sz, oR z17 (fun x => .box g21 (([.slice A23 x.1.length c24, .slice A26 x.2.1.length c27] : List Value) ++ rowC (Eint .i64) x.2.2.1 ++ rowC (Eint .i64) x.2.2.2) 94), oR z17 (fun x => .own A23 c24 (rowC (Eint .i64) x.1) 3 (Eint .i64).sz), oR z17 (fun x => .own A26 c27 (rowC (Eint .i64) x.2.1) 3 (Eint .i64).sz)] := (HS7.back [] HSo (by cases z17 <;> rfl)).sel [0, 1, 2, 3, 4, 5] rfl
  refine F_val rfl rfl rfl (O_move rfl rfl) ?_
  refine F_val rfl rfl rfl (O_extract (v := oV z17 g21) rfl rfl rfl) ?_
  refine F_val rfl rfl rfl (O_extract (v := .int .i64 z18) rfl rfl rfl) ?_
  refine F_val rfl rfl rfl (O_assign rfl rfl) ?_
  refine F_val rfl rfl rfl (O_assign rfl rfl) ?_
  refine F_nil ?_
  refine L_seq ?_
  refine L_region ?_
  refine F_val rfl rfl rfl (O_move rfl rfl) ?_
  obtain ⟨⟨z33, z34⟩, h32, H⟩ := of_bind H
  refine F_call (xs := [.tmp 30]) rfl rfl rfl rfl Try.func31 nm31 rfl rfl ((valiseref5_NewEncoder.calls (HS20.give [] rfl (Lent.rd HS20 (Lent.nil) (i := 0) rfl ((HS20.cells_rd (i := 0) rfl).self))) hc_lens_0 h32).mono (fun e w hc => ?_))
  obtain ⟨g37, A39, c40, A42, c43, rfl, HSo⟩ := hc
  refine ⟨.tuple #[oV z33 g37, .int .i64 z34], rfl, ?_⟩
  have HS36 : Hp S0 w0 w [.rd A_lens_0 (rowC (Eint .i64) l_lens_0), .rd A_symbols_2 (rowC (Eint .i64) l_symbols_2), .own A8 c9 (rowC (Eint .i64) z5) 3 (Eint .i64).sz, oR z17 (fun x => .box g21 (([.slice A23 x.1.length c24, .slice A26 x.2.1.length c27] : List Value) ++ rowC (Eint .i64) x.2.2.1 ++ rowC (Eint .i64) x.2.2.2) 94), oR z17 (fun x => .own A23 c24 (rowC (Eint .i64) x.1) 3 (Eint .i64).sz), oR z17 (fun x => .own A26 c27 (rowC (Eint .i64) x.2.1) 3 (Eint .i64).sz), oR z33 (fun x => .box g37 [.slice A39 x.1.length c40, .slice A42 x.2.length c43] 96), oR z33 (fun x => .own A39 c40 (rowC (Eint .i64) x.1) 3 (Eint .i64).sz), oR z33 (fun x => .own A42 c43 (rowC (Eint .i64) x.2) 3 (Eint .i64).sz)] := (HS20.back [] HSo (by cases z33 <;> rfl)).sel [0, 1, 2, 3, 4, 5, 6, 7, 8] rfl
  refine F_val rfl rfl rfl (O_move rfl rfl) ?_
  refine F_val rfl rfl rfl (O_extract (v := oV z33 g37) rfl rfl rfl) ?_
  refine F_val rfl rfl rfl (O_extract (v := .int .i64 z34) rfl rfl rfl) ?_
  refine F_val rfl rfl rfl (O_assign rfl rfl) ?_
  refine F_val rfl rfl rfl (O_assign rfl rfl) ?_
  refine F_nil ?_
  refine L_seq ?_
  refine L_seq ?_
  refine L_region ?_
  refine F_val rfl rfl rfl (O_move rfl rfl) ?_
  refine F_qcall (v := .int .i64 z18) (xs := [.tmp 34]) rfl rfl rfl rfl Try.func23 nm23 rfl rfl ((valiselaw5_num.calls (HS36.give [] rfl (Lent.nil)) (rfl : valiselaw5_num.f z18 = some z18)).mono (fun e w hc => ?_)) (fun w48 hw49 => ?_)
  · obtain ⟨rfl, h⟩ := hc
    exact ⟨rfl, h.chg0⟩
  have HS50 := HS36.keep hw49
  refine F_val rfl rfl rfl (O_move rfl rfl) ?_
  refine F_val rfl rfl rfl (O_ne rfl rfl rfl) ?_
  refine F_val rfl rfl rfl (O_move rfl rfl) ?_
  obtain ⟨b51, Hb51, H⟩ := of_bind H
  refine F_grp 6 [(44, .bool b51), (0, .slice A_lens_0 l_lens_0.length c_lens_0), (1, .int .i64 lead_1), (2, .slice A_symbols_2 l_symbols_2.length c_symbols_2), (7, .slice A8 z5.length c9), (8, .slice A8 (z5.take ((l_lens_0.length : Int) : Int).toNat).length c9), (9, oV z17 g21), (11, oV z33 g37)] ?_ ?_
  · rcases Decidable.em (z18 ≠ z34) with c55 | c55
    · refine F_know (i := 38) rfl (dec_t c55) ?_
      have H := of_pos Hb51 c55
      refine F_gskip rfl rfl rfl rfl rfl rfl rfl ?_
      refine F_gskip rfl rfl rfl rfl rfl rfl rfl ?_
      refine F_gskip rfl rfl rfl rfl rfl rfl rfl ?_
      refine F_gskip rfl rfl rfl rfl rfl rfl rfl ?_
      refine F_gskip rfl rfl rfl rfl rfl rfl rfl ?_
      refine F_val rfl rfl rfl (O_pickT rfl rfl rfl) ?_
      refine F_know (i := 44) rfl (congrArg Value.bool (Option.some.inj H)) ?_
      exact F_grpE (fun a ha => Is.cons ha (Is.cons ha (Is.cons ha (Is.cons ha (Is.cons ha (Is.cons ha (Is.cons ha (Is.cons ha (Is.nil ha) rfl) rfl) rfl) rfl) rfl) rfl) rfl) rfl)
    · refine F_know (i := 38) rfl (dec_f c55) ?_
      have H := of_neg Hb51 c55
      refine F_gval rfl rfl rfl rfl rfl rfl (O_move rfl rfl) ?_
      refine F_gval rfl rfl rfl rfl rfl rfl (O_peqO rfl rfl rfl Try.underlying41) ?_
      refine F_gval rfl rfl rfl rfl rfl rfl (O_move rfl rfl) ?_
      refine F_gval rfl rfl rfl rfl rfl rfl (O_peqO rfl rfl rfl Try.underlying44) ?_
      refine F_gval rfl rfl rfl rfl rfl rfl (O_bne rfl rfl rfl Try.underlying4) ?_
      refine F_val rfl rfl rfl (O_pickF rfl rfl rfl) ?_
      refine F_know (i := 44) rfl (congrArg Value.bool (Option.some.inj H)) ?_
      exact F_grpE (fun a ha => Is.cons ha (Is.cons ha (Is.cons ha (Is.cons ha (Is.cons ha (Is.cons ha (Is.cons ha (Is.cons ha (Is.nil ha) rfl) rfl) rfl) rfl) rfl) rfl) rfl) rfl)
  · skip
    refine F_val rfl rfl rfl (O_move rfl rfl) ?_
    obtain ⟨b62, Hb62, H⟩ := of_bind H
    refine F_grpQ 5 [(50, .bool b62), (1, .int .i64 lead_1), (2, .slice A_symbols_2 l_symbols_2.length c_symbols_2), (8, .slice A8 (z5.take ((l_lens_0.length : Int) : Int).toNat).length c9), (9, oV z17 g21), (11, oV z33 g37)] ?_ (fun w63 hw64 => ?_)
    · rcases Decidable.em (b51 = true) with c66 | c66
      · refine F_know (i := 45) rfl (congrArg Value.bool c66) ?_
        have H := of_pos Hb62 c66
        refine F_gskip rfl rfl rfl rfl rfl rfl rfl ?_
        refine F_gskip rfl rfl rfl rfl rfl rfl rfl ?_
        refine F_gskip rfl rfl rfl rfl rfl rfl rfl ?_
        refine F_gskip rfl rfl rfl rfl rfl rfl rfl ?_
        refine F_val rfl rfl rfl (O_pickT rfl rfl rfl) ?_
        refine F_know (i := 50) rfl (congrArg Value.bool (Option.some.inj H)) ?_
        exact F_grpQE (Chg.refl NoB _) (fun a ha => Is.cons ha (Is.cons ha (Is.cons ha (Is.cons ha (Is.cons ha (Is.cons ha (Is.nil ha) rfl) rfl) rfl) rfl) rfl) rfl)
      · refine F_know (i := 45) rfl (congrArg Value.bool (Bool.eq_false_iff.mpr c66)) ?_
        have H := of_neg Hb62 c66
        refine F_gval rfl rfl rfl rfl rfl rfl (O_move rfl rfl) ?_
        refine F_gval rfl rfl rfl rfl rfl rfl (O_move rfl rfl) ?_
        obtain ⟨z69, h68, H⟩ := of_bind H
        refine F_gqcall (v := .bool z69) (xs := [.tmp 46, .tmp 47]) rfl rfl rfl rfl rfl rfl rfl Try.func24 nm24 rfl rfl ((valiselaw5_whole.calls (HS50.give [] rfl (Lent.own HS50 (Lent.rd HS50 (Lent.nil) (i := 0) rfl ((HS50.cells_rd (i := 0) rfl).self)) (i := 2) rfl rfl ((HS50.cells_own (i := 2) rfl).self))) (HS50.own_capE (i := 2) rfl (by decide)) hc_lens_0 h68).mono (fun e w hc => ?_)) (fun w70 hw71 => ?_)
        · obtain ⟨rfl, h⟩ := hc
          exact ⟨rfl, h.chg0⟩
        have HS72 := HS50.keep hw71
        refine F_gval rfl rfl rfl rfl rfl rfl (O_notb rfl rfl) ?_
        refine F_val rfl rfl rfl (O_pickF rfl rfl rfl) ?_
        refine F_know (i := 50) rfl (congrArg Value.bool (Option.some.inj H)) ?_
        exact F_grpQE ((Chg.refl NoB _).trans hw71) (fun a ha => Is.cons ha (Is.cons ha (Is.cons ha (Is.cons ha (Is.cons ha (Is.cons ha (Is.nil ha) rfl) rfl) rfl) rfl) rfl) rfl)
    · have HS65 := HS50.keep hw64
      refine F_nil ?_
      refine L_cond rfl (fun c73 => ?_) (fun c73 => ?_)
      · have H := of_pos H c73
        refine L_seq ?_
        have HS74 : Hp S0 w0 w63 [.rd A_lens_0 (rowC (Eint .i64) l_lens_0), .rd A_symbols_2 (rowC (Eint .i64) l_symbols_2)] := HS65.sel [0, 1] rfl
        refine L_region ?_
        refine F_val rfl rfl rfl (O_assign rfl rfl) ?_
        refine F_nil ?_
        refine L_ret (fun a ha => (post_ret1 ha rfl rfl ?_))
        obtain rfl := Option.some.inj H
        exact ⟨rfl, HS74.sel [] rfl⟩
      · have H := of_neg H (by rw [c73]; exact Bool.false_ne_true)
        refine L_skip ?_
        refine L_seq ?_
        refine L_seq ?_
        refine L_region ?_
        refine F_val rfl rfl rfl (O_move rfl rfl) ?_
        refine F_val rfl rfl rfl (O_peqO rfl rfl rfl Try.underlying41) ?_
        refine F_val rfl rfl rfl (O_move rfl rfl) ?_
        obtain ⟨b75, Hb75, H⟩ := of_bind H
        refine F_grp 3 [(56, .bool b75), (1, .int .i64 lead_1), (2, .slice A_symbols_2 l_symbols_2.length c_symbols_2), (8, .slice A8 (z5.take ((l_lens_0.length : Int) : Int).toNat).length c9), (9, oV z17 g21), (11, oV z33 g37)] ?_ ?_
        · rcases Decidable.em (z17.isNone = true) with c79 | c79
          · refine F_know (i := 53) rfl (congrArg Value.bool c79) ?_
            have H := of_pos Hb75 c79
            refine F_gskip rfl rfl rfl rfl rfl rfl rfl ?_
            refine F_gskip rfl rfl rfl rfl rfl rfl rfl ?_
            refine F_val rfl rfl rfl (O_pickT rfl rfl rfl) ?_
            refine F_know (i := 56) rfl (congrArg Value.bool (Option.some.inj H)) ?_
            exact F_grpE (fun a ha => Is.cons ha (Is.cons ha (Is.cons ha (Is.cons ha (Is.cons ha (Is.cons ha (Is.nil ha) rfl) rfl) rfl) rfl) rfl) rfl)
          · refine F_know (i := 53) rfl (congrArg Value.bool (Bool.eq_false_iff.mpr c79)) ?_
            have H := of_neg Hb75 c79
            refine F_gval rfl rfl rfl rfl rfl rfl (O_move rfl rfl) ?_
            refine F_gval rfl rfl rfl rfl rfl rfl (O_peqO rfl rfl rfl Try.underlying44) ?_
            refine F_val rfl rfl rfl (O_pickF rfl rfl rfl) ?_
            refine F_know (i := 56) rfl (congrArg Value.bool (Option.some.inj H)) ?_
            exact F_grpE (fun a ha => Is.cons ha (Is.cons ha (Is.cons ha (Is.cons ha (Is.cons ha (Is.cons ha (Is.nil ha) rfl) rfl) rfl) rfl) rfl) rfl)
        · skip
          refine F_nil ?_
          refine L_cond rfl (fun c80 => ?_) (fun c80 => ?_)
          · have H := of_pos H c80
            refine L_seq ?_
            have HS81 : Hp S0 w0 w63 [.rd A_lens_0 (rowC (Eint .i64) l_lens_0), .rd A_symbols_2 (rowC (Eint .i64) l_symbols_2)] := HS65.sel [0, 1] rfl
            refine L_region ?_
            refine F_val rfl rfl rfl (O_assign rfl rfl) ?_
            refine F_nil ?_
            refine L_ret (fun a ha => (post_ret1 ha rfl rfl ?_))
            obtain rfl := Option.some.inj H
            exact ⟨rfl, HS81.sel [] rfl⟩
          · have H := of_neg H (by rw [c80]; exact Bool.false_ne_true)
            refine L_skip ?_
            refine L_seq ?_
            refine L_region ?_
            refine F_val rfl rfl rfl (O_move rfl rfl) ?_
            obtain ⟨z86, h85, H⟩ := of_bind H
            refine F_call (xs := [.tmp 57]) rfl rfl rfl rfl Try.func18 nm18 rfl rfl ((valiselaw5_spoil_v0.calls (HS65.give [2] rfl (Lent.nil)) h85).mono (fun e w hc => ?_))
            obtain ⟨rfl, HSo, hl89⟩ := hc
            refine ⟨.tuple #[], rfl, ?_⟩
            have HS88 : Hp S0 w0 w [.rd A_lens_0 (rowC (Eint .i64) l_lens_0), .rd A_symbols_2 (rowC (Eint .i64) l_symbols_2), .own A8 c9 (rowC (Eint .i64) z86) 3 (Eint .i64).sz, oR z17 (fun x => .box g21 (([.slice A23 x.1.length c24, .slice A26 x.2.1.length c27] : List Value) ++ rowC (Eint .i64) x.2.2.1 ++ rowC (Eint .i64) x.2.2.2) 94), oR z17 (fun x => .own A23 c24 (rowC (Eint .i64) x.1) 3 (Eint .i64).sz), oR z17 (fun x => .own A26 c27 (rowC (Eint .i64) x.2.1) 3 (Eint .i64).sz), oR z33 (fun x => .box g37 [.slice A39 x.1.length c40, .slice A42 x.2.length c43] 96), oR z33 (fun x => .own A39 c40 (rowC (Eint .i64) x.1) 3 (Eint .i64).sz), oR z33 (fun x => .own A42 c43 (rowC (Eint .i64) x.2) 3 (Eint .i64).sz)] := (HS65.back [2] HSo rfl).sel [0, 1, 9, 3, 4, 5, 6, 7, 8] rfl
            have e90 : z5.length = z86.length := hl89.symm
            refine F_know (i := 8) rfl (congrArg (fun n => Value.slice A8 n c9) (take_len e90 ((l_lens_0.length : Int) : Int).toNat)) ?_
            refine F_nil ?_
            refine L_seq ?_
            refine L_region ?_
            obtain ⟨⟨z95, z96⟩, h94, H⟩ := of_bind H
            refine F_call (xs := []) rfl rfl rfl rfl Try.func32 nm32 rfl rfl ((bits_NewWriter.calls (HS88.give [] rfl (Lent.nil)) h94).mono (fun e w hc => ?_))
            obtain ⟨g99, A101, c102, rfl, HSo⟩ := hc
            refine ⟨.pointer (some ⟨g99, 0, none⟩), rfl, ?_⟩
            have HS98 : Hp S0 w0 w [.rd A_lens_0 (rowC (Eint .i64) l_lens_0), .rd A_symbols_2 (rowC (Eint .i64) l_symbols_2), .own A8 c9 (rowC (Eint .i64) z86) 3 (Eint .i64).sz, oR z17 (fun x => .box g21 (([.slice A23 x.1.length c24, .slice A26 x.2.1.length c27] : List Value) ++ rowC (Eint .i64) x.2.2.1 ++ rowC (Eint .i64) x.2.2.2) 94), oR z17 (fun x => .own A23 c24 (rowC (Eint .i64) x.1) 3 (Eint .i64).sz), oR z17 (fun x => .own A26 c27 (rowC (Eint .i64) x.2.1) 3 (Eint .i64).sz), oR z33 (fun x => .box g37 [.slice A39 x.1.length c40, .slice A42 x.2.length c43] 96), oR z33 (fun x => .own A39 c40 (rowC (Eint .i64) x.1) 3 (Eint .i64).sz), oR z33 (fun x => .own A42 c43 (rowC (Eint .i64) x.2) 3 (Eint .i64).sz), .box g99 [.slice A101 z95.length c102, .int .i64 z96] 98, .own A101 c102 (rowC (Eint .u8) z95) 5 (Eint .u8).sz] := (HS88.back [] HSo rfl).sel [0, 1, 2, 3, 4, 5, 6, 7, 8, 9, 10] rfl
            refine F_val rfl rfl rfl (O_assign rfl rfl) ?_
            refine F_nil ?_
            refine L_seq ?_
            refine L_region ?_
            obtain ⟨z108, h107, H⟩ := of_bind H
            refine F_call (xs := []) rfl rfl rfl rfl Try.func33 nm33 rfl rfl ((valiseref3_NewWriter.calls (HS98.give [] rfl (Lent.nil)) h107).mono (fun e w hc => ?_))
            obtain ⟨g111, A113, c114, rfl, HSo⟩ := hc
            refine ⟨.pointer (some ⟨g111, 0, none⟩), rfl, ?_⟩
            have HS110 : Hp S0 w0 w [.rd A_lens_0 (rowC (Eint .i64) l_lens_0), .rd A_symbols_2 (rowC (Eint .i64) l_symbols_2), .own A8 c9 (rowC (Eint .i64) z86) 3 (Eint .i64).sz, oR z17 (fun x => .box g21 (([.slice A23 x.1.length c24, .slice A26 x.2.1.length c27] : List Value) ++ rowC (Eint .i64) x.2.2.1 ++ rowC (Eint .i64) x.2.2.2) 94), oR z17 (fun x => .own A23 c24 (rowC (Eint .i64) x.1) 3 (Eint .i64).sz), oR z17 (fun x => .own A26 c27 (rowC (Eint .i64) x.2.1) 3 (Eint .i64).sz), oR z33 (fun x => .box g37 [.slice A39 x.1.length c40, .slice A42 x.2.length c43] 96), oR z33 (fun x => .own A39 c40 (rowC (Eint .i64) x.1) 3 (Eint .i64).sz), oR z33 (fun x => .own A42 c43 (rowC (Eint .i64) x.2) 3 (Eint .i64).sz), .box g99 [.slice A101 z95.length c102, .int .i64 z96] 98, .own A101 c102 (rowC (Eint .u8) z95) 5 (Eint .u8).sz, .box g111 [.slice A113 z108.length c114] 100, .own A113 c114 (rowC (Eint .u8) z108) 5 (Eint .u8).sz] := (HS98.back [] HSo rfl).sel [0, 1, 2, 3, 4, 5, 6, 7, 8, 9, 10, 11, 12] rfl
            refine F_val rfl rfl rfl (O_assign rfl rfl) ?_
            refine F_nil ?_
            refine L_seq ?_
            refine L_seq ?_
            refine L_region ?_
            refine F_val rfl rfl rfl (O_move rfl rfl) ?_
            refine F_val rfl rfl rfl (O_peq rfl rfl rfl Try.underlying47) ?_
            refine F_nil ?_
            refine L_cond rfl (fun hx => by cases hx) (fun _ => ?_)
            refine L_skip ?_
            refine L_seq ?_
            refine L_region ?_
            refine F_val rfl rfl rfl (O_move rfl rfl) ?_
            refine F_val rfl rfl rfl (O_move rfl rfl) ?_
            obtain ⟨⟨z120, z121, z122⟩, h119, H⟩ := of_bind H
            refine F_call (xs := [.tmp 63, .const (.int .u32 0), .tmp 64]) rfl rfl rfl rfl Try.func34 nm34 rfl rfl ((bits_Writer_Put.calls (HS110.give [9, 10] rfl (Lent.nil)) h119).mono (fun e w hc => ?_))
            obtain ⟨A125, c126, rfl, HSo⟩ := hc
            refine ⟨.int .i64 z120, rfl, ?_⟩
            have HS124 : Hp S0 w0 w [.rd A_lens_0 (rowC (Eint .i64) l_lens_0), .rd A_symbols_2 (rowC (Eint .i64) l_symbols_2), .own A8 c9 (rowC (Eint .i64) z86) 3 (Eint .i64).sz, oR z17 (fun x => .box g21 (([.slice A23 x.1.length c24, .slice A26 x.2.1.length c27] : List Value) ++ rowC (Eint .i64) x.2.2.1 ++ rowC (Eint .i64) x.2.2.2) 94), oR z17 (fun x => .own A23 c24 (rowC (Eint .i64) x.1) 3 (Eint .i64).sz), oR z17 (fun x => .own A26 c27 (rowC (Eint .i64) x.2.1) 3 (Eint .i64).sz), oR z33 (fun x => .box g37 [.slice A39 x.1.length c40, .slice A42 x.2.length c43] 96), oR z33 (fun x => .own A39 c40 (rowC (Eint .i64) x.1) 3 (Eint .i64).sz), oR z33 (fun x => .own A42 c43 (rowC (Eint .i64) x.2) 3 (Eint .i64).sz), .box g99 [.slice A125 z121.length c126, .int .i64 z122] 98, .own A125 c126 (rowC (Eint .u8) z121) 5 (Eint .u8).sz, .box g111 [.slice A113 z108.length c114] 100, .own A113 c114 (rowC (Eint .u8) z108) 5 (Eint .u8).sz] := (HS110.back [9, 10] HSo rfl).sel [0, 1, 2, 3, 4, 5, 6, 7, 8, 13, 14, 11, 12] rfl
            refine F_nil ?_
            refine L_seq ?_
            refine L_region ?_
            refine F_val rfl rfl rfl (O_move rfl rfl) ?_
            refine F_val rfl rfl rfl (O_move rfl rfl) ?_
            obtain ⟨⟨z131, z132⟩, h130, H⟩ := of_bind H
            refine F_call (xs := [.tmp 66, .const (.int .u32 0), .tmp 67]) rfl rfl rfl rfl Try.func35 nm35 rfl rfl ((valiseref3_Writer_Put.calls (HS124.give [11, 12] rfl (Lent.nil)) h130).mono (fun e w hc => ?_))
            obtain ⟨A135, c136, rfl, HSo⟩ := hc
            refine ⟨.int .i64 z131, rfl, ?_⟩
            have HS134 : Hp S0 w0 w [.rd A_lens_0 (rowC (Eint .i64) l_lens_0), .rd A_symbols_2 (rowC (Eint .i64) l_symbols_2), .own A8 c9 (rowC (Eint .i64) z86) 3 (Eint .i64).sz, oR z17 (fun x => .box g21 (([.slice A23 x.1.length c24, .slice A26 x.2.1.length c27] : List Value) ++ rowC (Eint .i64) x.2.2.1 ++ rowC (Eint .i64) x.2.2.2) 94), oR z17 (fun x => .own A23 c24 (rowC (Eint .i64) x.1) 3 (Eint .i64).sz), oR z17 (fun x => .own A26 c27 (rowC (Eint .i64) x.2.1) 3 (Eint .i64).sz), oR z33 (fun x => .box g37 [.slice A39 x.1.length c40, .slice A42 x.2.length c43] 96), oR z33 (fun x => .own A39 c40 (rowC (Eint .i64) x.1) 3 (Eint .i64).sz), oR z33 (fun x => .own A42 c43 (rowC (Eint .i64) x.2) 3 (Eint .i64).sz), .box g99 [.slice A125 z121.length c126, .int .i64 z122] 98, .own A125 c126 (rowC (Eint .u8) z121) 5 (Eint .u8).sz, .box g111 [.slice A135 z132.length c136] 100, .own A135 c136 (rowC (Eint .u8) z132) 5 (Eint .u8).sz] := (HS124.back [11, 12] HSo rfl).sel [0, 1, 2, 3, 4, 5, 6, 7, 8, 9, 10, 13, 14] rfl
            refine F_nil ?_
            refine L_seq ?_
            refine L_seq ?_
            refine L_region ?_
            refine F_val rfl rfl rfl (O_assign rfl rfl) ?_
            refine F_nil ?_
            rcases z17 with _ | ⟨z137, z138, z139, z140⟩
            · cases (show (none : Option _) = some _ from (onO_none _ _).symm.trans H)
            have H := (onO_some _ _ _).symm.trans H
            have HS141 : Hp S0 w0 w [.rd A_lens_0 (rowC (Eint .i64) l_lens_0), .rd A_symbols_2 (rowC (Eint .i64) l_symbols_2), .own A8 c9 (rowC (Eint .i64) z86) 3 (Eint .i64).sz, .box g21 (([.slice A23 z137.length c24, .slice A26 z138.length c27] : List Value) ++ rowC (Eint .i64) z139 ++ rowC (Eint .i64) z140) 94, .own A23 c24 (rowC (Eint .i64) z137) 3 (Eint .i64).sz, .own A26 c27 (rowC (Eint .i64) z138) 3 (Eint .i64).sz, oR z33 (fun x => .box g37 [.slice A39 x.1.length c40, .slice A42 x.2.length c43] 96), oR z33 (fun x => .own A39 c40 (rowC (Eint .i64) x.1) 3 (Eint .i64).sz), oR z33 (fun x => .own A42 c43 (rowC (Eint .i64) x.2) 3 (Eint .i64).sz), .box g99 [.slice A125 z121.length c126, .int .i64 z122] 98, .own A125 c126 (rowC (Eint .u8) z121) 5 (Eint .u8).sz, .box g111 [.slice A135 z132.length c136] 100, .own A135 c136 (rowC (Eint .u8) z132) 5 (Eint .u8).sz] := HS134
            rcases z33 with _ | ⟨z142, z143⟩
            · cases (show (none : Option _) = some _ from (onO_none _ _).symm.trans H)
            have H := (onO_some _ _ _).symm.trans H
            have HS144 : Hp S0 w0 w [.rd A_lens_0 (rowC (Eint .i64) l_lens_0), .rd A_symbols_2 (rowC (Eint .i64) l_symbols_2), .own A8 c9 (rowC (Eint .i64) z86) 3 (Eint .i64).sz, .box g21 (([.slice A23 z137.length c24, .slice A26 z138.length c27] : List Value) ++ rowC (Eint .i64) z139 ++ rowC (Eint .i64) z140) 94, .own A23 c24 (rowC (Eint .i64) z137) 3 (Eint .i64).sz, .own A26 c27 (rowC (Eint .i64) z138) 3 (Eint .i64).sz, .box g37 [.slice A39 z142.length c40, .slice A42 z143.length c43] 96, .own A39 c40 (rowC (Eint .i64) z142) 3 (Eint .i64).sz, .own A42 c43 (rowC (Eint .i64) z143) 3 (Eint .i64).sz, .box g99 [.slice A125 z121.length c126, .int .i64 z122] 98, .own A125 c126 (rowC (Eint .u8) z121) 5 (Eint .u8).sz, .box g111 [.slice A135 z132.length c136] 100, .own A135 c136 (rowC (Eint .u8) z132) 5 (Eint .u8).sz] := HS141
            obtain ⟨yj145, Hyj145, H⟩ := of_bind H
            refine L_join (fun a w => ∃ (l374 : List Int), ∃ (l377 : List Int), ∃ (y378 : Int), ∃ (A372 : Option Addr), ∃ (c373 : Nat), ∃ (A375 : Option Addr), ∃ (c376 : Nat), yj145 = Sum.inr (l374, l377, y378) ∧ Is Try.f7.ntmps a [(13, .pointer (some ⟨g99, 0, none⟩)), (14, .pointer (some ⟨g111, 0, none⟩))] ∧ Hp S0 w0 w [.rd A_lens_0 (rowC (Eint .i64) l_lens_0), .rd A_symbols_2 (rowC (Eint .i64) l_symbols_2), .box g99 [.slice A372 l374.length c373, .int .i64 y378] 98, .own A372 c373 (rowC (Eint .u8) l374) 5 (Eint .u8).sz, .box g111 [.slice A375 l377.length c376] 100, .own A375 c376 (rowC (Eint .u8) l377) 5 (Eint .u8).sz]) (fun Qj145 hNj145 hOj145 => ?_) (fun a w hR => ?_)
            · have HOj145 := H
              have H := Hyj145
              refine L_blk (fun Qb379 hNb379 hXb379 hOb379 => ?_)
              refine L_lp (fun k a w => ∃ (l529 : List Int), ∃ (l532 : List Int), ∃ (y533 : Int), ∃ (i_534 : Int), ∃ (A527 : Option Addr), ∃ (c528 : Nat), ∃ (A530 : Option Addr), ∃ (c531 : Nat), Is Try.f7.ntmps a [(2, .slice A_symbols_2 l_symbols_2.length c_symbols_2), (9, .pointer (some ⟨g21, 0, none⟩)), (11, .pointer (some ⟨g37, 0, none⟩)), (13, .pointer (some ⟨g99, 0, none⟩)), (14, .pointer (some ⟨g111, 0, none⟩)), (15, .int .i64 i_534)] ∧ Hp S0 w0 w [.rd A_lens_0 (rowC (Eint .i64) l_lens_0), .rd A_symbols_2 (rowC (Eint .i64) l_symbols_2), .box g21 (([.slice A23 z137.length c24, .slice A26 z138.length c27] : List Value) ++ rowC (Eint .i64) z139 ++ rowC (Eint .i64) z140) 94, .own A23 c24 (rowC (Eint .i64) z137) 3 (Eint .i64).sz, .own A26 c27 (rowC (Eint .i64) z138) 3 (Eint .i64).sz, .box g37 [.slice A39 z142.length c40, .slice A42 z143.length c43] 96, .own A39 c40 (rowC (Eint .i64) z142) 3 (Eint .i64).sz, .own A42 c43 (rowC (Eint .i64) z143) 3 (Eint .i64).sz, .box g99 [.slice A527 l529.length c528, .int .i64 y533] 98, .own A527 c528 (rowC (Eint .u8) l529) 5 (Eint .u8).sz, .box g111 [.slice A530 l532.length c531] 100, .own A530 c531 (rowC (Eint .u8) l532) 5 (Eint .u8).sz] ∧ valiselaw5_CodeWrites.l1 k l529 l532 y533 i_534 l_symbols_2 z137 z138 z139 z140 z142 z143 = some yj145) FU (fun a ha => ⟨_, _, _, _, _, _, _, _, Is.cons ha (Is.cons ha (Is.cons ha (Is.cons ha (Is.cons ha (Is.cons ha (Is.nil ha) rfl) rfl) rfl) rfl) rfl) rfl, HS144.sel [0, 1, 3, 4, 5, 6, 7, 8, 9, 10, 11, 12] rfl, H⟩) (fun kp526 a w535 hI Qp526 hNp526 hOp526 => ?_)
              obtain ⟨l529, l532, y533, i_534, A527, c528, A530, c531, ha, HS536, HAp526⟩ := hI
              cases kp526 with
              | zero => cases (show (none : Option _) = some _ from HAp526)
              | succ kp526 =>
                have H := (valiselaw5_CodeWrites.l1.eq_2 ..).symm.trans HAp526
                refine wpLF_app ?_ ha
                refine L_seq ?_
                refine L_seq ?_
                refine L_region ?_
                refine F_val rfl rfl rfl (O_move rfl rfl) ?_
                refine F_val rfl rfl rfl (O_move rfl rfl) ?_
                refine F_val rfl rfl rfl (O_len rfl rfl Try.underlying22) ?_
                refine F_val rfl rfl rfl (O_lt rfl rfl rfl) ?_
                refine F_nil ?_
                refine L_condP rfl (fun c537 => ?_) (fun c537 => ?_)
                · have H := of_pos H c537
                  refine L_skip ?_
                  refine L_seq ?_
                  refine L_blk (fun Q538 hN538 hX538 hO538 => ?_)
                  refine L_seq ?_
                  refine L_region ?_
                  refine F_val rfl rfl rfl (O_move rfl rfl) ?_
                  refine F_val rfl rfl rfl (O_move rfl rfl) ?_
                  refine F_val rfl rfl rfl (O_move rfl rfl) ?_
                  refine F_val rfl rfl rfl (O_move rfl rfl) ?_
                  obtain ⟨⟨g539, g540⟩, H⟩ := of_gd H
                  refine F_val rfl rfl rfl (O_idx rfl rfl rfl Try.underlying22 size3 g539 g540 (Cells.isA (HS536.cells_rd (i := 1) rfl) (rowC_ne (E := (Eint .i64)) g539 g540 (by decide)))) ?_
                  refine F_val rfl rfl rfl (O_loadC rfl rfl flat3 (HS536.cells_rd (i := 1) rfl) (int_cell g539 g540)) ?_
                  obtain ⟨⟨z545, z546, z547⟩, h544, H⟩ := of_bind H
                  refine F_call (xs := [.tmp 75, .tmp 76, .tmp 80]) rfl rfl rfl rfl Try.func36 nm36 rfl rfl ((code_Encoder_Put.calls (HS536.give [8, 9] rfl (Lent.box HS536 (Lent.own HS536 (Lent.own HS536 (Lent.nil) (i := 4) rfl rfl ((HS536.cells_own (i := 4) rfl).self)) (i := 3) rfl rfl ((HS536.cells_own (i := 3) rfl).self)) (i := 2) rfl rfl (HS536.cells_box (i := 2) rfl).self)) h544).mono (fun e w hc => ?_))
                  obtain ⟨A550, c551, rfl, HSo⟩ := hc
                  refine ⟨.int .i64 z545, rfl, ?_⟩
                  have HS549 : Hp S0 w0 w [.rd A_lens_0 (rowC (Eint .i64) l_lens_0), .rd A_symbols_2 (rowC (Eint .i64) l_symbols_2), .box g21 (([.slice A23 z137.length c24, .slice A26 z138.length c27] : List Value) ++ rowC (Eint .i64) z139 ++ rowC (Eint .i64) z140) 94, .own A23 c24 (rowC (Eint .i64) z137) 3 (Eint .i64).sz, .own A26 c27 (rowC (Eint .i64) z138) 3 (Eint .i64).sz, .box g37 [.slice A39 z142.length c40, .slice A42 z143.length c43] 96, .own A39 c40 (rowC (Eint .i64) z142) 3 (Eint .i64).sz, .own A42 c43 (rowC (Eint .i64) z143) 3 (Eint .i64).sz, .box g99 [.slice A550 z546.length c551, .int .i64 z547] 98, .own A550 c551 (rowC (Eint .u8) z546) 5 (Eint .u8).sz, .box g111 [.slice A530 l532.length c531] 100, .own A530 c531 (rowC (Eint .u8) l532) 5 (Eint .u8).sz] := (HS536.back [8, 9] HSo rfl).sel [0, 1, 2, 3, 4, 5, 6, 7, 12, 13, 10, 11] rfl
                  refine F_val rfl rfl rfl (O_assign rfl rfl) ?_
                  refine F_nil ?_
                  refine L_seq ?_
                  refine L_region ?_
                  refine F_val rfl rfl rfl (O_move rfl rfl) ?_
                  refine F_val rfl rfl rfl (O_move rfl rfl) ?_
                  refine F_val rfl rfl rfl (O_move rfl rfl) ?_
                  refine F_val rfl rfl rfl (O_move rfl rfl) ?_
                  refine F_val rfl rfl rfl (O_idx rfl rfl rfl Try.underlying22 size3 g539 g540 (Cells.isA (HS549.cells_rd (i := 1) rfl) (rowC_ne (E := (Eint .i64)) g539 g540 (by decide)))) ?_
                  refine F_val rfl rfl rfl (O_loadC rfl rfl flat3 (HS549.cells_rd (i := 1) rfl) (int_cell g539 g540)) ?_
                  obtain ⟨⟨z556, z557⟩, h555, H⟩ := of_bind H
                  refine F_call (xs := [.tmp 82, .tmp 83, .tmp 87]) rfl rfl rfl rfl Try.func37 nm37 rfl rfl ((valiseref5_Encoder_Put.calls (HS549.give [10, 11] rfl (Lent.box HS549 (Lent.own HS549 (Lent.own HS549 (Lent.nil) (i := 7) rfl rfl ((HS549.cells_own (i := 7) rfl).self)) (i := 6) rfl rfl ((HS549.cells_own (i := 6) rfl).self)) (i := 5) rfl rfl (HS549.cells_box (i := 5) rfl).self)) h555).mono (fun e w hc => ?_))
                  obtain ⟨A560, c561, rfl, HSo⟩ := hc
                  refine ⟨.int .i64 z556, rfl, ?_⟩
                  have HS559 : Hp S0 w0 w [.rd A_lens_0 (rowC (Eint .i64) l_lens_0), .rd A_symbols_2 (rowC (Eint .i64) l_symbols_2), .box g21 (([.slice A23 z137.length c24, .slice A26 z138.length c27] : List Value) ++ rowC (Eint .i64) z139 ++ rowC (Eint .i64) z140) 94, .own A23 c24 (rowC (Eint .i64) z137) 3 (Eint .i64).sz, .own A26 c27 (rowC (Eint .i64) z138) 3 (Eint .i64).sz, .box g37 [.slice A39 z142.length c40, .slice A42 z143.length c43] 96, .own A39 c40 (rowC (Eint .i64) z142) 3 (Eint .i64).sz, .own A42 c43 (rowC (Eint .i64) z143) 3 (Eint .i64).sz, .box g99 [.slice A550 z546.length c551, .int .i64 z547] 98, .own A550 c551 (rowC (Eint .u8) z546) 5 (Eint .u8).sz, .box g111 [.slice A560 z557.length c561] 100, .own A560 c561 (rowC (Eint .u8) z557) 5 (Eint .u8).sz] := (HS549.back [10, 11] HSo rfl).sel [0, 1, 2, 3, 4, 5, 6, 7, 8, 9, 12, 13] rfl
                  refine F_val rfl rfl rfl (O_assign rfl rfl) ?_
                  refine F_nil ?_
                  refine L_seq ?_
                  refine L_quiet mix (by kernel_rfl) ?_
                  refine Q_val rfl rfl rfl (fun wq hq => O_move rfl rfl) ?_
                  refine Q_call (v := .int .i64 z545) (xs := [.tmp 89]) rfl rfl rfl rfl Try.func23 nm23 rfl rfl (fun wq hq => (valiselaw5_num.calls ((HS559.keep hq).give [] rfl (Lent.nil)) (rfl : valiselaw5_num.f z545 = some z545)).mono (fun e w hc => ?_)) ?_
                  · obtain ⟨rfl, h⟩ := hc
                    exact ⟨rfl, hq.trans h.chg0⟩
                  refine Q_val rfl rfl rfl (fun wq hq => O_move rfl rfl) ?_
                  refine Q_val rfl rfl rfl (fun wq hq => O_ne rfl rfl rfl) ?_
                  refine Q_val rfl rfl rfl (fun wq hq => O_move rfl rfl) ?_
                  obtain ⟨b571, Hb571, H⟩ := of_bind H
                  refine Q_grp 14 [(107, .bool b571), (2, .slice A_symbols_2 l_symbols_2.length c_symbols_2), (9, .pointer (some ⟨g21, 0, none⟩)), (11, .pointer (some ⟨g37, 0, none⟩)), (13, .pointer (some ⟨g99, 0, none⟩)), (14, .pointer (some ⟨g111, 0, none⟩)), (15, .int .i64 i_534)] ?_ ?_
                  · rcases Decidable.em (z545 ≠ z556) with c575 | c575
                    · refine Q_know (i := 93) rfl (dec_t c575) ?_
                      have H := of_pos Hb571 c575
                      refine Q_gskip rfl rfl rfl rfl rfl rfl rfl ?_
                      refine Q_gskip rfl rfl rfl rfl rfl rfl rfl ?_
                      refine Q_gskip rfl rfl rfl rfl rfl rfl rfl ?_
                      refine Q_gskip rfl rfl rfl rfl rfl rfl rfl ?_
                      refine Q_gskip rfl rfl rfl rfl rfl rfl rfl ?_
                      refine Q_gskip rfl rfl rfl rfl rfl rfl rfl ?_
                      refine Q_gskip rfl rfl rfl rfl rfl rfl rfl ?_
                      refine Q_gskip rfl rfl rfl rfl rfl rfl rfl ?_
                      refine Q_gskip rfl rfl rfl rfl rfl rfl rfl ?_
                      refine Q_gskip rfl rfl rfl rfl rfl rfl rfl ?_
                      refine Q_gskip rfl rfl rfl rfl rfl rfl rfl ?_
                      refine Q_gskip rfl rfl rfl rfl rfl rfl rfl ?_
                      refine Q_gskip rfl rfl rfl rfl rfl rfl rfl ?_
                      refine Q_val rfl rfl rfl (fun wq hq => O_pickT rfl rfl rfl) ?_
                      refine Q_know (i := 107) rfl (congrArg Value.bool (Option.some.inj H)) ?_
                      exact Q_grpE (fun a ha => Is.cons ha (Is.cons ha (Is.cons ha (Is.cons ha (Is.cons ha (Is.cons ha (Is.cons ha (Is.nil ha) rfl) rfl) rfl) rfl) rfl) rfl) rfl)
                    · refine Q_know (i := 93) rfl (dec_f c575) ?_
                      have H := of_neg Hb571 c575
                      refine Q_gval rfl rfl rfl rfl rfl rfl (fun wq hq => O_move rfl rfl) ?_
                      refine Q_gval rfl rfl rfl rfl rfl rfl (fun wq hq => O_move rfl rfl) ?_
                      refine Q_gval rfl rfl rfl rfl rfl rfl (fun wq hq => O_move rfl rfl) ?_
                      refine Q_gval rfl rfl rfl rfl rfl rfl (fun wq hq => O_idx rfl rfl rfl Try.underlying22 size3 g539 g540 (Cells.isA ((HS559.keep hq).cells_rd (i := 1) rfl) (rowC_ne (E := (Eint .i64)) g539 g540 (by decide)))) ?_
                      refine Q_gval rfl rfl rfl rfl rfl rfl (fun wq hq => O_loadC rfl rfl flat3 ((HS559.keep hq).cells_rd (i := 1) rfl) (int_cell g539 g540)) ?_
                      obtain ⟨z578, h577, H⟩ := of_bind H
                      refine Q_gcall (v := .int .i64 z578) (xs := [.tmp 94, .tmp 98]) rfl rfl rfl rfl rfl rfl rfl Try.func38 nm38 rfl rfl (fun wq hq => (code_Encoder_Len.calls ((HS559.keep hq).give [] rfl (Lent.box (HS559.keep hq) (Lent.own (HS559.keep hq) (Lent.own (HS559.keep hq) (Lent.nil) (i := 4) rfl rfl (((HS559.keep hq).cells_own (i := 4) rfl).self)) (i := 3) rfl rfl (((HS559.keep hq).cells_own (i := 3) rfl).self)) (i := 2) rfl rfl ((HS559.keep hq).cells_box (i := 2) rfl).self)) h577).mono (fun e w hc => ?_)) ?_
                      · obtain ⟨rfl, h⟩ := hc
                        exact ⟨rfl, hq.trans h.chg0⟩
                      refine Q_gval rfl rfl rfl rfl rfl rfl (fun wq hq => O_move rfl rfl) ?_
                      refine Q_gval rfl rfl rfl rfl rfl rfl (fun wq hq => O_move rfl rfl) ?_
                      refine Q_gval rfl rfl rfl rfl rfl rfl (fun wq hq => O_move rfl rfl) ?_
                      refine Q_gval rfl rfl rfl rfl rfl rfl (fun wq hq => O_idx rfl rfl rfl Try.underlying22 size3 g539 g540 (Cells.isA ((HS559.keep hq).cells_rd (i := 1) rfl) (rowC_ne (E := (Eint .i64)) g539 g540 (by decide)))) ?_
                      refine Q_gval rfl rfl rfl rfl rfl rfl (fun wq hq => O_loadC rfl rfl flat3 ((HS559.keep hq).cells_rd (i := 1) rfl) (int_cell g539 g540)) ?_
                      obtain ⟨z581, h580, H⟩ := of_bind H
                      refine Q_gcall (v := .int .i64 z581) (xs := [.tmp 100, .tmp 104]) rfl rfl rfl rfl rfl rfl rfl Try.func39 nm39 rfl rfl (fun wq hq => (valiseref5_Encoder_Len.calls ((HS559.keep hq).give [] rfl (Lent.box (HS559.keep hq) (Lent.own (HS559.keep hq) (Lent.own (HS559.keep hq) (Lent.nil) (i := 7) rfl rfl (((HS559.keep hq).cells_own (i := 7) rfl).self)) (i := 6) rfl rfl (((HS559.keep hq).cells_own (i := 6) rfl).self)) (i := 5) rfl rfl ((HS559.keep hq).cells_box (i := 5) rfl).self)) h580).mono (fun e w hc => ?_)) ?_
                      · obtain ⟨rfl, h⟩ := hc
                        exact ⟨rfl, hq.trans h.chg0⟩
                      refine Q_gval rfl rfl rfl rfl rfl rfl (fun wq hq => O_ne rfl rfl rfl) ?_
                      refine Q_val rfl rfl rfl (fun wq hq => O_pickF rfl rfl rfl) ?_
                      refine Q_know (i := 107) rfl (congrArg Value.bool (Option.some.inj H)) ?_
                      exact Q_grpE (fun a ha => Is.cons ha (Is.cons ha (Is.cons ha (Is.cons ha (Is.cons ha (Is.cons ha (Is.cons ha (Is.nil ha) rfl) rfl) rfl) rfl) rfl) rfl) rfl)
                  · skip
                    refine Q_val rfl rfl rfl (fun wq hq => O_move rfl rfl) ?_
                    obtain ⟨b588, Hb588, H⟩ := of_bind H
                    refine Q_grp 6 [(114, .bool b588), (2, .slice A_symbols_2 l_symbols_2.length c_symbols_2), (9, .pointer (some ⟨g21, 0, none⟩)), (11, .pointer (some ⟨g37, 0, none⟩)), (13, .pointer (some ⟨g99, 0, none⟩)), (14, .pointer (some ⟨g111, 0, none⟩)), (15, .int .i64 i_534)] ?_ ?_
                    · rcases Decidable.em (b571 = true) with c592 | c592
                      · refine Q_know (i := 108) rfl (congrArg Value.bool c592) ?_
                        have H := of_pos Hb588 c592
                        refine Q_gskip rfl rfl rfl rfl rfl rfl rfl ?_
                        refine Q_gskip rfl rfl rfl rfl rfl rfl rfl ?_
                        refine Q_gskip rfl rfl rfl rfl rfl rfl rfl ?_
                        refine Q_gskip rfl rfl rfl rfl rfl rfl rfl ?_
                        refine Q_gskip rfl rfl rfl rfl rfl rfl rfl ?_
                        refine Q_val rfl rfl rfl (fun wq hq => O_pickT rfl rfl rfl) ?_
                        refine Q_know (i := 114) rfl (congrArg Value.bool (Option.some.inj H)) ?_
                        exact Q_grpE (fun a ha => Is.cons ha (Is.cons ha (Is.cons ha (Is.cons ha (Is.cons ha (Is.cons ha (Is.cons ha (Is.nil ha) rfl) rfl) rfl) rfl) rfl) rfl) rfl)
                      · refine Q_know (i := 108) rfl (congrArg Value.bool (Bool.eq_false_iff.mpr c592)) ?_
                        have H := of_neg Hb588 c592
                        refine Q_gval rfl rfl rfl rfl rfl rfl (fun wq hq => O_move rfl rfl) ?_
                        obtain ⟨z595, h594, H⟩ := of_bind H
                        refine Q_gcall (v := .int .i64 z595) (xs := [.tmp 109]) rfl rfl rfl rfl rfl rfl rfl Try.func40 nm40 rfl rfl (fun wq hq => (bits_Writer_Len.calls ((HS559.keep hq).give [] rfl (Lent.box (HS559.keep hq) (Lent.own (HS559.keep hq) (Lent.nil) (i := 9) rfl rfl (((HS559.keep hq).cells_own (i := 9) rfl).self)) (i := 8) rfl rfl ((HS559.keep hq).cells_box (i := 8) rfl).self)) h594).mono (fun e w hc => ?_)) ?_
                        · obtain ⟨rfl, h⟩ := hc
                          exact ⟨rfl, hq.trans h.chg0⟩
                        refine Q_gval rfl rfl rfl rfl rfl rfl (fun wq hq => O_move rfl rfl) ?_
                        obtain ⟨z598, h597, H⟩ := of_bind H
                        refine Q_gcall (v := .int .i64 z598) (xs := [.tmp 111]) rfl rfl rfl rfl rfl rfl rfl Try.func41 nm41 rfl rfl (fun wq hq => (valiseref3_Writer_Len.calls ((HS559.keep hq).give [] rfl (Lent.box (HS559.keep hq) (Lent.own (HS559.keep hq) (Lent.nil) (i := 11) rfl rfl (((HS559.keep hq).cells_own (i := 11) rfl).self)) (i := 10) rfl rfl ((HS559.keep hq).cells_box (i := 10) rfl).self)) h597).mono (fun e w hc => ?_)) ?_
                        · obtain ⟨rfl, h⟩ := hc
                          exact ⟨rfl, hq.trans h.chg0⟩
                        refine Q_gval rfl rfl rfl rfl rfl rfl (fun wq hq => O_ne rfl rfl rfl) ?_
                        refine Q_val rfl rfl rfl (fun wq hq => O_pickF rfl rfl rfl) ?_
                        refine Q_know (i := 114) rfl (congrArg Value.bool (Option.some.inj H)) ?_
                        exact Q_grpE (fun a ha => Is.cons ha (Is.cons ha (Is.cons ha (Is.cons ha (Is.cons ha (Is.cons ha (Is.cons ha (Is.nil ha) rfl) rfl) rfl) rfl) rfl) rfl) rfl)
                    · skip
                      refine Q_nil (fun w599 hw600 => ?_)
                      have HS601 := HS559.keep hw600
                      refine L_cond rfl (fun c602 => ?_) (fun c602 => ?_)
                      · have H := of_pos H c602
                        refine L_seq ?_
                        refine L_region ?_
                        refine F_val rfl rfl rfl (O_assign rfl rfl) ?_
                        refine F_nil ?_
                        refine L_ret (fun a ha => (hO538 .ret a _ rfl (hOp526 .ret a _ rfl (hOb379 .ret a _ rfl (hOj145 .ret a _ rfl (post_ret1 ha rfl rfl ?_))))))
                        obtain rfl := Option.some.inj H
                        obtain rfl := Option.some.inj (show (some false : Option (Bool)) = some _ from HOj145)
                        exact ⟨rfl, HS601.sel [] rfl⟩
                      · have H := of_neg H (by rw [c602]; exact Bool.false_ne_true)
                        refine L_skip ?_
                        refine L_endB hN538 ?_
                        refine L_region ?_
                        refine F_val rfl rfl rfl (O_move rfl rfl) ?_
                        refine F_val rfl rfl rfl (O_add rfl rfl rfl) ?_
                        obtain ⟨x603, h604, H⟩ := of_bnd H
                        refine F_val rfl rfl rfl (O_assign' rfl rfl (congrArg (Value.int .i64) h604)) ?_
                        refine F_nil ?_
                        refine L_nil (fun a ha => hNp526 _ a _ (Nat.lt_succ_self _) ⟨_, _, _, _, _, _, _, _, Is.cons ha (Is.cons ha (Is.cons ha (Is.cons ha (Is.cons ha (Is.cons ha (Is.nil ha) rfl) rfl) rfl) rfl) rfl) rfl, HS601.sel [0, 1, 2, 3, 4, 5, 6, 7, 8, 9, 10, 11] rfl, H⟩)
                · have H := of_neg H c537
                  refine L_exitB (fun a w h => hOp526 (.exit 0) a w rfl (hXb379 a w h)) ?_
                  refine L_nil (fun a ha => hNj145 a _ ⟨_, _, _, _, _, _, _, (Option.some.inj H).symm, Is.cons ha (Is.cons ha (Is.nil ha) rfl) rfl, HS536.sel [0, 1, 8, 9, 10, 11] rfl⟩)
            · obtain ⟨l374, l377, y378, A372, c373, A375, c376, rfl, ha, HS606⟩ := hR
              refine wpLF_app ?_ ha
              have H := (onR_inr _ _ _).symm.trans H
              refine L_seq ?_
              refine L_region ?_
              refine F_val rfl rfl rfl (O_move rfl rfl) ?_
              obtain ⟨z611, h610, H⟩ := of_bind H
              refine F_call (xs := [.tmp 115]) rfl rfl rfl rfl Try.func43 nm43 rfl rfl ((bits_Writer_Bytes.calls (HS606.give [] rfl (Lent.box HS606 (Lent.own HS606 (Lent.nil) (i := 3) rfl rfl ((HS606.cells_own (i := 3) rfl).self)) (i := 2) rfl rfl (HS606.cells_box (i := 2) rfl).self)) h610).mono (fun e w hc => ?_))
              obtain ⟨A614, c615, rfl, HSo⟩ := hc
              refine ⟨.slice A614 z611.length c615, rfl, ?_⟩
              have HS613 : Hp S0 w0 w [.rd A_lens_0 (rowC (Eint .i64) l_lens_0), .rd A_symbols_2 (rowC (Eint .i64) l_symbols_2), .box g99 [.slice A372 l374.length c373, .int .i64 y378] 98, .own A372 c373 (rowC (Eint .u8) l374) 5 (Eint .u8).sz, .box g111 [.slice A375 l377.length c376] 100, .own A375 c376 (rowC (Eint .u8) l377) 5 (Eint .u8).sz, .own A614 c615 (rowC (Eint .u8) z611) 5 (Eint .u8).sz] := (HS606.back [] HSo rfl).sel [0, 1, 2, 3, 4, 5, 6] rfl
              refine F_val rfl rfl rfl (O_move rfl rfl) ?_
              obtain ⟨z621, h620, H⟩ := of_bind H
              refine F_call (xs := [.tmp 117]) rfl rfl rfl rfl Try.func44 nm44 rfl rfl ((valiseref3_Writer_Bytes.calls (HS613.give [] rfl (Lent.box HS613 (Lent.own HS613 (Lent.nil) (i := 5) rfl rfl ((HS613.cells_own (i := 5) rfl).self)) (i := 4) rfl rfl (HS613.cells_box (i := 4) rfl).self)) h620).mono (fun e w hc => ?_))
              obtain ⟨A624, c625, rfl, HSo⟩ := hc
              refine ⟨.slice A624 z621.length c625, rfl, ?_⟩
              have HS623 : Hp S0 w0 w [.rd A_lens_0 (rowC (Eint .i64) l_lens_0), .rd A_symbols_2 (rowC (Eint .i64) l_symbols_2), .box g99 [.slice A372 l374.length c373, .int .i64 y378] 98, .own A372 c373 (rowC (Eint .u8) l374) 5 (Eint .u8).sz, .box g111 [.slice A375 l377.length c376] 100, .own A375 c376 (rowC (Eint .u8) l377) 5 (Eint .u8).sz, .own A614 c615 (rowC (Eint .u8) z611) 5 (Eint .u8).sz, .own A624 c625 (rowC (Eint .u8) z621) 5 (Eint .u8).sz] := (HS613.back [] HSo rfl).sel [0, 1, 2, 3, 4, 5, 6, 7] rfl
              obtain ⟨z629, h628, H⟩ := of_bind H
              refine F_qcall (v := .bool z629) (xs := [.tmp 116, .tmp 118]) rfl rfl rfl rfl Try.func42 nm42 rfl rfl ((valiselaw5_sameBytes.calls (HS623.give [] rfl (Lent.own HS623 (Lent.own HS623 (Lent.nil) (i := 7) rfl rfl ((HS623.cells_own (i := 7) rfl).self)) (i := 6) rfl rfl ((HS623.cells_own (i := 6) rfl).self))) (HS623.own_capE (i := 6) rfl (by decide)) (HS623.own_capE (i := 7) rfl (by decide)) h628).mono (fun e w hc => ?_)) (fun w630 hw631 => ?_)
              · obtain ⟨rfl, h⟩ := hc
                exact ⟨rfl, h.chg0⟩
              have HS632 := HS623.keep hw631
              refine F_val rfl rfl rfl (O_assign rfl rfl) ?_
              refine F_nil ?_
              refine L_ret (fun a ha => (post_ret1 ha rfl rfl ?_))
              obtain rfl := Option.some.inj H
              exact ⟨rfl, HS632.sel [] rfl⟩

end Go.Proofs.Ytfglehdaimgaeaa
