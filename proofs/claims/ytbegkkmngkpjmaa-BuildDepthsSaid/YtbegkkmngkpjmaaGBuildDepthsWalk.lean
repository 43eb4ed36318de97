import Derived.Test.YtbegkkmngkpjmaaGBuildDepthsWalk1
set_option linter.unusedVariables false
set_option linter.unusedSimpArgs false
set_option maxRecDepth 10000
set_option maxHeartbeats 1000000
namespace Go.Proofs.Ytbegkkmngkpjmaa
open Go Go.V Go.V.Pu
/-! function 21: valise/valiseref6.Depths -/
theorem valiseref6_Depths.calls {S0 : Nat → Prop} {w0 : World} {A_freq_0 : Option Addr} {c_freq_0 : Nat} {l_freq_0 : List Int} {r : List Int × Int} (HS0 : Hp S0 w0 w0 [.rd A_freq_0 (rowC (Eint .i64) l_freq_0)]) (hc_freq_0 : l_freq_0.length ≤ c_freq_0) (h : valiseref6_Depths.f l_freq_0 = some r) :
    Calls Try.prog 21 ([.slice A_freq_0 l_freq_0.length c_freq_0] : List Value).toArray w0 (fun e w => ∃ (A1 : Option Addr), ∃ (c1 : Nat), e = .returned (.tuple #[.slice A1 r.1.length c1, .int .i64 r.2]) ∧ Hp S0 w0 w [.own A1 c1 (rowC (Eint .i64) r.1) 3 (Eint .i64).sz]) := by
  have H : ((if 288 < (l_freq_0.length : Int) then (some (([] : List Int), 1)) else ((valiseref6_weighs.f l_freq_0).bind fun z6 => if (!z6) = true then (some (([] : List Int), 61)) else ((valiseref6_zeros.f (l_freq_0.length : Int)).bind fun z17 => (valiseref6_used.f l_freq_0).bind fun z27 => if (z27.length : Int) = 1 then (gd ((0 : Int) ≤ 0 ∧ 0 < (z27.length : Int)) (gd ((0 : Int) ≤ (rd z27 0) ∧ (rd z27 0) < (z17.length : Int)) (bnd (z17.set (rd z27 0 : Int).toNat 1) fun l40 => some (l40, 0)))) else ((valiseref6_Depths.l1 FU ([] : List (Int × List Int)) 0 l_freq_0 z27).bind fun l166 => (valiseref6_Depths.l33 FU z17 l166 ).bind fun l2722 => some (l2722, 0))))) : Option (List Int × Int)) = some r := h
  refine calls_start Try.func21 rfl rfl ?_
  have hSF : ∀ b, S0 b → S0 b ∨ w0.heap.size ≤ b := (fun b hb => .inl hb)
  refine L_seq ?_
  refine L_region ?_
  refine F_val rfl rfl rfl (O_assign rfl rfl) ?_
  refine F_val rfl rfl rfl (O_assign rfl rfl) ?_
  refine F_nil ?_
  refine L_seq ?_
  refine L_seq ?_
  refine L_region ?_
  refine F_val rfl rfl rfl (O_move rfl rfl) ?_
  refine F_val rfl rfl rfl (O_len rfl rfl Try.underlying22) ?_
  refine F_val rfl rfl rfl (O_gt rfl rfl rfl) ?_
  refine F_nil ?_
  refine L_condP rfl (fun c1 => ?_) (fun c1 => ?_)
  · have H := of_pos H c1
    refine L_seq ?_
    refine L_region ?_
    refine F_val rfl rfl rfl (O_assign rfl rfl) ?_
    refine F_val rfl rfl rfl (O_assign rfl rfl) ?_
    refine F_nil ?_
    have HS2 := HS0.addNil 3 (Eint .i64).sz
    refine L_ret (fun a ha => (post_ret2 ha rfl rfl rfl ?_))
    obtain rfl := Option.some.inj H
    exact ⟨_, _, rfl, HS2.sel [1] rfl⟩
  · have H := of_neg H c1
    refine L_skip ?_
    refine L_seq ?_
    refine L_region ?_
    refine F_val rfl rfl rfl (O_move rfl rfl) ?_
    obtain ⟨z6, h5, H⟩ := of_bind H
    refine F_qcall (v := .bool z6) (xs := [.tmp 22]) rfl rfl rfl rfl Try.func36 nm36 rfl rfl ((valiseref6_weighs.calls (HS0.give [] rfl (Lent.rd HS0 (Lent.nil) (i := 0) rfl ((HS0.cells_rd (i := 0) rfl).self))) hc_freq_0 h5).mono (fun e w hc => ?_)) (fun w7 hw8 => ?_)
    · obtain ⟨rfl, h⟩ := hc
      exact ⟨rfl, h.chg0⟩
    have HS9 := HS0.keep hw8
    refine F_val rfl rfl rfl (O_assign rfl rfl) ?_
    refine F_nil ?_
    refine L_seq ?_
    refine L_seq ?_
    refine L_region ?_
    refine F_val rfl rfl rfl (O_move rfl rfl) ?_
    refine F_val rfl rfl rfl (O_notb rfl rfl) ?_
    refine F_nil ?_
    refine L_cond rfl (fun c10 => ?_) (fun c10 => ?_)
    · have H := of_pos H c10
      refine L_seq ?_
      refine L_region ?_
      refine F_val rfl rfl rfl (O_assign rfl rfl) ?_
      refine F_val rfl rfl rfl (O_assign rfl rfl) ?_
      refine F_nil ?_
      have HS11 := HS9.addNil 3 (Eint .i64).sz
      refine L_ret (fun a ha => (post_ret2 ha rfl rfl rfl ?_))
      obtain rfl := Option.some.inj H
      exact ⟨_, _, rfl, HS11.sel [1] rfl⟩
    · have H := of_neg H (by rw [c10]; exact Bool.false_ne_true)
      refine L_skip ?_
      refine L_seq ?_
      refine L_region ?_
      refine F_val rfl rfl rfl (O_move rfl rfl) ?_
      refine F_val rfl rfl rfl (O_len rfl rfl Try.underlying22) ?_
      obtain ⟨z17, h16, H⟩ := of_bind H
      refine F_call (xs := [.tmp 27]) rfl rfl rfl rfl Try.func42 nm42 rfl rfl ((valiseref6_zeros.calls (HS9.give [] rfl (Lent.nil)) h16).mono (fun e w hc => ?_))
      obtain ⟨A20, c21, rfl, HSo⟩ := hc
      refine ⟨.slice A20 z17.length c21, rfl, ?_⟩
      have HS19 : Hp S0 w0 w [.rd A_freq_0 (rowC (Eint .i64) l_freq_0), .own A20 c21 (rowC (Eint .i64) z17) 3 (Eint .i64).sz] := (HS9.back [] HSo rfl).sel [0, 1] rfl
      refine F_val rfl rfl rfl (O_assign rfl rfl) ?_
      refine F_nil ?_
      refine L_seq ?_
      refine L_region ?_
      refine F_val rfl rfl rfl (O_move rfl rfl) ?_
      obtain ⟨z27, h26, H⟩ := of_bind H
      refine F_call (xs := [.tmp 29]) rfl rfl rfl rfl Try.func43 nm43 rfl rfl ((valiseref6_used.calls (HS19.give [] rfl (Lent.rd HS19 (Lent.nil) (i := 0) rfl ((HS19.cells_rd (i := 0) rfl).self))) hc_freq_0 h26).mono (fun e w hc => ?_))
      obtain ⟨A30, c31, rfl, HSo⟩ := hc
      refine ⟨.slice A30 z27.length c31, rfl, ?_⟩
      have HS29 : Hp S0 w0 w [.rd A_freq_0 (rowC (Eint .i64) l_freq_0), .own A20 c21 (rowC (Eint .i64) z17) 3 (Eint .i64).sz, .own A30 c31 (rowC (Eint .i64) z27) 3 (Eint .i64).sz] := (HS19.back [] HSo rfl).sel [0, 1, 2] rfl
      refine F_val rfl rfl rfl (O_assign rfl rfl) ?_
      refine F_nil ?_
      refine L_seq ?_
      refine L_seq ?_
      refine L_region ?_
      refine F_val rfl rfl rfl (O_move rfl rfl) ?_
      refine F_val rfl rfl rfl (O_len rfl rfl Try.underlying22) ?_
      refine F_val rfl rfl rfl (O_eq rfl rfl rfl) ?_
      refine F_nil ?_
      refine L_condP rfl (fun c33 => ?_) (fun c33 => ?_)
      · have H := of_pos H c33
        refine L_seq ?_
        refine L_region ?_
        refine F_val rfl rfl rfl (O_move rfl rfl) ?_
        refine F_val rfl rfl rfl (O_move rfl rfl) ?_
        obtain ⟨⟨g34, g35⟩, H⟩ := of_gd H
        refine F_val rfl rfl rfl (O_idx rfl rfl rfl Try.underlying22 size3 g34 g35 (Cells.isA (HS29.cells_own (i := 2) rfl) (rowC_ne (E := (Eint .i64)) g34 g35 (by decide)))) ?_
        refine F_val rfl rfl rfl (O_loadC rfl rfl flat3 (HS29.cells_own (i := 2) rfl) (int_cell g34 g35)) ?_
        obtain ⟨⟨g36, g37⟩, H⟩ := of_gd H
        refine F_val rfl rfl rfl (O_idx rfl rfl rfl Try.underlying22 size3 g36 g37 (Cells.isA (HS29.cells_own (i := 1) rfl) (rowC_ne (E := (Eint .i64)) g36 g37 (by decide)))) ?_
        obtain ⟨l40, h41, H⟩ := of_bnd H
        refine F_setE (E := (Eint .i64)) (i := 1) (a := 1) (q := rd z27 0) rfl rfl rfl rfl rfl rfl size3 HS29 rfl (by decide) g36 g37 h41 (fun w38 HS39 => ?_)
        have e42 : z17.length = l40.length := by rw [← h41, List.length_set]
        refine F_know (i := 5) rfl (congrArg (fun n => Value.slice A20 n c21) e42) ?_
        have HS39 : Hp S0 w0 w38 [.rd A_freq_0 (rowC (Eint .i64) l_freq_0), .own A20 c21 (rowC (Eint .i64) l40) 3 (Eint .i64).sz, .own A30 c31 (rowC (Eint .i64) z27) 3 (Eint .i64).sz] := HS39
        refine F_nil ?_
        refine L_seq ?_
        refine L_region ?_
        refine F_val rfl rfl rfl (O_move rfl rfl) ?_
        refine F_val rfl rfl rfl (O_assign rfl rfl) ?_
        refine F_val rfl rfl rfl (O_assign rfl rfl) ?_
        refine F_nil ?_
        refine L_ret (fun a ha => (post_ret2 ha rfl rfl rfl ?_))
        obtain rfl := Option.some.inj H
        exact ⟨_, _, rfl, HS39.sel [1] rfl⟩
      · have H := of_neg H c33
        refine L_skip ?_
        refine L_seq ?_
        refine L_region ?_
        refine F_val rfl rfl rfl (O_assign rfl rfl) ?_
        have HS43 := (HS29.addNil 61 E_valiseref6_Node.sz).dzNil D_valiseref6_Node S0 w0.heap.size
        have HS43 : Hp S0 w0 w [.rd A_freq_0 (rowC (Eint .i64) l_freq_0), .own A20 c21 (rowC (Eint .i64) z17) 3 (Eint .i64).sz, .own A30 c31 (rowC (Eint .i64) z27) 3 (Eint .i64).sz, .own none 0 (rowC E_valiseref6_Node ([] : List ((Int × List Int) × Option Addr × Nat))) 61 E_valiseref6_Node.sz, Dz D_valiseref6_Node S0 w0.heap.size NoB ([] : List ((Int × List Int) × Option Addr × Nat)) ([] : List (Int × List Int))] := HS43
        refine F_nil ?_
        refine L_seq ?_
        refine L_seq ?_
        refine L_region ?_
        refine F_val rfl rfl rfl (O_assign rfl rfl) ?_
        refine F_nil ?_
        obtain ⟨yj46, Hyj46, H⟩ := of_bind H
        refine L_join (fun a w => ∃ (l166 : List (Int × List Int)), ∃ (A162 : Option Addr), ∃ (c163 : Nat), ∃ (ds164 : List ((Int × List Int) × Option Addr × Nat)), ∃ (B165 : Nat → Prop), yj46 = l166 ∧ Is Try.f21.ntmps a [(5, .slice A20 z17.length c21), (7, .slice A162 l166.length c163)] ∧ Hp S0 w0 w [.rd A_freq_0 (rowC (Eint .i64) l_freq_0), .own A20 c21 (rowC (Eint .i64) z17) 3 (Eint .i64).sz, .own A162 c163 (rowC E_valiseref6_Node ds164) 61 E_valiseref6_Node.sz, Dz D_valiseref6_Node S0 w0.heap.size B165 ds164 l166]) (fun Qj46 hNj46 hOj46 => ?_) (fun a w hR => ?_)
        · skip
          have H := Hyj46
          refine L_blk (fun Qb167 hNb167 hXb167 hOb167 => ?_)
          refine L_lp (fun k a w => ∃ (l245 : List (Int × List Int)), ∃ (i_246 : Int), ∃ (A241 : Option Addr), ∃ (c242 : Nat), ∃ (ds243 : List ((Int × List Int) × Option Addr × Nat)), ∃ (B244 : Nat → Prop), Is Try.f21.ntmps a [(0, .slice A_freq_0 l_freq_0.length c_freq_0), (5, .slice A20 z17.length c21), (6, .slice A30 z27.length c31), (7, .slice A241 l245.length c242), (8, .int .i64 i_246)] ∧ Hp S0 w0 w [.rd A_freq_0 (rowC (Eint .i64) l_freq_0), .own A20 c21 (rowC (Eint .i64) z17) 3 (Eint .i64).sz, .own A30 c31 (rowC (Eint .i64) z27) 3 (Eint .i64).sz, .own A241 c242 (rowC E_valiseref6_Node ds243) 61 E_valiseref6_Node.sz, Dz D_valiseref6_Node S0 w0.heap.size B244 ds243 l245] ∧ valiseref6_Depths.l1 k l245 i_246 l_freq_0 z27 = some yj46) FU (fun a ha => ⟨_, _, _, _, _, _, Is.cons ha (Is.cons ha (Is.cons ha (Is.cons ha (Is.cons ha (Is.nil ha) rfl) rfl) rfl) rfl) rfl, HS43.sel [0, 1, 2, 3, 4] rfl, H⟩) (fun kp240 a w247 hI Qp240 hNp240 hOp240 => ?_)
          obtain ⟨l245, i_246, A241, c242, ds243, B244, ha, HS248, HAp240⟩ := hI
          cases kp240 with
          | zero => cases (show (none : Option _) = some _ from HAp240)
          | succ kp240 =>
            have H := (valiseref6_Depths.l1.eq_2 ..).symm.trans HAp240
            refine wpLF_app ?_ ha
            refine L_seq ?_
            refine L_seq ?_
            refine L_region ?_
            refine F_val rfl rfl rfl (O_move rfl rfl) ?_
            refine F_val rfl rfl rfl (O_move rfl rfl) ?_
            refine F_val rfl rfl rfl (O_len rfl rfl Try.underlying22) ?_
            refine F_val rfl rfl rfl (O_lt rfl rfl rfl) ?_
            refine F_nil ?_
            refine L_condP rfl (fun c249 => ?_) (fun c249 => ?_)
            · have H := of_pos H c249
              refine L_skip ?_
              refine L_seq ?_
              refine L_blk (fun Q250 hN250 hX250 hO250 => ?_)
              refine L_seq ?_
              refine L_region ?_
              refine F_val rfl rfl rfl (O_move rfl rfl) ?_
              refine F_val rfl rfl rfl (O_move rfl rfl) ?_
              obtain ⟨⟨g251, g252⟩, H⟩ := of_gd H
              refine F_val rfl rfl rfl (O_idx rfl rfl rfl Try.underlying22 size3 g251 g252 (Cells.isA (HS248.cells_own (i := 2) rfl) (rowC_ne (E := (Eint .i64)) g251 g252 (by decide)))) ?_
              refine F_val rfl rfl rfl (O_loadC rfl rfl flat3 (HS248.cells_own (i := 2) rfl) (int_cell g251 g252)) ?_
              obtain ⟨x253, h254, H⟩ := of_bnd H
              refine F_val rfl rfl rfl (O_assign' rfl rfl (congrArg (Value.int .i64) h254)) ?_
              refine F_nil ?_
              refine L_region ?_
              refine F_val rfl rfl rfl (O_move rfl rfl) ?_
              refine F_val rfl rfl rfl (O_move rfl rfl) ?_
              refine F_val rfl rfl rfl (O_move rfl rfl) ?_
              obtain ⟨⟨g255, g256⟩, H⟩ := of_gd H
              refine F_val rfl rfl rfl (O_idx rfl rfl rfl Try.underlying22 size3 g255 g256 (Cells.isA (HS248.cells_rd (i := 0) rfl) (rowC_ne (E := (Eint .i64)) g255 g256 (by decide)))) ?_
              refine F_val rfl rfl rfl (O_loadC rfl rfl flat3 (HS248.cells_rd (i := 0) rfl) (int_cell g255 g256)) ?_
              refine F_val rfl rfl rfl (O_move rfl rfl) ?_
              refine F_litE (E := (Eint .i64)) (e := 3) [(0, .int .i64 x253)] [x253] rfl rfl rfl rfl rfl rfl rfl (by decide) (fun w => by kernel_rfl) HS248 (fun w257 A259 c260 HS258 => ?_)
              have HS258 : Hp S0 w0 w257 [.rd A_freq_0 (rowC (Eint .i64) l_freq_0), .own A20 c21 (rowC (Eint .i64) z17) 3 (Eint .i64).sz, .own A30 c31 (rowC (Eint .i64) z27) 3 (Eint .i64).sz, .own A241 c242 (rowC E_valiseref6_Node ds243) 61 E_valiseref6_Node.sz, Dz D_valiseref6_Node S0 w0.heap.size B244 ds243 l245, .own A259 c260 (rowC (Eint .i64) [x253]) 3 (Eint .i64).sz] := HS258
              refine F_val rfl rfl rfl (O_build (vs := [(0, .int .i64 (rd l_freq_0 x253)), (1, .slice A259 [x253].length c260)]) (v := .agg #[.int .i64 (rd l_freq_0 x253), .slice A259 [x253].length c260]) rfl rfl rfl (fun w => by kernel_rfl)) ?_
              have HS265 : Hp S0 w0 w257 [.rd A_freq_0 (rowC (Eint .i64) l_freq_0), .own A20 c21 (rowC (Eint .i64) z17) 3 (Eint .i64).sz, .own A30 c31 (rowC (Eint .i64) z27) 3 (Eint .i64).sz, .own A241 c242 (rowC E_valiseref6_Node ds243) 61 E_valiseref6_Node.sz, Dz D_valiseref6_Node S0 w0.heap.size B244 ds243 l245, Dz D_valiseref6_Node S0 w0.heap.size (blk A259 (rowC (Eint .i64) [x253])) ([((rd l_freq_0 x253, [x253]), A259, c260)]) ([(rd l_freq_0 x253, [x253])])] := HS258.ndFreeze (i := 5) (rd l_freq_0 x253, [x253]) rfl rfl (by decide) hSF (Nat.le_refl _)
              refine F_litE (E := E_valiseref6_Node) (e := 61) [(0, .agg #[.int .i64 (rd l_freq_0 x253), .slice A259 [x253].length c260])] [((rd l_freq_0 x253, [x253]), A259, c260)] rfl rfl rfl rfl rfl rfl rfl (by decide) (fun w => by kernel_rfl) HS265 (fun w262 A266 c267 HS263 => ?_)
              have HS263 : Hp S0 w0 w262 [.rd A_freq_0 (rowC (Eint .i64) l_freq_0), .own A20 c21 (rowC (Eint .i64) z17) 3 (Eint .i64).sz, .own A30 c31 (rowC (Eint .i64) z27) 3 (Eint .i64).sz, .own A241 c242 (rowC E_valiseref6_Node ds243) 61 E_valiseref6_Node.sz, Dz D_valiseref6_Node S0 w0.heap.size B244 ds243 l245, Dz D_valiseref6_Node S0 w0.heap.size (blk A259 (rowC (Eint .i64) [x253])) ([((rd l_freq_0 x253, [x253]), A259, c260)]) ([(rd l_freq_0 x253, [x253])]), .own A266 c267 (rowC E_valiseref6_Node ([((rd l_freq_0 x253, [x253]), A259, c260)])) 61 E_valiseref6_Node.sz] := HS263
              have HS270 : Hp S0 w0 w262 [.rd A_freq_0 (rowC (Eint .i64) l_freq_0), .own A20 c21 (rowC (Eint .i64) z17) 3 (Eint .i64).sz, .own A30 c31 (rowC (Eint .i64) z27) 3 (Eint .i64).sz, .own A241 c242 (rowC E_valiseref6_Node ds243) 61 E_valiseref6_Node.sz, Dz D_valiseref6_Node S0 w0.heap.size B244 ds243 l245, Dz D_valiseref6_Node S0 w0.heap.size (blk A259 (rowC (Eint .i64) [x253])) ([((rd l_freq_0 x253, [x253]), A259, c260)]) ([(rd l_freq_0 x253, [x253])]), .own A266 c267 (rowC E_valiseref6_Node ([((rd l_freq_0 x253, [x253]), A259, c260)])) 61 E_valiseref6_Node.sz, Dz D_valiseref6_Node S0 w0.heap.size (blk A259 (rowC (Eint .i64) [x253])) ([((rd l_freq_0 x253, [x253]), A259, c260)]) ([(rd l_freq_0 x253, [x253])])] := HS263.dzSub (i := 5) rfl dz_self (HS263.dze (i := 5) rfl)
              obtain ⟨l273, h274, H⟩ := of_bnd H
              obtain ⟨g275, H⟩ := of_gd H
              refine F_appD (D := D_valiseref6_Node) (ds := ds243) (ds' := ([((rd l_freq_0 x253, [x253]), A259, c260)])) (xs := l245) (ys := ([(rd l_freq_0 x253, [x253])])) (i := 3) rfl rfl rfl rfl Try.underlying59 info61 rfl (by decide) (by decide) rfl rfl HS270 rfl (HS270.dze (i := 4) rfl) (HS270.dze (i := 7) rfl) (HS270.cells_own (i := 6) rfl) h274 g275 (fun w271 A276 c277 HS272 => ?_)
              have HS272 : Hp S0 w0 w271 [.rd A_freq_0 (rowC (Eint .i64) l_freq_0), .own A20 c21 (rowC (Eint .i64) z17) 3 (Eint .i64).sz, .own A30 c31 (rowC (Eint .i64) z27) 3 (Eint .i64).sz, .own A276 c277 (rowC E_valiseref6_Node (ds243 ++ ([((rd l_freq_0 x253, [x253]), A259, c260)]))) 61 E_valiseref6_Node.sz, Dz D_valiseref6_Node S0 w0.heap.size B244 ds243 l245, Dz D_valiseref6_Node S0 w0.heap.size (blk A259 (rowC (Eint .i64) [x253])) ([((rd l_freq_0 x253, [x253]), A259, c260)]) ([(rd l_freq_0 x253, [x253])]), .own A266 c267 (rowC E_valiseref6_Node ([((rd l_freq_0 x253, [x253]), A259, c260)])) 61 E_valiseref6_Node.sz, Dz D_valiseref6_Node S0 w0.heap.size (blk A259 (rowC (Eint .i64) [x253])) ([((rd l_freq_0 x253, [x253]), A259, c260)]) ([(rd l_freq_0 x253, [x253])])] := HS272
              have HS278 : Hp S0 w0 w271 [.rd A_freq_0 (rowC (Eint .i64) l_freq_0), .own A20 c21 (rowC (Eint .i64) z17) 3 (Eint .i64).sz, .own A30 c31 (rowC (Eint .i64) z27) 3 (Eint .i64).sz, .own A276 c277 (rowC E_valiseref6_Node (ds243 ++ ([((rd l_freq_0 x253, [x253]), A259, c260)]))) 61 E_valiseref6_Node.sz, Dz D_valiseref6_Node S0 w0.heap.size (orB B244 (blk A259 (rowC (Eint .i64) [x253]))) (ds243 ++ ([((rd l_freq_0 x253, [x253]), A259, c260)])) l273, Dz D_valiseref6_Node S0 w0.heap.size (blk A259 (rowC (Eint .i64) [x253])) ([((rd l_freq_0 x253, [x253]), A259, c260)]) ([(rd l_freq_0 x253, [x253])]), .own A266 c267 (rowC E_valiseref6_Node ([((rd l_freq_0 x253, [x253]), A259, c260)])) 61 E_valiseref6_Node.sz, Dz D_valiseref6_Node S0 w0.heap.size (blk A259 (rowC (Eint .i64) [x253])) ([((rd l_freq_0 x253, [x253]), A259, c260)]) ([(rd l_freq_0 x253, [x253])])] := HS272.dzApp (i := 4) (j := 7) rfl rfl h274
              refine F_val rfl rfl rfl (O_assign rfl rfl) ?_
              refine F_nil ?_
              refine L_endB hN250 ?_
              have HS279 : Hp S0 w0 w271 [.rd A_freq_0 (rowC (Eint .i64) l_freq_0), .own A20 c21 (rowC (Eint .i64) z17) 3 (Eint .i64).sz, .own A30 c31 (rowC (Eint .i64) z27) 3 (Eint .i64).sz, .own A276 c277 (rowC E_valiseref6_Node (ds243 ++ ([((rd l_freq_0 x253, [x253]), A259, c260)]))) 61 E_valiseref6_Node.sz, Dz D_valiseref6_Node S0 w0.heap.size (orB B244 (blk A259 (rowC (Eint .i64) [x253]))) (ds243 ++ ([((rd l_freq_0 x253, [x253]), A259, c260)])) l273] := HS278.sel [0, 1, 2, 3, 4] rfl
              refine L_region ?_
              refine F_val rfl rfl rfl (O_move rfl rfl) ?_
              refine F_val rfl rfl rfl (O_add rfl rfl rfl) ?_
              obtain ⟨x280, h281, H⟩ := of_bnd H
              refine F_val rfl rfl rfl (O_assign' rfl rfl (congrArg (Value.int .i64) h281)) ?_
              refine F_nil ?_
              refine L_nil (fun a ha => hNp240 _ a _ (Nat.lt_succ_self _) ⟨_, _, _, _, _, _, Is.cons ha (Is.cons ha (Is.cons ha (Is.cons ha (Is.cons ha (Is.nil ha) rfl) rfl) rfl) rfl) rfl, HS279.sel [0, 1, 2, 3, 4] rfl, H⟩)
            · have H := of_neg H c249
              refine L_exitB (fun a w h => hOp240 (.exit 0) a w rfl (hXb167 a w h)) ?_
              refine L_nil (fun a ha => hNj46 a _ ⟨_, _, _, _, _, (Option.some.inj H).symm, Is.cons ha (Is.cons ha (Is.nil ha) rfl) rfl, HS248.sel [0, 1, 3, 4] rfl⟩)
        · obtain ⟨l166, A162, c163, ds164, B165, ej, ha, HS283⟩ := hR
          obtain rfl := ej.symm
          refine wpLF_app ?_ ha
          refine L_seq ?_
          obtain ⟨yj284, Hyj284, H⟩ := of_bind H
          refine L_join (fun a w => ∃ (l2722 : List Int), yj284 = l2722 ∧ Is Try.f21.ntmps a [(5, .slice A20 l2722.length c21)] ∧ Hp S0 w0 w [.rd A_freq_0 (rowC (Eint .i64) l_freq_0), .own A20 c21 (rowC (Eint .i64) l2722) 3 (Eint .i64).sz]) (fun Qj284 hNj284 hOj284 => ?_) (fun a w hR => ?_)
          · skip
            have H := Hyj284
            refine L_blk (fun Qb2723 hNb2723 hXb2723 hOb2723 => ?_)
            refine L_lp (fun k a w => ∃ (l4345 : List Int), ∃ (l4350 : List (Int × List Int)), ∃ (A4346 : Option Addr), ∃ (c4347 : Nat), ∃ (ds4348 : List ((Int × List Int) × Option Addr × Nat)), ∃ (B4349 : Nat → Prop), Is Try.f21.ntmps a [(5, .slice A20 l4345.length c21), (7, .slice A4346 l4350.length c4347)] ∧ Hp S0 w0 w [.rd A_freq_0 (rowC (Eint .i64) l_freq_0), .own A20 c21 (rowC (Eint .i64) l4345) 3 (Eint .i64).sz, .own A4346 c4347 (rowC E_valiseref6_Node ds4348) 61 E_valiseref6_Node.sz, Dz D_valiseref6_Node S0 w0.heap.size B4349 ds4348 l4350] ∧ valiseref6_Depths.l33 k l4345 l4350  = some yj284) FU (fun a ha => ⟨_, _, _, _, _, _, Is.cons ha (Is.cons ha (Is.nil ha) rfl) rfl, HS283.sel [0, 1, 2, 3] rfl, H⟩) (fun kp4344 a w4351 hI Qp4344 hNp4344 hOp4344 => ?_)
            obtain ⟨l4345, l4350, A4346, c4347, ds4348, B4349, ha, HS4352, HAp4344⟩ := hI
            cases kp4344 with
            | zero => cases (show (none : Option _) = some _ from HAp4344)
            | succ kp4344 =>
              have H := (valiseref6_Depths.l33.eq_2 ..).symm.trans HAp4344
              refine wpLF_app ?_ ha
              refine L_seq ?_
              refine L_seq ?_
              refine L_region ?_
              refine F_val rfl rfl rfl (O_move rfl rfl) ?_
              refine F_val rfl rfl rfl (O_len rfl rfl Try.underlying59) ?_
              refine F_val rfl rfl rfl (O_ge rfl rfl rfl) ?_
              refine F_nil ?_
              refine L_condP rfl (fun c4353 => ?_) (fun c4353 => ?_)
              · have H := of_pos H c4353
                refine L_skip ?_
                refine L_blk (fun Q4354 hN4354 hX4354 hO4354 => ?_)
                refine L_seq ?_
                refine L_region ?_
                refine F_val rfl rfl rfl (O_move rfl rfl) ?_
                obtain ⟨z4357, h4356, H⟩ := of_bind H
                refine F_qcall (v := .int .i64 z4357) (xs := [.tmp 63]) rfl rfl rfl rfl Try.func44 nm44 rfl rfl ((valiseref6_lightest.calls (HS4352.give [] rfl (Lent.own HS4352 (Lent.dz HS4352 (Lent.nil) (i := 3) rfl dz_self (HS4352.dze (i := 3) rfl)) (i := 2) rfl rfl ((HS4352.cells_own (i := 2) rfl).self))) (dz_capx (HS4352.dze (i := 3) rfl) (HS4352.own_capE (i := 2) rfl (by decide))) h4356).mono (fun e w hc => ?_)) (fun w4358 hw4359 => ?_)
                · obtain ⟨rfl, h⟩ := hc
                  exact ⟨rfl, h.chg0⟩
                have HS4360 := HS4352.keep hw4359
                refine F_val rfl rfl rfl (O_assign rfl rfl) ?_
                refine F_nil ?_
                refine L_seq ?_
                refine L_region ?_
                refine F_val rfl rfl rfl (O_move rfl rfl) ?_
                refine F_val rfl rfl rfl (O_move rfl rfl) ?_
                obtain ⟨⟨g4361, g4362⟩, H⟩ := of_gd H
                refine F_val rfl rfl rfl (O_idx rfl rfl rfl Try.underlying59 size61 g4361 g4362 (Cells.isA (HS4360.cells_own (i := 2) rfl) (dz_ne (D := D_valiseref6_Node) (HS4360.dze (i := 3) rfl) g4361 g4362 (by decide)))) ?_
                have HS4364 : Hp S0 w0 w4358 [.rd A_freq_0 (rowC (Eint .i64) l_freq_0), .own A20 c21 (rowC (Eint .i64) l4345) 3 (Eint .i64).sz, .own A4346 c4347 (rowC E_valiseref6_Node ds4348) 61 E_valiseref6_Node.sz, Dz D_valiseref6_Node S0 w0.heap.size B4349 ds4348 l4350, Dz D_valiseref6_Node S0 w0.heap.size B4349 [(rdx E_valiseref6_Node ds4348 z4357)] ([(rdp ((0, []) : (Int × List Int)) l4350 z4357)])] := HS4360.dzOne (i := 3) rfl dz_self (HS4360.dze (i := 3) rfl) g4361 g4362
                refine F_val rfl rfl rfl (O_loadElD (D := D_valiseref6_Node) rfl rfl wide61 (HS4364.cells_own (i := 2) rfl) (HS4364.dze (i := 3) rfl) g4361 g4362 (by decide)) ?_
                refine F_alloc (C := [.int .i64 0, .slice none 0 0]) rfl rfl rfl rfl zero61 rfl HS4364 (fun w4365 g4367 HS4366 => ?_)
                have HS4366 : Hp S0 w0 w4365 [.rd A_freq_0 (rowC (Eint .i64) l_freq_0), .own A20 c21 (rowC (Eint .i64) l4345) 3 (Eint .i64).sz, .own A4346 c4347 (rowC E_valiseref6_Node ds4348) 61 E_valiseref6_Node.sz, Dz D_valiseref6_Node S0 w0.heap.size B4349 ds4348 l4350, Dz D_valiseref6_Node S0 w0.heap.size B4349 [(rdx E_valiseref6_Node ds4348 z4357)] ([(rdp ((0, []) : (Int × List Int)) l4350 z4357)]), .box g4367 [.int .i64 0, .slice none 0 0] 61] := HS4366
                have hc4371 := HS4366.ndCap (i := 4) rfl (rfl : _ = (rdp ((0, []) : (Int × List Int)) l4350 z4357).2)
                have HS4373 : Hp S0 w0 w4365 [.rd A_freq_0 (rowC (Eint .i64) l_freq_0), .own A20 c21 (rowC (Eint .i64) l4345) 3 (Eint .i64).sz, .own A4346 c4347 (rowC E_valiseref6_Node ds4348) 61 E_valiseref6_Node.sz, Dz D_valiseref6_Node S0 w0.heap.size B4349 ds4348 l4350, Dz D_valiseref6_Node S0 w0.heap.size B4349 [(rdx E_valiseref6_Node ds4348 z4357)] ([(rdp ((0, []) : (Int × List Int)) l4350 z4357)]), .box g4367 [.int .i64 0, .slice none 0 0] 61, .rd ((rdx E_valiseref6_Node ds4348 z4357).2.1) (rowC (Eint .i64) ((rdp ((0, []) : (Int × List Int)) l4350 z4357).2))] := HS4366.ndRd (i := 4) rfl rfl
                refine F_know (i := 68) rfl (show (.agg (E_valiseref6_Node.enc (rdx E_valiseref6_Node ds4348 z4357)).toArray : Value) = .agg #[.int .i64 ((rdp ((0, []) : (Int × List Int)) l4350 z4357).1), .slice ((rdx E_valiseref6_Node ds4348 z4357).2.1) ((rdp ((0, []) : (Int × List Int)) l4350 z4357).2).length ((rdx E_valiseref6_Node ds4348 z4357).2.2)] from by rw [← (HS4373.ndE (i := 4) rfl)]; rfl) ?_
                refine F_stB 5 ([.int .i64 ((rdp ((0, []) : (Int × List Int)) l4350 z4357).1), .slice ((rdx E_valiseref6_Node ds4348 z4357).2.1) ((rdp ((0, []) : (Int × List Int)) l4350 z4357).2).length ((rdx E_valiseref6_Node ds4348 z4357).2.2)]) rfl rfl rfl rfl rfl size61 HS4373 rfl rfl rfl rfl rfl (fun w4369 HS4370 => ?_)
                have HS4370 : Hp S0 w0 w4369 [.rd A_freq_0 (rowC (Eint .i64) l_freq_0), .own A20 c21 (rowC (Eint .i64) l4345) 3 (Eint .i64).sz, .own A4346 c4347 (rowC E_valiseref6_Node ds4348) 61 E_valiseref6_Node.sz, Dz D_valiseref6_Node S0 w0.heap.size B4349 ds4348 l4350, Dz D_valiseref6_Node S0 w0.heap.size B4349 [(rdx E_valiseref6_Node ds4348 z4357)] ([(rdp ((0, []) : (Int × List Int)) l4350 z4357)]), .box g4367 ([.int .i64 ((rdp ((0, []) : (Int × List Int)) l4350 z4357).1), .slice ((rdx E_valiseref6_Node ds4348 z4357).2.1) ((rdp ((0, []) : (Int × List Int)) l4350 z4357).2).length ((rdx E_valiseref6_Node ds4348 z4357).2.2)]) 61, .rd ((rdx E_valiseref6_Node ds4348 z4357).2.1) (rowC (Eint .i64) ((rdp ((0, []) : (Int × List Int)) l4350 z4357).2))] := HS4370
                refine F_nil ?_
                refine L_seq ?_
                refine L_region ?_
                refine F_val rfl rfl rfl (O_move rfl rfl) ?_
                refine F_val rfl rfl rfl (O_move rfl rfl) ?_
                obtain ⟨z4378, h4377, H⟩ := of_bind H
                refine F_call (xs := [.tmp 69, .tmp 70]) rfl rfl rfl rfl Try.func45 nm45 rfl rfl ((valiseref6_without.calls (HS4370.give [] rfl (Lent.own HS4370 (Lent.dz HS4370 (Lent.nil) (i := 3) rfl dz_self (HS4370.dze (i := 3) rfl)) (i := 2) rfl rfl ((HS4370.cells_own (i := 2) rfl).self))) (dz_capx (HS4370.dze (i := 3) rfl) (HS4370.own_capE (i := 2) rfl (by decide))) h4377).mono (fun e w hc => ?_))
                obtain ⟨A4381, c4382, ds4384, B4385, rfl, HSo⟩ := hc
                refine ⟨.slice A4381 z4378.length c4382, rfl, ?_⟩
                have HS4380 : Hp S0 w0 w [.rd A_freq_0 (rowC (Eint .i64) l_freq_0), .own A20 c21 (rowC (Eint .i64) l4345) 3 (Eint .i64).sz, .own A4346 c4347 (rowC E_valiseref6_Node ds4348) 61 E_valiseref6_Node.sz, Dz D_valiseref6_Node S0 w0.heap.size B4349 ds4348 l4350, Dz D_valiseref6_Node S0 w0.heap.size B4349 [(rdx E_valiseref6_Node ds4348 z4357)] ([(rdp ((0, []) : (Int × List Int)) l4350 z4357)]), .box g4367 ([.int .i64 ((rdp ((0, []) : (Int × List Int)) l4350 z4357).1), .slice ((rdx E_valiseref6_Node ds4348 z4357).2.1) ((rdp ((0, []) : (Int × List Int)) l4350 z4357).2).length ((rdx E_valiseref6_Node ds4348 z4357).2.2)]) 61, .rd ((rdx E_valiseref6_Node ds4348 z4357).2.1) (rowC (Eint .i64) ((rdp ((0, []) : (Int × List Int)) l4350 z4357).2)), .own A4381 c4382 (rowC E_valiseref6_Node ds4384) 61 E_valiseref6_Node.sz, Dz D_valiseref6_Node S0 w0.heap.size B4385 ds4384 z4378] := ((HS4370.backD [] HSo (Pv.backG (Pv.own (Pv.per (HSo.dz (i := 1) rfl).1 Pv.nil)) (fun b => (fun hb => Or.elim hb (fun hb => .inl hb) (fun hb => .inr ⟨_, _, nth_mem (i := 3) rfl, hb⟩))))).sel [0, 1, 2, 3, 4, 5, 6, 7, 8] rfl).dzProv (i := 8) rfl (fun b hb _ => Or.elim hb (fun hb => Or.elim hb (fun hb => (HS4370.mine _ (feet_pick_le hb)).elim (hSF _) .inr) (fun hb => (HS4370.dz (i := 3) rfl).1 _ hb)) (fun h => .inr (Nat.le_trans HS4370.chg.size h)))
                refine F_val rfl rfl rfl (O_assign rfl rfl) ?_
                refine F_nil ?_
                refine L_seq ?_
                refine L_region ?_
                refine F_val rfl rfl rfl (O_move rfl rfl) ?_
                obtain ⟨z4389, h4388, H⟩ := of_bind H
                refine F_qcall (v := .int .i64 z4389) (xs := [.tmp 72]) rfl rfl rfl rfl Try.func44 nm44 rfl rfl ((valiseref6_lightest.calls (HS4380.give [] rfl (Lent.own HS4380 (Lent.dz HS4380 (Lent.nil) (i := 8) rfl dz_self (HS4380.dze (i := 8) rfl)) (i := 7) rfl rfl ((HS4380.cells_own (i := 7) rfl).self))) (dz_capx (HS4380.dze (i := 8) rfl) (HS4380.own_capE (i := 7) rfl (by decide))) h4388).mono (fun e w hc => ?_)) (fun w4390 hw4391 => ?_)
                · obtain ⟨rfl, h⟩ := hc
                  exact ⟨rfl, h.chg0⟩
                have HS4392 := HS4380.keep hw4391
                refine F_val rfl rfl rfl (O_assign rfl rfl) ?_
                refine F_nil ?_
                refine L_seq ?_
                refine L_region ?_
                refine F_val rfl rfl rfl (O_move rfl rfl) ?_
                refine F_val rfl rfl rfl (O_move rfl rfl) ?_
                obtain ⟨⟨g4393, g4394⟩, H⟩ := of_gd H
                refine F_val rfl rfl rfl (O_idx rfl rfl rfl Try.underlying59 size61 g4393 g4394 (Cells.isA (HS4392.cells_own (i := 7) rfl) (dz_ne (D := D_valiseref6_Node) (HS4392.dze (i := 8) rfl) g4393 g4394 (by decide)))) ?_
                have HS4396 : Hp S0 w0 w4390 [.rd A_freq_0 (rowC (Eint .i64) l_freq_0), .own A20 c21 (rowC (Eint .i64) l4345) 3 (Eint .i64).sz, .own A4346 c4347 (rowC E_valiseref6_Node ds4348) 61 E_valiseref6_Node.sz, Dz D_valiseref6_Node S0 w0.heap.size B4349 ds4348 l4350, Dz D_valiseref6_Node S0 w0.heap.size B4349 [(rdx E_valiseref6_Node ds4348 z4357)] ([(rdp ((0, []) : (Int × List Int)) l4350 z4357)]), .box g4367 ([.int .i64 ((rdp ((0, []) : (Int × List Int)) l4350 z4357).1), .slice ((rdx E_valiseref6_Node ds4348 z4357).2.1) ((rdp ((0, []) : (Int × List Int)) l4350 z4357).2).length ((rdx E_valiseref6_Node ds4348 z4357).2.2)]) 61, .rd ((rdx E_valiseref6_Node ds4348 z4357).2.1) (rowC (Eint .i64) ((rdp ((0, []) : (Int × List Int)) l4350 z4357).2)), .own A4381 c4382 (rowC E_valiseref6_Node ds4384) 61 E_valiseref6_Node.sz, Dz D_valiseref6_Node S0 w0.heap.size B4385 ds4384 z4378, Dz D_valiseref6_Node S0 w0.heap.size B4385 [(rdx E_valiseref6_Node ds4384 z4389)] ([(rdp ((0, []) : (Int × List Int)) z4378 z4389)])] := HS4392.dzOne (i := 8) rfl dz_self (HS4392.dze (i := 8) rfl) g4393 g4394
                refine F_val rfl rfl rfl (O_loadElD (D := D_valiseref6_Node) rfl rfl wide61 (HS4396.cells_own (i := 7) rfl) (HS4396.dze (i := 8) rfl) g4393 g4394 (by decide)) ?_
                refine F_alloc (C := [.int .i64 0, .slice none 0 0]) rfl rfl rfl rfl zero61 rfl HS4396 (fun w4397 g4399 HS4398 => ?_)
                have HS4398 : Hp S0 w0 w4397 [.rd A_freq_0 (rowC (Eint .i64) l_freq_0), .own A20 c21 (rowC (Eint .i64) l4345) 3 (Eint .i64).sz, .own A4346 c4347 (rowC E_valiseref6_Node ds4348) 61 E_valiseref6_Node.sz, Dz D_valiseref6_Node S0 w0.heap.size B4349 ds4348 l4350, Dz D_valiseref6_Node S0 w0.heap.size B4349 [(rdx E_valiseref6_Node ds4348 z4357)] ([(rdp ((0, []) : (Int × List Int)) l4350 z4357)]), .box g4367 ([.int .i64 ((rdp ((0, []) : (Int × List Int)) l4350 z4357).1), .slice ((rdx E_valiseref6_Node ds4348 z4357).2.1) ((rdp ((0, []) : (Int × List Int)) l4350 z4357).2).length ((rdx E_valiseref6_Node ds4348 z4357).2.2)]) 61, .rd ((rdx E_valiseref6_Node ds4348 z4357).2.1) (rowC (Eint .i64) ((rdp ((0, []) : (Int × List Int)) l4350 z4357).2)), .own A4381 c4382 (rowC E_valiseref6_Node ds4384) 61 E_valiseref6_Node.sz, Dz D_valiseref6_Node S0 w0.heap.size B4385 ds4384 z4378, Dz D_valiseref6_Node S0 w0.heap.size B4385 [(rdx E_valiseref6_Node ds4384 z4389)] ([(rdp ((0, []) : (Int × List Int)) z4378 z4389)]), .box g4399 [.int .i64 0, .slice none 0 0] 61] := HS4398
                have hc4403 := HS4398.ndCap (i := 9) rfl (rfl : _ = (rdp ((0, []) : (Int × List Int)) z4378 z4389).2)
                have HS4405 : Hp S0 w0 w4397 [.rd A_freq_0 (rowC (Eint .i64) l_freq_0), .own A20 c21 (rowC (Eint .i64) l4345) 3 (Eint .i64).sz, .own A4346 c4347 (rowC E_valiseref6_Node ds4348) 61 E_valiseref6_Node.sz, Dz D_valiseref6_Node S0 w0.heap.size B4349 ds4348 l4350, Dz D_valiseref6_Node S0 w0.heap.size B4349 [(rdx E_valiseref6_Node ds4348 z4357)] ([(rdp ((0, []) : (Int × List Int)) l4350 z4357)]), .box g4367 ([.int .i64 ((rdp ((0, []) : (Int × List Int)) l4350 z4357).1), .slice ((rdx E_valiseref6_Node ds4348 z4357).2.1) ((rdp ((0, []) : (Int × List Int)) l4350 z4357).2).length ((rdx E_valiseref6_Node ds4348 z4357).2.2)]) 61, .rd ((rdx E_valiseref6_Node ds4348 z4357).2.1) (rowC (Eint .i64) ((rdp ((0, []) : (Int × List Int)) l4350 z4357).2)), .own A4381 c4382 (rowC E_valiseref6_Node ds4384) 61 E_valiseref6_Node.sz, Dz D_valiseref6_Node S0 w0.heap.size B4385 ds4384 z4378, Dz D_valiseref6_Node S0 w0.heap.size B4385 [(rdx E_valiseref6_Node ds4384 z4389)] ([(rdp ((0, []) : (Int × List Int)) z4378 z4389)]), .box g4399 [.int .i64 0, .slice none 0 0] 61, .rd ((rdx E_valiseref6_Node ds4384 z4389).2.1) (rowC (Eint .i64) ((rdp ((0, []) : (Int × List Int)) z4378 z4389).2))] := HS4398.ndRd (i := 9) rfl rfl
                refine F_know (i := 77) rfl (show (.agg (E_valiseref6_Node.enc (rdx E_valiseref6_Node ds4384 z4389)).toArray : Value) = .agg #[.int .i64 ((rdp ((0, []) : (Int × List Int)) z4378 z4389).1), .slice ((rdx E_valiseref6_Node ds4384 z4389).2.1) ((rdp ((0, []) : (Int × List Int)) z4378 z4389).2).length ((rdx E_valiseref6_Node ds4384 z4389).2.2)] from by rw [← (HS4405.ndE (i := 9) rfl)]; rfl) ?_
                refine F_stB 10 ([.int .i64 ((rdp ((0, []) : (Int × List Int)) z4378 z4389).1), .slice ((rdx E_valiseref6_Node ds4384 z4389).2.1) ((rdp ((0, []) : (Int × List Int)) z4378 z4389).2).length ((rdx E_valiseref6_Node ds4384 z4389).2.2)]) rfl rfl rfl rfl rfl size61 HS4405 rfl rfl rfl rfl rfl (fun w4401 HS4402 => ?_)
                have HS4402 : Hp S0 w0 w4401 [.rd A_freq_0 (rowC (Eint .i64) l_freq_0), .own A20 c21 (rowC (Eint .i64) l4345) 3 (Eint .i64).sz, .own A4346 c4347 (rowC E_valiseref6_Node ds4348) 61 E_valiseref6_Node.sz, Dz D_valiseref6_Node S0 w0.heap.size B4349 ds4348 l4350, Dz D_valiseref6_Node S0 w0.heap.size B4349 [(rdx E_valiseref6_Node ds4348 z4357)] ([(rdp ((0, []) : (Int × List Int)) l4350 z4357)]), .box g4367 ([.int .i64 ((rdp ((0, []) : (Int × List Int)) l4350 z4357).1), .slice ((rdx E_valiseref6_Node ds4348 z4357).2.1) ((rdp ((0, []) : (Int × List Int)) l4350 z4357).2).length ((rdx E_valiseref6_Node ds4348 z4357).2.2)]) 61, .rd ((rdx E_valiseref6_Node ds4348 z4357).2.1) (rowC (Eint .i64) ((rdp ((0, []) : (Int × List Int)) l4350 z4357).2)), .own A4381 c4382 (rowC E_valiseref6_Node ds4384) 61 E_valiseref6_Node.sz, Dz D_valiseref6_Node S0 w0.heap.size B4385 ds4384 z4378, Dz D_valiseref6_Node S0 w0.heap.size B4385 [(rdx E_valiseref6_Node ds4384 z4389)] ([(rdp ((0, []) : (Int × List Int)) z4378 z4389)]), .box g4399 ([.int .i64 ((rdp ((0, []) : (Int × List Int)) z4378 z4389).1), .slice ((rdx E_valiseref6_Node ds4384 z4389).2.1) ((rdp ((0, []) : (Int × List Int)) z4378 z4389).2).length ((rdx E_valiseref6_Node ds4384 z4389).2.2)]) 61, .rd ((rdx E_valiseref6_Node ds4384 z4389).2.1) (rowC (Eint .i64) ((rdp ((0, []) : (Int × List Int)) z4378 z4389).2))] := HS4402
                refine F_nil ?_
                refine L_seq ?_
                have HS4406 : Hp S0 w0 w4401 [.rd A_freq_0 (rowC (Eint .i64) l_freq_0), .own A20 c21 (rowC (Eint .i64) l4345) 3 (Eint .i64).sz, .own A4346 c4347 (rowC E_valiseref6_Node ds4348) 61 E_valiseref6_Node.sz, Dz D_valiseref6_Node S0 w0.heap.size B4349 ds4348 l4350, .box g4367 ([.int .i64 ((rdp ((0, []) : (Int × List Int)) l4350 z4357).1), .slice ((rdx E_valiseref6_Node ds4348 z4357).2.1) ((rdp ((0, []) : (Int × List Int)) l4350 z4357).2).length ((rdx E_valiseref6_Node ds4348 z4357).2.2)]) 61, .rd ((rdx E_valiseref6_Node ds4348 z4357).2.1) (rowC (Eint .i64) ((rdp ((0, []) : (Int × List Int)) l4350 z4357).2)), .own A4381 c4382 (rowC E_valiseref6_Node ds4384) 61 E_valiseref6_Node.sz, Dz D_valiseref6_Node S0 w0.heap.size B4385 ds4384 z4378, .box g4399 ([.int .i64 ((rdp ((0, []) : (Int × List Int)) z4378 z4389).1), .slice ((rdx E_valiseref6_Node ds4384 z4389).2.1) ((rdp ((0, []) : (Int × List Int)) z4378 z4389).2).length ((rdx E_valiseref6_Node ds4384 z4389).2.2)]) 61, .rd ((rdx E_valiseref6_Node ds4384 z4389).2.1) (rowC (Eint .i64) ((rdp ((0, []) : (Int × List Int)) z4378 z4389).2))] := HS4402.sel [0, 1, 2, 3, 5, 6, 7, 8, 10, 11] rfl
                refine L_region ?_
                refine F_val rfl rfl rfl (O_move rfl rfl) ?_
                refine F_val rfl rfl rfl (O_move rfl rfl) ?_
                obtain ⟨z4411, h4410, H⟩ := of_bind H
                refine F_call (xs := [.tmp 78, .tmp 79]) rfl rfl rfl rfl Try.func45 nm45 rfl rfl ((valiseref6_without.calls (HS4406.give [] rfl (Lent.own HS4406 (Lent.dz HS4406 (Lent.nil) (i := 7) rfl dz_self (HS4406.dze (i := 7) rfl)) (i := 6) rfl rfl ((HS4406.cells_own (i := 6) rfl).self))) (dz_capx (HS4406.dze (i := 7) rfl) (HS4406.own_capE (i := 6) rfl (by decide))) h4410).mono (fun e w hc => ?_))
                obtain ⟨A4414, c4415, ds4417, B4418, rfl, HSo⟩ := hc
                refine ⟨.slice A4414 z4411.length c4415, rfl, ?_⟩
                have HS4413 : Hp S0 w0 w [.rd A_freq_0 (rowC (Eint .i64) l_freq_0), .own A20 c21 (rowC (Eint .i64) l4345) 3 (Eint .i64).sz, .own A4346 c4347 (rowC E_valiseref6_Node ds4348) 61 E_valiseref6_Node.sz, Dz D_valiseref6_Node S0 w0.heap.size B4349 ds4348 l4350, .box g4367 ([.int .i64 ((rdp ((0, []) : (Int × List Int)) l4350 z4357).1), .slice ((rdx E_valiseref6_Node ds4348 z4357).2.1) ((rdp ((0, []) : (Int × List Int)) l4350 z4357).2).length ((rdx E_valiseref6_Node ds4348 z4357).2.2)]) 61, .rd ((rdx E_valiseref6_Node ds4348 z4357).2.1) (rowC (Eint .i64) ((rdp ((0, []) : (Int × List Int)) l4350 z4357).2)), .own A4381 c4382 (rowC E_valiseref6_Node ds4384) 61 E_valiseref6_Node.sz, Dz D_valiseref6_Node S0 w0.heap.size B4385 ds4384 z4378, .box g4399 ([.int .i64 ((rdp ((0, []) : (Int × List Int)) z4378 z4389).1), .slice ((rdx E_valiseref6_Node ds4384 z4389).2.1) ((rdp ((0, []) : (Int × List Int)) z4378 z4389).2).length ((rdx E_valiseref6_Node ds4384 z4389).2.2)]) 61, .rd ((rdx E_valiseref6_Node ds4384 z4389).2.1) (rowC (Eint .i64) ((rdp ((0, []) : (Int × List Int)) z4378 z4389).2)), .own A4414 c4415 (rowC E_valiseref6_Node ds4417) 61 E_valiseref6_Node.sz, Dz D_valiseref6_Node S0 w0.heap.size B4418 ds4417 z4411] := ((HS4406.backD [] HSo (Pv.backG (Pv.own (Pv.per (HSo.dz (i := 1) rfl).1 Pv.nil)) (fun b => (fun hb => Or.elim hb (fun hb => .inl hb) (fun hb => .inr ⟨_, _, nth_mem (i := 7) rfl, hb⟩))))).sel [0, 1, 2, 3, 4, 5, 6, 7, 8, 9, 10, 11] rfl).dzProv (i := 11) rfl (fun b hb _ => Or.elim hb (fun hb => Or.elim hb (fun hb => (HS4406.mine _ (feet_pick_le hb)).elim (hSF _) .inr) (fun hb => (HS4406.dz (i := 7) rfl).1 _ hb)) (fun h => .inr (Nat.le_trans HS4406.chg.size h)))
                refine F_val rfl rfl rfl (O_assign rfl rfl) ?_
                refine F_nil ?_
                refine L_seq ?_
                have HS4420 : Hp S0 w0 w [.rd A_freq_0 (rowC (Eint .i64) l_freq_0), .own A20 c21 (rowC (Eint .i64) l4345) 3 (Eint .i64).sz, .own A4346 c4347 (rowC E_valiseref6_Node ds4348) 61 E_valiseref6_Node.sz, Dz D_valiseref6_Node S0 w0.heap.size B4349 ds4348 l4350, .box g4367 ([.int .i64 ((rdp ((0, []) : (Int × List Int)) l4350 z4357).1), .slice ((rdx E_valiseref6_Node ds4348 z4357).2.1) ((rdp ((0, []) : (Int × List Int)) l4350 z4357).2).length ((rdx E_valiseref6_Node ds4348 z4357).2.2)]) 61, .rd ((rdx E_valiseref6_Node ds4348 z4357).2.1) (rowC (Eint .i64) ((rdp ((0, []) : (Int × List Int)) l4350 z4357).2)), .box g4399 ([.int .i64 ((rdp ((0, []) : (Int × List Int)) z4378 z4389).1), .slice ((rdx E_valiseref6_Node ds4384 z4389).2.1) ((rdp ((0, []) : (Int × List Int)) z4378 z4389).2).length ((rdx E_valiseref6_Node ds4384 z4389).2.2)]) 61, .rd ((rdx E_valiseref6_Node ds4384 z4389).2.1) (rowC (Eint .i64) ((rdp ((0, []) : (Int × List Int)) z4378 z4389).2)), .own A4414 c4415 (rowC E_valiseref6_Node ds4417) 61 E_valiseref6_Node.sz, Dz D_valiseref6_Node S0 w0.heap.size B4418 ds4417 z4411] := HS4413.sel [0, 1, 2, 3, 4, 5, 8, 9, 10, 11] rfl
                refine L_region ?_
                refine F_val rfl rfl rfl (O_fieldB rfl rfl field61_0) ?_
                refine F_val rfl rfl rfl (O_loadB rfl rfl flat3 (HS4420.cells_box (i := 4) rfl) rfl) ?_
                refine F_val rfl rfl rfl (O_fieldB rfl rfl field61_0) ?_
                refine F_val rfl rfl rfl (O_loadB rfl rfl flat3 (HS4420.cells_box (i := 6) rfl) rfl) ?_
                refine F_val rfl rfl rfl (O_add rfl rfl rfl) ?_
                refine F_val rfl rfl rfl (O_build (vs := [(0, .int .i64 (IntKind.i64.wrap (((rdp ((0, []) : (Int × List Int)) l4350 z4357).1) + ((rdp ((0, []) : (Int × List Int)) z4378 z4389).1))))]) (v := .agg #[.int .i64 (IntKind.i64.wrap (((rdp ((0, []) : (Int × List Int)) l4350 z4357).1) + ((rdp ((0, []) : (Int × List Int)) z4378 z4389).1))), .slice none 0 0]) rfl rfl rfl (fun w => by kernel_rfl)) ?_
                refine F_alloc (C := [.int .i64 0, .slice none 0 0]) rfl rfl rfl rfl zero61 rfl HS4420 (fun w4421 g4423 HS4422 => ?_)
                have HS4422 : Hp S0 w0 w4421 [.rd A_freq_0 (rowC (Eint .i64) l_freq_0), .own A20 c21 (rowC (Eint .i64) l4345) 3 (Eint .i64).sz, .own A4346 c4347 (rowC E_valiseref6_Node ds4348) 61 E_valiseref6_Node.sz, Dz D_valiseref6_Node S0 w0.heap.size B4349 ds4348 l4350, .box g4367 ([.int .i64 ((rdp ((0, []) : (Int × List Int)) l4350 z4357).1), .slice ((rdx E_valiseref6_Node ds4348 z4357).2.1) ((rdp ((0, []) : (Int × List Int)) l4350 z4357).2).length ((rdx E_valiseref6_Node ds4348 z4357).2.2)]) 61, .rd ((rdx E_valiseref6_Node ds4348 z4357).2.1) (rowC (Eint .i64) ((rdp ((0, []) : (Int × List Int)) l4350 z4357).2)), .box g4399 ([.int .i64 ((rdp ((0, []) : (Int × List Int)) z4378 z4389).1), .slice ((rdx E_valiseref6_Node ds4384 z4389).2.1) ((rdp ((0, []) : (Int × List Int)) z4378 z4389).2).length ((rdx E_valiseref6_Node ds4384 z4389).2.2)]) 61, .rd ((rdx E_valiseref6_Node ds4384 z4389).2.1) (rowC (Eint .i64) ((rdp ((0, []) : (Int × List Int)) z4378 z4389).2)), .own A4414 c4415 (rowC E_valiseref6_Node ds4417) 61 E_valiseref6_Node.sz, Dz D_valiseref6_Node S0 w0.heap.size B4418 ds4417 z4411, .box g4423 [.int .i64 0, .slice none 0 0] 61] := HS4422
                have HS4427 := HS4422.addNil 3 (Eint .i64).sz
                have HS4427 : Hp S0 w0 w4421 [.rd A_freq_0 (rowC (Eint .i64) l_freq_0), .own A20 c21 (rowC (Eint .i64) l4345) 3 (Eint .i64).sz, .own A4346 c4347 (rowC E_valiseref6_Node ds4348) 61 E_valiseref6_Node.sz, Dz D_valiseref6_Node S0 w0.heap.size B4349 ds4348 l4350, .box g4367 ([.int .i64 ((rdp ((0, []) : (Int × List Int)) l4350 z4357).1), .slice ((rdx E_valiseref6_Node ds4348 z4357).2.1) ((rdp ((0, []) : (Int × List Int)) l4350 z4357).2).length ((rdx E_valiseref6_Node ds4348 z4357).2.2)]) 61, .rd ((rdx E_valiseref6_Node ds4348 z4357).2.1) (rowC (Eint .i64) ((rdp ((0, []) : (Int × List Int)) l4350 z4357).2)), .box g4399 ([.int .i64 ((rdp ((0, []) : (Int × List Int)) z4378 z4389).1), .slice ((rdx E_valiseref6_Node ds4384 z4389).2.1) ((rdp ((0, []) : (Int × List Int)) z4378 z4389).2).length ((rdx E_valiseref6_Node ds4384 z4389).2.2)]) 61, .rd ((rdx E_valiseref6_Node ds4384 z4389).2.1) (rowC (Eint .i64) ((rdp ((0, []) : (Int × List Int)) z4378 z4389).2)), .own A4414 c4415 (rowC E_valiseref6_Node ds4417) 61 E_valiseref6_Node.sz, Dz D_valiseref6_Node S0 w0.heap.size B4418 ds4417 z4411, .box g4423 [.int .i64 0, .slice none 0 0] 61, .own none 0 (rowC (Eint .i64) ([] : List Int)) 3 (Eint .i64).sz] := HS4427
                refine F_stB 10 ([.int .i64 (IntKind.i64.wrap (((rdp ((0, []) : (Int × List Int)) l4350 z4357).1) + ((rdp ((0, []) : (Int × List Int)) z4378 z4389).1))), .slice none ([] : List Int).length 0]) rfl rfl rfl rfl rfl size61 HS4427 rfl rfl rfl rfl rfl (fun w4425 HS4426 => ?_)
                have HS4426 : Hp S0 w0 w4425 [.rd A_freq_0 (rowC (Eint .i64) l_freq_0), .own A20 c21 (rowC (Eint .i64) l4345) 3 (Eint .i64).sz, .own A4346 c4347 (rowC E_valiseref6_Node ds4348) 61 E_valiseref6_Node.sz, Dz D_valiseref6_Node S0 w0.heap.size B4349 ds4348 l4350, .box g4367 ([.int .i64 ((rdp ((0, []) : (Int × List Int)) l4350 z4357).1), .slice ((rdx E_valiseref6_Node ds4348 z4357).2.1) ((rdp ((0, []) : (Int × List Int)) l4350 z4357).2).length ((rdx E_valiseref6_Node ds4348 z4357).2.2)]) 61, .rd ((rdx E_valiseref6_Node ds4348 z4357).2.1) (rowC (Eint .i64) ((rdp ((0, []) : (Int × List Int)) l4350 z4357).2)), .box g4399 ([.int .i64 ((rdp ((0, []) : (Int × List Int)) z4378 z4389).1), .slice ((rdx E_valiseref6_Node ds4384 z4389).2.1) ((rdp ((0, []) : (Int × List Int)) z4378 z4389).2).length ((rdx E_valiseref6_Node ds4384 z4389).2.2)]) 61, .rd ((rdx E_valiseref6_Node ds4384 z4389).2.1) (rowC (Eint .i64) ((rdp ((0, []) : (Int × List Int)) z4378 z4389).2)), .own A4414 c4415 (rowC E_valiseref6_Node ds4417) 61 E_valiseref6_Node.sz, Dz D_valiseref6_Node S0 w0.heap.size B4418 ds4417 z4411, .box g4423 ([.int .i64 (IntKind.i64.wrap (((rdp ((0, []) : (Int × List Int)) l4350 z4357).1) + ((rdp ((0, []) : (Int × List Int)) z4378 z4389).1))), .slice none ([] : List Int).length 0]) 61, .own none 0 (rowC (Eint .i64) ([] : List Int)) 3 (Eint .i64).sz] := HS4426
                refine F_nil ?_
                refine L_seq ?_
                refine L_seq ?_
                refine L_region ?_
                refine F_val rfl rfl rfl (O_assign rfl rfl) ?_
                refine F_nil ?_
                obtain ⟨yj4429, Hyj4429, H⟩ := of_bind H
                refine L_join (fun a w => ∃ (l4581 : List Int), ∃ (A4579 : Option Addr), ∃ (c4580 : Nat), yj4429 = l4581 ∧ Is Try.f21.ntmps a [(5, .slice A20 l4345.length c21), (7, .slice A4414 z4411.length c4415), (13, .pointer (some ⟨g4399, 0, none⟩)), (14, .pointer (some ⟨g4423, 0, none⟩))] ∧ Hp S0 w0 w [.rd A_freq_0 (rowC (Eint .i64) l_freq_0), .own A20 c21 (rowC (Eint .i64) l4345) 3 (Eint .i64).sz, .own A4414 c4415 (rowC E_valiseref6_Node ds4417) 61 E_valiseref6_Node.sz, Dz D_valiseref6_Node S0 w0.heap.size B4418 ds4417 z4411, .box g4399 ([.int .i64 ((rdp ((0, []) : (Int × List Int)) z4378 z4389).1), .slice ((rdx E_valiseref6_Node ds4384 z4389).2.1) ((rdp ((0, []) : (Int × List Int)) z4378 z4389).2).length ((rdx E_valiseref6_Node ds4384 z4389).2.2)]) 61, .rd ((rdx E_valiseref6_Node ds4384 z4389).2.1) (rowC (Eint .i64) ((rdp ((0, []) : (Int × List Int)) z4378 z4389).2)), .box g4423 ([.int .i64 (IntKind.i64.wrap (((rdp ((0, []) : (Int × List Int)) l4350 z4357).1) + ((rdp ((0, []) : (Int × List Int)) z4378 z4389).1))), .slice A4579 l4581.length c4580]) 61, .own A4579 c4580 (rowC (Eint .i64) l4581) 3 (Eint .i64).sz]) (fun Qj4429 hNj4429 hOj4429 => ?_) (fun a w hR => ?_)
                · skip
                  have H := Hyj4429
                  refine L_blk (fun Qb4582 hNb4582 hXb4582 hOb4582 => ?_)
                  refine L_lp (fun k a w => ∃ (l4680 : List Int), ∃ (k_4681 : Int), ∃ (A4678 : Option Addr), ∃ (c4679 : Nat), Is Try.f21.ntmps a [(5, .slice A20 l4345.length c21), (7, .slice A4414 z4411.length c4415), (11, .pointer (some ⟨g4367, 0, none⟩)), (13, .pointer (some ⟨g4399, 0, none⟩)), (14, .pointer (some ⟨g4423, 0, none⟩)), (15, .int .i64 k_4681)] ∧ Hp S0 w0 w [.rd A_freq_0 (rowC (Eint .i64) l_freq_0), .own A20 c21 (rowC (Eint .i64) l4345) 3 (Eint .i64).sz, .own A4414 c4415 (rowC E_valiseref6_Node ds4417) 61 E_valiseref6_Node.sz, Dz D_valiseref6_Node S0 w0.heap.size B4418 ds4417 z4411, .box g4367 ([.int .i64 ((rdp ((0, []) : (Int × List Int)) l4350 z4357).1), .slice ((rdx E_valiseref6_Node ds4348 z4357).2.1) ((rdp ((0, []) : (Int × List Int)) l4350 z4357).2).length ((rdx E_valiseref6_Node ds4348 z4357).2.2)]) 61, .rd ((rdx E_valiseref6_Node ds4348 z4357).2.1) (rowC (Eint .i64) ((rdp ((0, []) : (Int × List Int)) l4350 z4357).2)), .box g4399 ([.int .i64 ((rdp ((0, []) : (Int × List Int)) z4378 z4389).1), .slice ((rdx E_valiseref6_Node ds4384 z4389).2.1) ((rdp ((0, []) : (Int × List Int)) z4378 z4389).2).length ((rdx E_valiseref6_Node ds4384 z4389).2.2)]) 61, .rd ((rdx E_valiseref6_Node ds4384 z4389).2.1) (rowC (Eint .i64) ((rdp ((0, []) : (Int × List Int)) z4378 z4389).2)), .box g4423 ([.int .i64 (IntKind.i64.wrap (((rdp ((0, []) : (Int × List Int)) l4350 z4357).1) + ((rdp ((0, []) : (Int × List Int)) z4378 z4389).1))), .slice A4678 l4680.length c4679]) 61, .own A4678 c4679 (rowC (Eint .i64) l4680) 3 (Eint .i64).sz] ∧ valiseref6_Depths.l35 k l4680 k_4681 l4350 z4357 = some yj4429) FU (fun a ha => ⟨_, _, _, _, Is.cons ha (Is.cons ha (Is.cons ha (Is.cons ha (Is.cons ha (Is.cons ha (Is.nil ha) rfl) rfl) rfl) rfl) rfl) rfl, HS4426.sel [0, 1, 8, 9, 4, 5, 6, 7, 10, 11] rfl, H⟩) (fun kp4677 a w4682 hI Qp4677 hNp4677 hOp4677 => ?_)
                  obtain ⟨l4680, k_4681, A4678, c4679, ha, HS4683, HAp4677⟩ := hI
                  cases kp4677 with
                  | zero => cases (show (none : Option _) = some _ from HAp4677)
                  | succ kp4677 =>
                    have H := (valiseref6_Depths.l35.eq_2 ..).symm.trans HAp4677
                    refine wpLF_app ?_ ha
                    refine L_seq ?_
                    refine L_seq ?_
                    refine L_region ?_
                    refine F_val rfl rfl rfl (O_move rfl rfl) ?_
                    refine F_val rfl rfl rfl (O_fieldB rfl rfl field61_1) ?_
                    refine F_val rfl rfl rfl (O_loadB rfl rfl flat22 (HS4683.cells_box (i := 4) rfl) rfl) ?_
                    refine F_val rfl rfl rfl (O_len rfl rfl Try.underlying22) ?_
                    refine F_val rfl rfl rfl (O_lt rfl rfl rfl) ?_
                    refine F_nil ?_
                    refine L_condP rfl (fun c4684 => ?_) (fun c4684 => ?_)
                    · have H := of_pos H c4684
                      refine L_skip ?_
                      refine L_seq ?_
                      refine L_blk (fun Q4685 hN4685 hX4685 hO4685 => ?_)
                      refine L_heldS 10 1 [10] mix rfl (fun w4702 hw4703 => ?_)
                      have HS4704 := HS4683.keep hw4703
                      refine ⟨HS4704.turns [9], ?_⟩
                      have HR4705 : Hp (HS4704.ft [9]) w4702 w4702 [.own A4678 c4679 (rowC (Eint .i64) l4680) 3 (Eint .i64).sz, .rd A_freq_0 (rowC (Eint .i64) l_freq_0), .rd A20 (rowC (Eint .i64) l4345), .rd A4414 (rowC E_valiseref6_Node ds4417), Dz D_valiseref6_Node anyB 0 B4418 ds4417 z4411, .rd (some ⟨g4367, 0, none⟩) ([.int .i64 ((rdp ((0, []) : (Int × List Int)) l4350 z4357).1), .slice ((rdx E_valiseref6_Node ds4348 z4357).2.1) ((rdp ((0, []) : (Int × List Int)) l4350 z4357).2).length ((rdx E_valiseref6_Node ds4348 z4357).2.2)]), .rd ((rdx E_valiseref6_Node ds4348 z4357).2.1) (rowC (Eint .i64) ((rdp ((0, []) : (Int × List Int)) l4350 z4357).2)), .rd (some ⟨g4399, 0, none⟩) ([.int .i64 ((rdp ((0, []) : (Int × List Int)) z4378 z4389).1), .slice ((rdx E_valiseref6_Node ds4384 z4389).2.1) ((rdp ((0, []) : (Int × List Int)) z4378 z4389).2).length ((rdx E_valiseref6_Node ds4384 z4389).2.2)]), .rd ((rdx E_valiseref6_Node ds4384 z4389).2.1) (rowC (Eint .i64) ((rdp ((0, []) : (Int × List Int)) z4378 z4389).2)), .rd (some ⟨g4423, 0, none⟩) ([.int .i64 (IntKind.i64.wrap (((rdp ((0, []) : (Int × List Int)) l4350 z4357).1) + ((rdp ((0, []) : (Int × List Int)) z4378 z4389).1))), .slice A4678 l4680.length c4679])] := HS4704.give [9] rfl (Lent.rd HS4704 (Lent.own HS4704 (Lent.own HS4704 (Lent.dz HS4704 (Lent.box HS4704 (Lent.rd HS4704 (Lent.box HS4704 (Lent.rd HS4704 (Lent.box HS4704 (Lent.nil) (i := 8) rfl rfl (HS4704.cells_box (i := 8) rfl).self) (i := 7) rfl (HS4704.cells_rd (i := 7) rfl).self) (i := 6) rfl rfl (HS4704.cells_box (i := 6) rfl).self) (i := 5) rfl (HS4704.cells_rd (i := 5) rfl).self) (i := 4) rfl rfl (HS4704.cells_box (i := 4) rfl).self) (i := 3) rfl dz_self (HS4704.dze (i := 3) rfl)) (i := 2) rfl rfl (HS4704.cells_own (i := 2) rfl).self) (i := 1) rfl rfl (HS4704.cells_own (i := 1) rfl).self) (i := 0) rfl (HS4704.cells_rd (i := 0) rfl).self)
                      have hSF4706 : ∀ b, HS4704.ft [9] b → (orB (HS4704.ft [9]) B4418) b ∨ w4702.heap.size ≤ b := fun b hb => .inl (.inl hb)
                      have HS4707 : Hp (HS4704.ft [9]) w4702 w4702 [.own A4678 c4679 (rowC (Eint .i64) l4680) 3 (Eint .i64).sz, .rd A_freq_0 (rowC (Eint .i64) l_freq_0), .rd A20 (rowC (Eint .i64) l4345), .rd A4414 (rowC E_valiseref6_Node ds4417), Dz D_valiseref6_Node (orB (HS4704.ft [9]) B4418) w4702.heap.size B4418 ds4417 z4411, .rd (some ⟨g4367, 0, none⟩) ([.int .i64 ((rdp ((0, []) : (Int × List Int)) l4350 z4357).1), .slice ((rdx E_valiseref6_Node ds4348 z4357).2.1) ((rdp ((0, []) : (Int × List Int)) l4350 z4357).2).length ((rdx E_valiseref6_Node ds4348 z4357).2.2)]), .rd ((rdx E_valiseref6_Node ds4348 z4357).2.1) (rowC (Eint .i64) ((rdp ((0, []) : (Int × List Int)) l4350 z4357).2)), .rd (some ⟨g4399, 0, none⟩) ([.int .i64 ((rdp ((0, []) : (Int × List Int)) z4378 z4389).1), .slice ((rdx E_valiseref6_Node ds4384 z4389).2.1) ((rdp ((0, []) : (Int × List Int)) z4378 z4389).2).length ((rdx E_valiseref6_Node ds4384 z4389).2.2)]), .rd ((rdx E_valiseref6_Node ds4384 z4389).2.1) (rowC (Eint .i64) ((rdp ((0, []) : (Int × List Int)) z4378 z4389).2)), .rd (some ⟨g4423, 0, none⟩) ([.int .i64 (IntKind.i64.wrap (((rdp ((0, []) : (Int × List Int)) l4350 z4357).1) + ((rdp ((0, []) : (Int × List Int)) z4378 z4389).1))), .slice A4678 l4680.length c4679])] := HR4705.dzProv (i := 4) rfl (fun b _ hb => .inl (.inr hb))
                      refine H_val (i := 0) rfl (by kernel_rfl) (by kernel_rfl) (by kernel_rfl) (by kernel_rfl) rfl rfl rfl HS4707.chg (fun wq hq => O_fieldB rfl rfl field61_1) ?_
                      refine H_val (i := 1) rfl (by kernel_rfl) (by kernel_rfl) (by kernel_rfl) (by kernel_rfl) rfl rfl rfl HS4707.chg (fun wq hq => O_loadB rfl rfl flat22 ((HS4704.keepT [9] hq).cells_box (i := 8) rfl) rfl) ?_
                      refine H_val (i := 2) rfl (by kernel_rfl) (by kernel_rfl) (by kernel_rfl) (by kernel_rfl) rfl rfl rfl HS4707.chg (fun wq hq => O_fieldB rfl rfl field61_1) ?_
                      refine H_val (i := 3) rfl (by kernel_rfl) (by kernel_rfl) (by kernel_rfl) (by kernel_rfl) rfl rfl rfl HS4707.chg (fun wq hq => O_loadB rfl rfl flat22 ((HS4704.keepT [9] hq).cells_box (i := 4) rfl) rfl) ?_
                      refine H_val (i := 4) rfl (by kernel_rfl) (by kernel_rfl) (by kernel_rfl) (by kernel_rfl) rfl rfl rfl HS4707.chg (fun wq hq => O_move rfl rfl) ?_
                      obtain ⟨⟨g4708, g4709⟩, H⟩ := of_gd H
                      refine H_val (i := 5) rfl (by kernel_rfl) (by kernel_rfl) (by kernel_rfl) (by kernel_rfl) rfl rfl rfl HS4707.chg (fun wq hq => O_idx rfl rfl rfl Try.underlying22 size3 g4708 g4709 (Cells.isA ((HS4704.keepT [9] hq).cells_rd (i := 5) rfl) (rowC_ne (E := (Eint .i64)) g4708 g4709 (by decide)))) ?_
                      refine H_val (i := 6) rfl (by kernel_rfl) (by kernel_rfl) (by kernel_rfl) (by kernel_rfl) rfl rfl rfl HS4707.chg (fun wq hq => O_loadC rfl rfl flat3 ((HS4704.keepT [9] hq).cells_rd (i := 5) rfl) (int_cell g4708 g4709)) ?_
                      refine H_one (i := 7) rfl (by kernel_rfl) (by kernel_rfl) ?_
                      refine F_litE (E := (Eint .i64)) (e := 3) [(0, .int .i64 (rd ((rdp ((0, []) : (Int × List Int)) l4350 z4357).2) k_4681))] [rd ((rdp ((0, []) : (Int × List Int)) l4350 z4357).2) k_4681] rfl rfl rfl rfl rfl rfl rfl (by decide) (fun w => by kernel_rfl) HS4707 (fun w4710 A4712 c4713 HS4711 => ?_)
                      have HS4711 : Hp (HS4704.ft [9]) w4702 w4710 [.own A4678 c4679 (rowC (Eint .i64) l4680) 3 (Eint .i64).sz, .rd A_freq_0 (rowC (Eint .i64) l_freq_0), .rd A20 (rowC (Eint .i64) l4345), .rd A4414 (rowC E_valiseref6_Node ds4417), Dz D_valiseref6_Node (orB (HS4704.ft [9]) B4418) w4702.heap.size B4418 ds4417 z4411, .rd (some ⟨g4367, 0, none⟩) ([.int .i64 ((rdp ((0, []) : (Int × List Int)) l4350 z4357).1), .slice ((rdx E_valiseref6_Node ds4348 z4357).2.1) ((rdp ((0, []) : (Int × List Int)) l4350 z4357).2).length ((rdx E_valiseref6_Node ds4348 z4357).2.2)]), .rd ((rdx E_valiseref6_Node ds4348 z4357).2.1) (rowC (Eint .i64) ((rdp ((0, []) : (Int × List Int)) l4350 z4357).2)), .rd (some ⟨g4399, 0, none⟩) ([.int .i64 ((rdp ((0, []) : (Int × List Int)) z4378 z4389).1), .slice ((rdx E_valiseref6_Node ds4384 z4389).2.1) ((rdp ((0, []) : (Int × List Int)) z4378 z4389).2).length ((rdx E_valiseref6_Node ds4384 z4389).2.2)]), .rd ((rdx E_valiseref6_Node ds4384 z4389).2.1) (rowC (Eint .i64) ((rdp ((0, []) : (Int × List Int)) z4378 z4389).2)), .rd (some ⟨g4423, 0, none⟩) ([.int .i64 (IntKind.i64.wrap (((rdp ((0, []) : (Int × List Int)) l4350 z4357).1) + ((rdp ((0, []) : (Int × List Int)) z4378 z4389).1))), .slice A4678 l4680.length c4679]), .own A4712 c4713 (rowC (Eint .i64) ([rd ((rdp ((0, []) : (Int × List Int)) l4350 z4357).2) k_4681])) 3 (Eint .i64).sz] := HS4711
                      refine H_next HS4711.chg ?_
                      refine H_one (i := 8) rfl (by kernel_rfl) (by kernel_rfl) ?_
                      obtain ⟨l4717, h4718, H⟩ := of_bnd H
                      obtain ⟨g4719, H⟩ := of_gd H
                      refine F_appE2 (E := (Eint .i64)) (xs := l4680) (ys := ([rd ((rdp ((0, []) : (Int × List Int)) l4350 z4357).2) k_4681])) (i := 0) rfl rfl rfl rfl Try.underlying22 info3 rfl (by decide) (by decide) rfl rfl HS4711 rfl (HS4711.cells_own (i := 10) rfl) h4718 g4719 (fun w4715 HS4716 => ?_) (fun w4715 A4720 c4721 HS4716 => ?_)
                      · skip
                        have HS4716 : Hp (HS4704.ft [9]) w4702 w4715 [.own A4678 c4679 (rowC (Eint .i64) l4717) 3 (Eint .i64).sz, .rd A_freq_0 (rowC (Eint .i64) l_freq_0), .rd A20 (rowC (Eint .i64) l4345), .rd A4414 (rowC E_valiseref6_Node ds4417), Dz D_valiseref6_Node (orB (HS4704.ft [9]) B4418) w4702.heap.size B4418 ds4417 z4411, .rd (some ⟨g4367, 0, none⟩) ([.int .i64 ((rdp ((0, []) : (Int × List Int)) l4350 z4357).1), .slice ((rdx E_valiseref6_Node ds4348 z4357).2.1) ((rdp ((0, []) : (Int × List Int)) l4350 z4357).2).length ((rdx E_valiseref6_Node ds4348 z4357).2.2)]), .rd ((rdx E_valiseref6_Node ds4348 z4357).2.1) (rowC (Eint .i64) ((rdp ((0, []) : (Int × List Int)) l4350 z4357).2)), .rd (some ⟨g4399, 0, none⟩) ([.int .i64 ((rdp ((0, []) : (Int × List Int)) z4378 z4389).1), .slice ((rdx E_valiseref6_Node ds4384 z4389).2.1) ((rdp ((0, []) : (Int × List Int)) z4378 z4389).2).length ((rdx E_valiseref6_Node ds4384 z4389).2.2)]), .rd ((rdx E_valiseref6_Node ds4384 z4389).2.1) (rowC (Eint .i64) ((rdp ((0, []) : (Int × List Int)) z4378 z4389).2)), .rd (some ⟨g4423, 0, none⟩) ([.int .i64 (IntKind.i64.wrap (((rdp ((0, []) : (Int × List Int)) l4350 z4357).1) + ((rdp ((0, []) : (Int × List Int)) z4378 z4389).1))), .slice A4678 l4680.length c4679]), .own A4712 c4713 (rowC (Eint .i64) ([rd ((rdp ((0, []) : (Int × List Int)) l4350 z4357).2) k_4681])) 3 (Eint .i64).sz] := HS4716
                        have hs4722 := (HS4716.cells_own (i := 0) rfl).preZ h4718
                        refine H_next HS4716.chg ?_
                        refine H_val (i := 9) rfl (by kernel_rfl) (by kernel_rfl) (by kernel_rfl) (by kernel_rfl) rfl rfl rfl HS4716.chg (fun wq hq => O_fieldB rfl rfl field61_1) ?_
                        refine H_end (by kernel_rfl) ?_
                        have HS4724 : Hp S0 w0 w4715 [.rd A_freq_0 (rowC (Eint .i64) l_freq_0), .own A20 c21 (rowC (Eint .i64) l4345) 3 (Eint .i64).sz, .own A4414 c4415 (rowC E_valiseref6_Node ds4417) 61 E_valiseref6_Node.sz, Dz D_valiseref6_Node S0 w0.heap.size B4418 ds4417 z4411, .box g4367 ([.int .i64 ((rdp ((0, []) : (Int × List Int)) l4350 z4357).1), .slice ((rdx E_valiseref6_Node ds4348 z4357).2.1) ((rdp ((0, []) : (Int × List Int)) l4350 z4357).2).length ((rdx E_valiseref6_Node ds4348 z4357).2.2)]) 61, .rd ((rdx E_valiseref6_Node ds4348 z4357).2.1) (rowC (Eint .i64) ((rdp ((0, []) : (Int × List Int)) l4350 z4357).2)), .box g4399 ([.int .i64 ((rdp ((0, []) : (Int × List Int)) z4378 z4389).1), .slice ((rdx E_valiseref6_Node ds4384 z4389).2.1) ((rdp ((0, []) : (Int × List Int)) z4378 z4389).2).length ((rdx E_valiseref6_Node ds4384 z4389).2.2)]) 61, .rd ((rdx E_valiseref6_Node ds4384 z4389).2.1) (rowC (Eint .i64) ((rdp ((0, []) : (Int × List Int)) z4378 z4389).2)), .box g4423 ([.int .i64 (IntKind.i64.wrap (((rdp ((0, []) : (Int × List Int)) l4350 z4357).1) + ((rdp ((0, []) : (Int × List Int)) z4378 z4389).1))), .slice A4678 l4680.length c4679]) 61, .own A4678 c4679 (rowC (Eint .i64) l4717) 3 (Eint .i64).sz, .own A4712 c4713 (rowC (Eint .i64) ([rd ((rdp ((0, []) : (Int × List Int)) l4350 z4357).2) k_4681])) 3 (Eint .i64).sz] := (HS4704.back [9] (HS4716.sel [0, 10] rfl) rfl).sel [0, 1, 2, 3, 4, 5, 6, 7, 8, 10, 11] rfl
                        refine T_one (i := 10) rfl (by kernel_rfl) ?_
                        refine F_stB 8 ([.int .i64 (IntKind.i64.wrap (((rdp ((0, []) : (Int × List Int)) l4350 z4357).1) + ((rdp ((0, []) : (Int × List Int)) z4378 z4389).1))), .slice A4678 l4717.length c4679]) rfl rfl rfl rfl rfl size22 HS4724 rfl rfl rfl rfl rfl (fun w4725 HS4726 => ?_)
                        have HS4726 : Hp S0 w0 w4725 [.rd A_freq_0 (rowC (Eint .i64) l_freq_0), .own A20 c21 (rowC (Eint .i64) l4345) 3 (Eint .i64).sz, .own A4414 c4415 (rowC E_valiseref6_Node ds4417) 61 E_valiseref6_Node.sz, Dz D_valiseref6_Node S0 w0.heap.size B4418 ds4417 z4411, .box g4367 ([.int .i64 ((rdp ((0, []) : (Int × List Int)) l4350 z4357).1), .slice ((rdx E_valiseref6_Node ds4348 z4357).2.1) ((rdp ((0, []) : (Int × List Int)) l4350 z4357).2).length ((rdx E_valiseref6_Node ds4348 z4357).2.2)]) 61, .rd ((rdx E_valiseref6_Node ds4348 z4357).2.1) (rowC (Eint .i64) ((rdp ((0, []) : (Int × List Int)) l4350 z4357).2)), .box g4399 ([.int .i64 ((rdp ((0, []) : (Int × List Int)) z4378 z4389).1), .slice ((rdx E_valiseref6_Node ds4384 z4389).2.1) ((rdp ((0, []) : (Int × List Int)) z4378 z4389).2).length ((rdx E_valiseref6_Node ds4384 z4389).2.2)]) 61, .rd ((rdx E_valiseref6_Node ds4384 z4389).2.1) (rowC (Eint .i64) ((rdp ((0, []) : (Int × List Int)) z4378 z4389).2)), .box g4423 ([.int .i64 (IntKind.i64.wrap (((rdp ((0, []) : (Int × List Int)) l4350 z4357).1) + ((rdp ((0, []) : (Int × List Int)) z4378 z4389).1))), .slice A4678 l4717.length c4679]) 61, .own A4678 c4679 (rowC (Eint .i64) l4717) 3 (Eint .i64).sz, .own A4712 c4713 (rowC (Eint .i64) ([rd ((rdp ((0, []) : (Int × List Int)) l4350 z4357).2) k_4681])) 3 (Eint .i64).sz] := HS4726
                        refine T_next ?_
                        refine T_done (by kernel_rfl) ?_
                        refine L_endB hN4685 ?_
                        refine L_region ?_
                        refine F_val rfl rfl rfl (O_move rfl rfl) ?_
                        refine F_val rfl rfl rfl (O_add rfl rfl rfl) ?_
                        obtain ⟨x4727, h4728, H⟩ := of_bnd H
                        refine F_val rfl rfl rfl (O_assign' rfl rfl (congrArg (Value.int .i64) h4728)) ?_
                        refine F_nil ?_
                        refine L_nil (fun a ha => hNp4677 _ a _ (Nat.lt_succ_self _) ⟨_, _, _, _, Is.cons ha (Is.cons ha (Is.cons ha (Is.cons ha (Is.cons ha (Is.cons ha (Is.nil ha) rfl) rfl) rfl) rfl) rfl) rfl, HS4726.sel [0, 1, 2, 3, 4, 5, 6, 7, 8, 9] rfl, H⟩)
                      · skip
                        have HS4716 : Hp (HS4704.ft [9]) w4702 w4715 [.own A4678 c4679 (rowC (Eint .i64) l4680) 3 (Eint .i64).sz, .rd A_freq_0 (rowC (Eint .i64) l_freq_0), .rd A20 (rowC (Eint .i64) l4345), .rd A4414 (rowC E_valiseref6_Node ds4417), Dz D_valiseref6_Node (orB (HS4704.ft [9]) B4418) w4702.heap.size B4418 ds4417 z4411, .rd (some ⟨g4367, 0, none⟩) ([.int .i64 ((rdp ((0, []) : (Int × List Int)) l4350 z4357).1), .slice ((rdx E_valiseref6_Node ds4348 z4357).2.1) ((rdp ((0, []) : (Int × List Int)) l4350 z4357).2).length ((rdx E_valiseref6_Node ds4348 z4357).2.2)]), .rd ((rdx E_valiseref6_Node ds4348 z4357).2.1) (rowC (Eint .i64) ((rdp ((0, []) : (Int × List Int)) l4350 z4357).2)), .rd (some ⟨g4399, 0, none⟩) ([.int .i64 ((rdp ((0, []) : (Int × List Int)) z4378 z4389).1), .slice ((rdx E_valiseref6_Node ds4384 z4389).2.1) ((rdp ((0, []) : (Int × List Int)) z4378 z4389).2).length ((rdx E_valiseref6_Node ds4384 z4389).2.2)]), .rd ((rdx E_valiseref6_Node ds4384 z4389).2.1) (rowC (Eint .i64) ((rdp ((0, []) : (Int × List Int)) z4378 z4389).2)), .rd (some ⟨g4423, 0, none⟩) ([.int .i64 (IntKind.i64.wrap (((rdp ((0, []) : (Int × List Int)) l4350 z4357).1) + ((rdp ((0, []) : (Int × List Int)) z4378 z4389).1))), .slice A4678 l4680.length c4679]), .own A4712 c4713 (rowC (Eint .i64) ([rd ((rdp ((0, []) : (Int × List Int)) l4350 z4357).2) k_4681])) 3 (Eint .i64).sz, .own A4720 c4721 (rowC (Eint .i64) l4717) 3 (Eint .i64).sz] := HS4716
                        refine H_next HS4716.chg ?_
                        refine H_val (i := 9) rfl (by kernel_rfl) (by kernel_rfl) (by kernel_rfl) (by kernel_rfl) rfl rfl rfl HS4716.chg (fun wq hq => O_fieldB rfl rfl field61_1) ?_
                        refine H_end (by kernel_rfl) ?_
                        have HS4724 : Hp S0 w0 w4715 [.rd A_freq_0 (rowC (Eint .i64) l_freq_0), .own A20 c21 (rowC (Eint .i64) l4345) 3 (Eint .i64).sz, .own A4414 c4415 (rowC E_valiseref6_Node ds4417) 61 E_valiseref6_Node.sz, Dz D_valiseref6_Node S0 w0.heap.size B4418 ds4417 z4411, .box g4367 ([.int .i64 ((rdp ((0, []) : (Int × List Int)) l4350 z4357).1), .slice ((rdx E_valiseref6_Node ds4348 z4357).2.1) ((rdp ((0, []) : (Int × List Int)) l4350 z4357).2).length ((rdx E_valiseref6_Node ds4348 z4357).2.2)]) 61, .rd ((rdx E_valiseref6_Node ds4348 z4357).2.1) (rowC (Eint .i64) ((rdp ((0, []) : (Int × List Int)) l4350 z4357).2)), .box g4399 ([.int .i64 ((rdp ((0, []) : (Int × List Int)) z4378 z4389).1), .slice ((rdx E_valiseref6_Node ds4384 z4389).2.1) ((rdp ((0, []) : (Int × List Int)) z4378 z4389).2).length ((rdx E_valiseref6_Node ds4384 z4389).2.2)]) 61, .rd ((rdx E_valiseref6_Node ds4384 z4389).2.1) (rowC (Eint .i64) ((rdp ((0, []) : (Int × List Int)) z4378 z4389).2)), .box g4423 ([.int .i64 (IntKind.i64.wrap (((rdp ((0, []) : (Int × List Int)) l4350 z4357).1) + ((rdp ((0, []) : (Int × List Int)) z4378 z4389).1))), .slice A4678 l4680.length c4679]) 61, .own A4678 c4679 (rowC (Eint .i64) l4680) 3 (Eint .i64).sz, .own A4712 c4713 (rowC (Eint .i64) ([rd ((rdp ((0, []) : (Int × List Int)) l4350 z4357).2) k_4681])) 3 (Eint .i64).sz, .own A4720 c4721 (rowC (Eint .i64) l4717) 3 (Eint .i64).sz] := (HS4704.back [9] (HS4716.sel [0, 10, 11] rfl) rfl).sel [0, 1, 2, 3, 4, 5, 6, 7, 8, 10, 11, 12] rfl
                        refine T_one (i := 10) rfl (by kernel_rfl) ?_
                        refine F_stB 8 ([.int .i64 (IntKind.i64.wrap (((rdp ((0, []) : (Int × List Int)) l4350 z4357).1) + ((rdp ((0, []) : (Int × List Int)) z4378 z4389).1))), .slice A4720 l4717.length c4721]) rfl rfl rfl rfl rfl size22 HS4724 rfl rfl rfl rfl rfl (fun w4725 HS4726 => ?_)
                        have HS4726 : Hp S0 w0 w4725 [.rd A_freq_0 (rowC (Eint .i64) l_freq_0), .own A20 c21 (rowC (Eint .i64) l4345) 3 (Eint .i64).sz, .own A4414 c4415 (rowC E_valiseref6_Node ds4417) 61 E_valiseref6_Node.sz, Dz D_valiseref6_Node S0 w0.heap.size B4418 ds4417 z4411, .box g4367 ([.int .i64 ((rdp ((0, []) : (Int × List Int)) l4350 z4357).1), .slice ((rdx E_valiseref6_Node ds4348 z4357).2.1) ((rdp ((0, []) : (Int × List Int)) l4350 z4357).2).length ((rdx E_valiseref6_Node ds4348 z4357).2.2)]) 61, .rd ((rdx E_valiseref6_Node ds4348 z4357).2.1) (rowC (Eint .i64) ((rdp ((0, []) : (Int × List Int)) l4350 z4357).2)), .box g4399 ([.int .i64 ((rdp ((0, []) : (Int × List Int)) z4378 z4389).1), .slice ((rdx E_valiseref6_Node ds4384 z4389).2.1) ((rdp ((0, []) : (Int × List Int)) z4378 z4389).2).length ((rdx E_valiseref6_Node ds4384 z4389).2.2)]) 61, .rd ((rdx E_valiseref6_Node ds4384 z4389).2.1) (rowC (Eint .i64) ((rdp ((0, []) : (Int × List Int)) z4378 z4389).2)), .box g4423 ([.int .i64 (IntKind.i64.wrap (((rdp ((0, []) : (Int × List Int)) l4350 z4357).1) + ((rdp ((0, []) : (Int × List Int)) z4378 z4389).1))), .slice A4720 l4717.length c4721]) 61, .own A4678 c4679 (rowC (Eint .i64) l4680) 3 (Eint .i64).sz, .own A4712 c4713 (rowC (Eint .i64) ([rd ((rdp ((0, []) : (Int × List Int)) l4350 z4357).2) k_4681])) 3 (Eint .i64).sz, .own A4720 c4721 (rowC (Eint .i64) l4717) 3 (Eint .i64).sz] := HS4726
                        refine T_next ?_
                        refine T_done (by kernel_rfl) ?_
                        refine L_endB hN4685 ?_
                        refine L_region ?_
                        refine F_val rfl rfl rfl (O_move rfl rfl) ?_
                        refine F_val rfl rfl rfl (O_add rfl rfl rfl) ?_
                        obtain ⟨x4727, h4728, H⟩ := of_bnd H
                        refine F_val rfl rfl rfl (O_assign' rfl rfl (congrArg (Value.int .i64) h4728)) ?_
                        refine F_nil ?_
                        refine L_nil (fun a ha => hNp4677 _ a _ (Nat.lt_succ_self _) ⟨_, _, _, _, Is.cons ha (Is.cons ha (Is.cons ha (Is.cons ha (Is.cons ha (Is.cons ha (Is.nil ha) rfl) rfl) rfl) rfl) rfl) rfl, HS4726.sel [0, 1, 2, 3, 4, 5, 6, 7, 8, 11] rfl, H⟩)
                    · have H := of_neg H c4684
                      refine L_exitB (fun a w h => hOp4677 (.exit 4) a w rfl (hXb4582 a w h)) ?_
                      refine L_nil (fun a ha => hNj4429 a _ ⟨_, _, _, (Option.some.inj H).symm, Is.cons ha (Is.cons ha (Is.cons ha (Is.cons ha (Is.nil ha) rfl) rfl) rfl) rfl, HS4683.sel [0, 1, 2, 3, 6, 7, 8, 9] rfl⟩)
                · obtain ⟨l4581, A4579, c4580, ej, ha, HS4730⟩ := hR
                  obtain rfl := ej.symm
                  refine wpLF_app ?_ ha
                  refine L_seq ?_
                  refine L_seq ?_
                  refine L_region ?_
                  refine F_val rfl rfl rfl (O_assign rfl rfl) ?_
                  refine F_nil ?_
                  obtain ⟨yj4731, Hyj4731, H⟩ := of_bind H
                  refine L_join (fun a w => ∃ (l4883 : List Int), ∃ (A4881 : Option Addr), ∃ (c4882 : Nat), yj4731 = l4883 ∧ Is Try.f21.ntmps a [(5, .slice A20 l4345.length c21), (7, .slice A4414 z4411.length c4415), (14, .pointer (some ⟨g4423, 0, none⟩))] ∧ Hp S0 w0 w [.rd A_freq_0 (rowC (Eint .i64) l_freq_0), .own A20 c21 (rowC (Eint .i64) l4345) 3 (Eint .i64).sz, .own A4414 c4415 (rowC E_valiseref6_Node ds4417) 61 E_valiseref6_Node.sz, Dz D_valiseref6_Node S0 w0.heap.size B4418 ds4417 z4411, .box g4423 ([.int .i64 (IntKind.i64.wrap (((rdp ((0, []) : (Int × List Int)) l4350 z4357).1) + ((rdp ((0, []) : (Int × List Int)) z4378 z4389).1))), .slice A4881 l4883.length c4882]) 61, .own A4881 c4882 (rowC (Eint .i64) l4883) 3 (Eint .i64).sz]) (fun Qj4731 hNj4731 hOj4731 => ?_) (fun a w hR => ?_)
                  · skip
                    have H := Hyj4731
                    refine L_blk (fun Qb4884 hNb4884 hXb4884 hOb4884 => ?_)
                    refine L_lp (fun k a w => ∃ (l4982 : List Int), ∃ (k_4983 : Int), ∃ (A4980 : Option Addr), ∃ (c4981 : Nat), Is Try.f21.ntmps a [(5, .slice A20 l4345.length c21), (7, .slice A4414 z4411.length c4415), (13, .pointer (some ⟨g4399, 0, none⟩)), (14, .pointer (some ⟨g4423, 0, none⟩)), (16, .int .i64 k_4983)] ∧ Hp S0 w0 w [.rd A_freq_0 (rowC (Eint .i64) l_freq_0), .own A20 c21 (rowC (Eint .i64) l4345) 3 (Eint .i64).sz, .own A4414 c4415 (rowC E_valiseref6_Node ds4417) 61 E_valiseref6_Node.sz, Dz D_valiseref6_Node S0 w0.heap.size B4418 ds4417 z4411, .box g4399 ([.int .i64 ((rdp ((0, []) : (Int × List Int)) z4378 z4389).1), .slice ((rdx E_valiseref6_Node ds4384 z4389).2.1) ((rdp ((0, []) : (Int × List Int)) z4378 z4389).2).length ((rdx E_valiseref6_Node ds4384 z4389).2.2)]) 61, .rd ((rdx E_valiseref6_Node ds4384 z4389).2.1) (rowC (Eint .i64) ((rdp ((0, []) : (Int × List Int)) z4378 z4389).2)), .box g4423 ([.int .i64 (IntKind.i64.wrap (((rdp ((0, []) : (Int × List Int)) l4350 z4357).1) + ((rdp ((0, []) : (Int × List Int)) z4378 z4389).1))), .slice A4980 l4982.length c4981]) 61, .own A4980 c4981 (rowC (Eint .i64) l4982) 3 (Eint .i64).sz] ∧ valiseref6_Depths.l37 k l4982 k_4983 z4378 z4389 = some yj4731) FU (fun a ha => ⟨_, _, _, _, Is.cons ha (Is.cons ha (Is.cons ha (Is.cons ha (Is.cons ha (Is.nil ha) rfl) rfl) rfl) rfl) rfl, HS4730.sel [0, 1, 2, 3, 4, 5, 6, 7] rfl, H⟩) (fun kp4979 a w4984 hI Qp4979 hNp4979 hOp4979 => ?_)
                    obtain ⟨l4982, k_4983, A4980, c4981, ha, HS4985, HAp4979⟩ := hI
                    cases kp4979 with
                    | zero => cases (show (none : Option _) = some _ from HAp4979)
                    | succ kp4979 =>
                      have H := (valiseref6_Depths.l37.eq_2 ..).symm.trans HAp4979
                      refine wpLF_app ?_ ha
                      refine L_seq ?_
                      refine L_seq ?_
                      refine L_region ?_
                      refine F_val rfl rfl rfl (O_move rfl rfl) ?_
                      refine F_val rfl rfl rfl (O_fieldB rfl rfl field61_1) ?_
                      refine F_val rfl rfl rfl (O_loadB rfl rfl flat22 (HS4985.cells_box (i := 4) rfl) rfl) ?_
                      refine F_val rfl rfl rfl (O_len rfl rfl Try.underlying22) ?_
                      refine F_val rfl rfl rfl (O_lt rfl rfl rfl) ?_
                      refine F_nil ?_
                      refine L_condP rfl (fun c4986 => ?_) (fun c4986 => ?_)
                      · have H := of_pos H c4986
                        refine L_skip ?_
                        refine L_seq ?_
                        refine L_blk (fun Q4987 hN4987 hX4987 hO4987 => ?_)
                        refine L_heldS 10 1 [10] mix rfl (fun w5004 hw5005 => ?_)
                        have HS5006 := HS4985.keep hw5005
                        refine ⟨HS5006.turns [7], ?_⟩
                        have HR5007 : Hp (HS5006.ft [7]) w5004 w5004 [.own A4980 c4981 (rowC (Eint .i64) l4982) 3 (Eint .i64).sz, .rd A_freq_0 (rowC (Eint .i64) l_freq_0), .rd A20 (rowC (Eint .i64) l4345), .rd A4414 (rowC E_valiseref6_Node ds4417), Dz D_valiseref6_Node anyB 0 B4418 ds4417 z4411, .rd (some ⟨g4399, 0, none⟩) ([.int .i64 ((rdp ((0, []) : (Int × List Int)) z4378 z4389).1), .slice ((rdx E_valiseref6_Node ds4384 z4389).2.1) ((rdp ((0, []) : (Int × List Int)) z4378 z4389).2).length ((rdx E_valiseref6_Node ds4384 z4389).2.2)]), .rd ((rdx E_valiseref6_Node ds4384 z4389).2.1) (rowC (Eint .i64) ((rdp ((0, []) : (Int × List Int)) z4378 z4389).2)), .rd (some ⟨g4423, 0, none⟩) ([.int .i64 (IntKind.i64.wrap (((rdp ((0, []) : (Int × List Int)) l4350 z4357).1) + ((rdp ((0, []) : (Int × List Int)) z4378 z4389).1))), .slice A4980 l4982.length c4981])] := HS5006.give [7] rfl (Lent.rd HS5006 (Lent.own HS5006 (Lent.own HS5006 (Lent.dz HS5006 (Lent.box HS5006 (Lent.rd HS5006 (Lent.box HS5006 (Lent.nil) (i := 6) rfl rfl (HS5006.cells_box (i := 6) rfl).self) (i := 5) rfl (HS5006.cells_rd (i := 5) rfl).self) (i := 4) rfl rfl (HS5006.cells_box (i := 4) rfl).self) (i := 3) rfl dz_self (HS5006.dze (i := 3) rfl)) (i := 2) rfl rfl (HS5006.cells_own (i := 2) rfl).self) (i := 1) rfl rfl (HS5006.cells_own (i := 1) rfl).self) (i := 0) rfl (HS5006.cells_rd (i := 0) rfl).self)
                        have hSF5008 : ∀ b, HS5006.ft [7] b → (orB (HS5006.ft [7]) B4418) b ∨ w5004.heap.size ≤ b := fun b hb => .inl (.inl hb)
                        have HS5009 : Hp (HS5006.ft [7]) w5004 w5004 [.own A4980 c4981 (rowC (Eint .i64) l4982) 3 (Eint .i64).sz, .rd A_freq_0 (rowC (Eint .i64) l_freq_0), .rd A20 (rowC (Eint .i64) l4345), .rd A4414 (rowC E_valiseref6_Node ds4417), Dz D_valiseref6_Node (orB (HS5006.ft [7]) B4418) w5004.heap.size B4418 ds4417 z4411, .rd (some ⟨g4399, 0, none⟩) ([.int .i64 ((rdp ((0, []) : (Int × List Int)) z4378 z4389).1), .slice ((rdx E_valiseref6_Node ds4384 z4389).2.1) ((rdp ((0, []) : (Int × List Int)) z4378 z4389).2).length ((rdx E_valiseref6_Node ds4384 z4389).2.2)]), .rd ((rdx E_valiseref6_Node ds4384 z4389).2.1) (rowC (Eint .i64) ((rdp ((0, []) : (Int × List Int)) z4378 z4389).2)), .rd (some ⟨g4423, 0, none⟩) ([.int .i64 (IntKind.i64.wrap (((rdp ((0, []) : (Int × List Int)) l4350 z4357).1) + ((rdp ((0, []) : (Int × List Int)) z4378 z4389).1))), .slice A4980 l4982.length c4981])] := HR5007.dzProv (i := 4) rfl (fun b _ hb => .inl (.inr hb))
                        refine H_val (i := 0) rfl (by kernel_rfl) (by kernel_rfl) (by kernel_rfl) (by kernel_rfl) rfl rfl rfl HS5009.chg (fun wq hq => O_fieldB rfl rfl field61_1) ?_
                        refine H_val (i := 1) rfl (by kernel_rfl) (by kernel_rfl) (by kernel_rfl) (by kernel_rfl) rfl rfl rfl HS5009.chg (fun wq hq => O_loadB rfl rfl flat22 ((HS5006.keepT [7] hq).cells_box (i := 6) rfl) rfl) ?_
                        refine H_val (i := 2) rfl (by kernel_rfl) (by kernel_rfl) (by kernel_rfl) (by kernel_rfl) rfl rfl rfl HS5009.chg (fun wq hq => O_fieldB rfl rfl field61_1) ?_
                        refine H_val (i := 3) rfl (by kernel_rfl) (by kernel_rfl) (by kernel_rfl) (by kernel_rfl) rfl rfl rfl HS5009.chg (fun wq hq => O_loadB rfl rfl flat22 ((HS5006.keepT [7] hq).cells_box (i := 4) rfl) rfl) ?_
                        refine H_val (i := 4) rfl (by kernel_rfl) (by kernel_rfl) (by kernel_rfl) (by kernel_rfl) rfl rfl rfl HS5009.chg (fun wq hq => O_move rfl rfl) ?_
                        obtain ⟨⟨g5010, g5011⟩, H⟩ := of_gd H
                        refine H_val (i := 5) rfl (by kernel_rfl) (by kernel_rfl) (by kernel_rfl) (by kernel_rfl) rfl rfl rfl HS5009.chg (fun wq hq => O_idx rfl rfl rfl Try.underlying22 size3 g5010 g5011 (Cells.isA ((HS5006.keepT [7] hq).cells_rd (i := 5) rfl) (rowC_ne (E := (Eint .i64)) g5010 g5011 (by decide)))) ?_
                        refine H_val (i := 6) rfl (by kernel_rfl) (by kernel_rfl) (by kernel_rfl) (by kernel_rfl) rfl rfl rfl HS5009.chg (fun wq hq => O_loadC rfl rfl flat3 ((HS5006.keepT [7] hq).cells_rd (i := 5) rfl) (int_cell g5010 g5011)) ?_
                        refine H_one (i := 7) rfl (by kernel_rfl) (by kernel_rfl) ?_
                        refine F_litE (E := (Eint .i64)) (e := 3) [(0, .int .i64 (rd ((rdp ((0, []) : (Int × List Int)) z4378 z4389).2) k_4983))] [rd ((rdp ((0, []) : (Int × List Int)) z4378 z4389).2) k_4983] rfl rfl rfl rfl rfl rfl rfl (by decide) (fun w => by kernel_rfl) HS5009 (fun w5012 A5014 c5015 HS5013 => ?_)
                        have HS5013 : Hp (HS5006.ft [7]) w5004 w5012 [.own A4980 c4981 (rowC (Eint .i64) l4982) 3 (Eint .i64).sz, .rd A_freq_0 (rowC (Eint .i64) l_freq_0), .rd A20 (rowC (Eint .i64) l4345), .rd A4414 (rowC E_valiseref6_Node ds4417), Dz D_valiseref6_Node (orB (HS5006.ft [7]) B4418) w5004.heap.size B4418 ds4417 z4411, .rd (some ⟨g4399, 0, none⟩) ([.int .i64 ((rdp ((0, []) : (Int × List Int)) z4378 z4389).1), .slice ((rdx E_valiseref6_Node ds4384 z4389).2.1) ((rdp ((0, []) : (Int × List Int)) z4378 z4389).2).length ((rdx E_valiseref6_Node ds4384 z4389).2.2)]), .rd ((rdx E_valiseref6_Node ds4384 z4389).2.1) (rowC (Eint .i64) ((rdp ((0, []) : (Int × List Int)) z4378 z4389).2)), .rd (some ⟨g4423, 0, none⟩) ([.int .i64 (IntKind.i64.wrap (((rdp ((0, []) : (Int × List Int)) l4350 z4357).1) + ((rdp ((0, []) : (Int × List Int)) z4378 z4389).1))), .slice A4980 l4982.length c4981]), .own A5014 c5015 (rowC (Eint .i64) ([rd ((rdp ((0, []) : (Int × List Int)) z4378 z4389).2) k_4983])) 3 (Eint .i64).sz] := HS5013
                        refine H_next HS5013.chg ?_
                        refine H_one (i := 8) rfl (by kernel_rfl) (by kernel_rfl) ?_
                        obtain ⟨l5019, h5020, H⟩ := of_bnd H
                        obtain ⟨g5021, H⟩ := of_gd H
                        refine F_appE2 (E := (Eint .i64)) (xs := l4982) (ys := ([rd ((rdp ((0, []) : (Int × List Int)) z4378 z4389).2) k_4983])) (i := 0) rfl rfl rfl rfl Try.underlying22 info3 rfl (by decide) (by decide) rfl rfl HS5013 rfl (HS5013.cells_own (i := 8) rfl) h5020 g5021 (fun w5017 HS5018 => ?_) (fun w5017 A5022 c5023 HS5018 => ?_)
                        · skip
                          have HS5018 : Hp (HS5006.ft [7]) w5004 w5017 [.own A4980 c4981 (rowC (Eint .i64) l5019) 3 (Eint .i64).sz, .rd A_freq_0 (rowC (Eint .i64) l_freq_0), .rd A20 (rowC (Eint .i64) l4345), .rd A4414 (rowC E_valiseref6_Node ds4417), Dz D_valiseref6_Node (orB (HS5006.ft [7]) B4418) w5004.heap.size B4418 ds4417 z4411, .rd (some ⟨g4399, 0, none⟩) ([.int .i64 ((rdp ((0, []) : (Int × List Int)) z4378 z4389).1), .slice ((rdx E_valiseref6_Node ds4384 z4389).2.1) ((rdp ((0, []) : (Int × List Int)) z4378 z4389).2).length ((rdx E_valiseref6_Node ds4384 z4389).2.2)]), .rd ((rdx E_valiseref6_Node ds4384 z4389).2.1) (rowC (Eint .i64) ((rdp ((0, []) : (Int × List Int)) z4378 z4389).2)), .rd (some ⟨g4423, 0, none⟩) ([.int .i64 (IntKind.i64.wrap (((rdp ((0, []) : (Int × List Int)) l4350 z4357).1) + ((rdp ((0, []) : (Int × List Int)) z4378 z4389).1))), .slice A4980 l4982.length c4981]), .own A5014 c5015 (rowC (Eint .i64) ([rd ((rdp ((0, []) : (Int × List Int)) z4378 z4389).2) k_4983])) 3 (Eint .i64).sz] := HS5018
                          have hs5024 := (HS5018.cells_own (i := 0) rfl).preZ h5020
                          refine H_next HS5018.chg ?_
                          refine H_val (i := 9) rfl (by kernel_rfl) (by kernel_rfl) (by kernel_rfl) (by kernel_rfl) rfl rfl rfl HS5018.chg (fun wq hq => O_fieldB rfl rfl field61_1) ?_
                          refine H_end (by kernel_rfl) ?_
                          have HS5026 : Hp S0 w0 w5017 [.rd A_freq_0 (rowC (Eint .i64) l_freq_0), .own A20 c21 (rowC (Eint .i64) l4345) 3 (Eint .i64).sz, .own A4414 c4415 (rowC E_valiseref6_Node ds4417) 61 E_valiseref6_Node.sz, Dz D_valiseref6_Node S0 w0.heap.size B4418 ds4417 z4411, .box g4399 ([.int .i64 ((rdp ((0, []) : (Int × List Int)) z4378 z4389).1), .slice ((rdx E_valiseref6_Node ds4384 z4389).2.1) ((rdp ((0, []) : (Int × List Int)) z4378 z4389).2).length ((rdx E_valiseref6_Node ds4384 z4389).2.2)]) 61, .rd ((rdx E_valiseref6_Node ds4384 z4389).2.1) (rowC (Eint .i64) ((rdp ((0, []) : (Int × List Int)) z4378 z4389).2)), .box g4423 ([.int .i64 (IntKind.i64.wrap (((rdp ((0, []) : (Int × List Int)) l4350 z4357).1) + ((rdp ((0, []) : (Int × List Int)) z4378 z4389).1))), .slice A4980 l4982.length c4981]) 61, .own A4980 c4981 (rowC (Eint .i64) l5019) 3 (Eint .i64).sz, .own A5014 c5015 (rowC (Eint .i64) ([rd ((rdp ((0, []) : (Int × List Int)) z4378 z4389).2) k_4983])) 3 (Eint .i64).sz] := (HS5006.back [7] (HS5018.sel [0, 8] rfl) rfl).sel [0, 1, 2, 3, 4, 5, 6, 8, 9] rfl
                          refine T_one (i := 10) rfl (by kernel_rfl) ?_
                          refine F_stB 6 ([.int .i64 (IntKind.i64.wrap (((rdp ((0, []) : (Int × List Int)) l4350 z4357).1) + ((rdp ((0, []) : (Int × List Int)) z4378 z4389).1))), .slice A4980 l5019.length c4981]) rfl rfl rfl rfl rfl size22 HS5026 rfl rfl rfl rfl rfl (fun w5027 HS5028 => ?_)
                          have HS5028 : Hp S0 w0 w5027 [.rd A_freq_0 (rowC (Eint .i64) l_freq_0), .own A20 c21 (rowC (Eint .i64) l4345) 3 (Eint .i64).sz, .own A4414 c4415 (rowC E_valiseref6_Node ds4417) 61 E_valiseref6_Node.sz, Dz D_valiseref6_Node S0 w0.heap.size B4418 ds4417 z4411, .box g4399 ([.int .i64 ((rdp ((0, []) : (Int × List Int)) z4378 z4389).1), .slice ((rdx E_valiseref6_Node ds4384 z4389).2.1) ((rdp ((0, []) : (Int × List Int)) z4378 z4389).2).length ((rdx E_valiseref6_Node ds4384 z4389).2.2)]) 61, .rd ((rdx E_valiseref6_Node ds4384 z4389).2.1) (rowC (Eint .i64) ((rdp ((0, []) : (Int × List Int)) z4378 z4389).2)), .box g4423 ([.int .i64 (IntKind.i64.wrap (((rdp ((0, []) : (Int × List Int)) l4350 z4357).1) + ((rdp ((0, []) : (Int × List Int)) z4378 z4389).1))), .slice A4980 l5019.length c4981]) 61, .own A4980 c4981 (rowC (Eint .i64) l5019) 3 (Eint .i64).sz, .own A5014 c5015 (rowC (Eint .i64) ([rd ((rdp ((0, []) : (Int × List Int)) z4378 z4389).2) k_4983])) 3 (Eint .i64).sz] := HS5028
                          refine T_next ?_
                          refine T_done (by kernel_rfl) ?_
                          refine L_endB hN4987 ?_
                          refine L_region ?_
                          refine F_val rfl rfl rfl (O_move rfl rfl) ?_
                          refine F_val rfl rfl rfl (O_add rfl rfl rfl) ?_
                          obtain ⟨x5029, h5030, H⟩ := of_bnd H
                          refine F_val rfl rfl rfl (O_assign' rfl rfl (congrArg (Value.int .i64) h5030)) ?_
                          refine F_nil ?_
                          refine L_nil (fun a ha => hNp4979 _ a _ (Nat.lt_succ_self _) ⟨_, _, _, _, Is.cons ha (Is.cons ha (Is.cons ha (Is.cons ha (Is.cons ha (Is.nil ha) rfl) rfl) rfl) rfl) rfl, HS5028.sel [0, 1, 2, 3, 4, 5, 6, 7] rfl, H⟩)
                        · skip
                          have HS5018 : Hp (HS5006.ft [7]) w5004 w5017 [.own A4980 c4981 (rowC (Eint .i64) l4982) 3 (Eint .i64).sz, .rd A_freq_0 (rowC (Eint .i64) l_freq_0), .rd A20 (rowC (Eint .i64) l4345), .rd A4414 (rowC E_valiseref6_Node ds4417), Dz D_valiseref6_Node (orB (HS5006.ft [7]) B4418) w5004.heap.size B4418 ds4417 z4411, .rd (some ⟨g4399, 0, none⟩) ([.int .i64 ((rdp ((0, []) : (Int × List Int)) z4378 z4389).1), .slice ((rdx E_valiseref6_Node ds4384 z4389).2.1) ((rdp ((0, []) : (Int × List Int)) z4378 z4389).2).length ((rdx E_valiseref6_Node ds4384 z4389).2.2)]), .rd ((rdx E_valiseref6_Node ds4384 z4389).2.1) (rowC (Eint .i64) ((rdp ((0, []) : (Int × List Int)) z4378 z4389).2)), .rd (some ⟨g4423, 0, none⟩) ([.int .i64 (IntKind.i64.wrap (((rdp ((0, []) : (Int × List Int)) l4350 z4357).1) + ((rdp ((0, []) : (Int × List Int)) z4378 z4389).1))), .slice A4980 l4982.length c4981]), .own A5014 c5015 (rowC (Eint .i64) ([rd ((rdp ((0, []) : (Int × List Int)) z4378 z4389).2) k_4983])) 3 (Eint .i64).sz, .own A5022 c5023 (rowC (Eint .i64) l5019) 3 (Eint .i64).sz] := HS5018
                          refine H_next HS5018.chg ?_
                          refine H_val (i := 9) rfl (by kernel_rfl) (by kernel_rfl) (by kernel_rfl) (by kernel_rfl) rfl rfl rfl HS5018.chg (fun wq hq => O_fieldB rfl rfl field61_1) ?_
                          refine H_end (by kernel_rfl) ?_
                          have HS5026 : Hp S0 w0 w5017 [.rd A_freq_0 (rowC (Eint .i64) l_freq_0), .own A20 c21 (rowC (Eint .i64) l4345) 3 (Eint .i64).sz, .own A4414 c4415 (rowC E_valiseref6_Node ds4417) 61 E_valiseref6_Node.sz, Dz D_valiseref6_Node S0 w0.heap.size B4418 ds4417 z4411, .box g4399 ([.int .i64 ((rdp ((0, []) : (Int × List Int)) z4378 z4389).1), .slice ((rdx E_valiseref6_Node ds4384 z4389).2.1) ((rdp ((0, []) : (Int × List Int)) z4378 z4389).2).length ((rdx E_valiseref6_Node ds4384 z4389).2.2)]) 61, .rd ((rdx E_valiseref6_Node ds4384 z4389).2.1) (rowC (Eint .i64) ((rdp ((0, []) : (Int × List Int)) z4378 z4389).2)), .box g4423 ([.int .i64 (IntKind.i64.wrap (((rdp ((0, []) : (Int × List Int)) l4350 z4357).1) + ((rdp ((0, []) : (Int × List Int)) z4378 z4389).1))), .slice A4980 l4982.length c4981]) 61, .own A4980 c4981 (rowC (Eint .i64) l4982) 3 (Eint .i64).sz, .own A5014 c5015 (rowC (Eint .i64) ([rd ((rdp ((0, []) : (Int × List Int)) z4378 z4389).2) k_4983])) 3 (Eint .i64).sz, .own A5022 c5023 (rowC (Eint .i64) l5019) 3 (Eint .i64).sz] := (HS5006.back [7] (HS5018.sel [0, 8, 9] rfl) rfl).sel [0, 1, 2, 3, 4, 5, 6, 8, 9, 10] rfl
                          refine T_one (i := 10) rfl (by kernel_rfl) ?_
                          refine F_stB 6 ([.int .i64 (IntKind.i64.wrap (((rdp ((0, []) : (Int × List Int)) l4350 z4357).1) + ((rdp ((0, []) : (Int × List Int)) z4378 z4389).1))), .slice A5022 l5019.length c5023]) rfl rfl rfl rfl rfl size22 HS5026 rfl rfl rfl rfl rfl (fun w5027 HS5028 => ?_)
                          have HS5028 : Hp S0 w0 w5027 [.rd A_freq_0 (rowC (Eint .i64) l_freq_0), .own A20 c21 (rowC (Eint .i64) l4345) 3 (Eint .i64).sz, .own A4414 c4415 (rowC E_valiseref6_Node ds4417) 61 E_valiseref6_Node.sz, Dz D_valiseref6_Node S0 w0.heap.size B4418 ds4417 z4411, .box g4399 ([.int .i64 ((rdp ((0, []) : (Int × List Int)) z4378 z4389).1), .slice ((rdx E_valiseref6_Node ds4384 z4389).2.1) ((rdp ((0, []) : (Int × List Int)) z4378 z4389).2).length ((rdx E_valiseref6_Node ds4384 z4389).2.2)]) 61, .rd ((rdx E_valiseref6_Node ds4384 z4389).2.1) (rowC (Eint .i64) ((rdp ((0, []) : (Int × List Int)) z4378 z4389).2)), .box g4423 ([.int .i64 (IntKind.i64.wrap (((rdp ((0, []) : (Int × List Int)) l4350 z4357).1) + ((rdp ((0, []) : (Int × List Int)) z4378 z4389).1))), .slice A5022 l5019.length c5023]) 61, .own A4980 c4981 (rowC (Eint .i64) l4982) 3 (Eint .i64).sz, .own A5014 c5015 (rowC (Eint .i64) ([rd ((rdp ((0, []) : (Int × List Int)) z4378 z4389).2) k_4983])) 3 (Eint .i64).sz, .own A5022 c5023 (rowC (Eint .i64) l5019) 3 (Eint .i64).sz] := HS5028
                          refine T_next ?_
                          refine T_done (by kernel_rfl) ?_
                          refine L_endB hN4987 ?_
                          refine L_region ?_
                          refine F_val rfl rfl rfl (O_move rfl rfl) ?_
                          refine F_val rfl rfl rfl (O_add rfl rfl rfl) ?_
                          obtain ⟨x5029, h5030, H⟩ := of_bnd H
                          refine F_val rfl rfl rfl (O_assign' rfl rfl (congrArg (Value.int .i64) h5030)) ?_
                          refine F_nil ?_
                          refine L_nil (fun a ha => hNp4979 _ a _ (Nat.lt_succ_self _) ⟨_, _, _, _, Is.cons ha (Is.cons ha (Is.cons ha (Is.cons ha (Is.cons ha (Is.nil ha) rfl) rfl) rfl) rfl) rfl, HS5028.sel [0, 1, 2, 3, 4, 5, 6, 9] rfl, H⟩)
                      · have H := of_neg H c4986
                        refine L_exitB (fun a w h => hOp4979 (.exit 6) a w rfl (hXb4884 a w h)) ?_
                        refine L_nil (fun a ha => hNj4731 a _ ⟨_, _, _, (Option.some.inj H).symm, Is.cons ha (Is.cons ha (Is.cons ha (Is.nil ha) rfl) rfl) rfl, HS4985.sel [0, 1, 2, 3, 6, 7] rfl⟩)
                  · obtain ⟨l4883, A4881, c4882, ej, ha, HS5032⟩ := hR
                    obtain rfl := ej.symm
                    refine wpLF_app ?_ ha
                    refine L_seq ?_
                    refine L_seq ?_
                    refine L_region ?_
                    refine F_val rfl rfl rfl (O_assign rfl rfl) ?_
                    refine F_nil ?_
                    obtain ⟨yj5033, Hyj5033, H⟩ := of_bind H
                    refine L_join (fun a w => ∃ (l5087 : List Int), yj5033 = l5087 ∧ Is Try.f21.ntmps a [(5, .slice A20 l5087.length c21), (7, .slice A4414 z4411.length c4415), (14, .pointer (some ⟨g4423, 0, none⟩))] ∧ Hp S0 w0 w [.rd A_freq_0 (rowC (Eint .i64) l_freq_0), .own A20 c21 (rowC (Eint .i64) l5087) 3 (Eint .i64).sz, .own A4414 c4415 (rowC E_valiseref6_Node ds4417) 61 E_valiseref6_Node.sz, Dz D_valiseref6_Node S0 w0.heap.size B4418 ds4417 z4411, .box g4423 ([.int .i64 (IntKind.i64.wrap (((rdp ((0, []) : (Int × List Int)) l4350 z4357).1) + ((rdp ((0, []) : (Int × List Int)) z4378 z4389).1))), .slice A4881 l4883.length c4882]) 61, .own A4881 c4882 (rowC (Eint .i64) l4883) 3 (Eint .i64).sz]) (fun Qj5033 hNj5033 hOj5033 => ?_) (fun a w hR => ?_)
                    · skip
                      have H := Hyj5033
                      refine L_blk (fun Qb5088 hNb5088 hXb5088 hOb5088 => ?_)
                      refine L_lp (fun k a w => ∃ (l5122 : List Int), ∃ (k_5123 : Int), Is Try.f21.ntmps a [(5, .slice A20 l5122.length c21), (7, .slice A4414 z4411.length c4415), (14, .pointer (some ⟨g4423, 0, none⟩)), (17, .int .i64 k_5123)] ∧ Hp S0 w0 w [.rd A_freq_0 (rowC (Eint .i64) l_freq_0), .own A20 c21 (rowC (Eint .i64) l5122) 3 (Eint .i64).sz, .own A4414 c4415 (rowC E_valiseref6_Node ds4417) 61 E_valiseref6_Node.sz, Dz D_valiseref6_Node S0 w0.heap.size B4418 ds4417 z4411, .box g4423 ([.int .i64 (IntKind.i64.wrap (((rdp ((0, []) : (Int × List Int)) l4350 z4357).1) + ((rdp ((0, []) : (Int × List Int)) z4378 z4389).1))), .slice A4881 l4883.length c4882]) 61, .own A4881 c4882 (rowC (Eint .i64) l4883) 3 (Eint .i64).sz] ∧ valiseref6_Depths.l39 k l5122 k_5123 l4883 = some yj5033) FU (fun a ha => ⟨_, _, Is.cons ha (Is.cons ha (Is.cons ha (Is.cons ha (Is.nil ha) rfl) rfl) rfl) rfl, HS5032.sel [0, 1, 2, 3, 4, 5] rfl, H⟩) (fun kp5121 a w5124 hI Qp5121 hNp5121 hOp5121 => ?_)
                      obtain ⟨l5122, k_5123, ha, HS5125, HAp5121⟩ := hI
                      cases kp5121 with
                      | zero => cases (show (none : Option _) = some _ from HAp5121)
                      | succ kp5121 =>
                        have H := (valiseref6_Depths.l39.eq_2 ..).symm.trans HAp5121
                        refine wpLF_app ?_ ha
                        refine L_seq ?_
                        refine L_seq ?_
                        refine L_region ?_
                        refine F_val rfl rfl rfl (O_move rfl rfl) ?_
                        refine F_val rfl rfl rfl (O_fieldB rfl rfl field61_1) ?_
                        refine F_val rfl rfl rfl (O_loadB rfl rfl flat22 (HS5125.cells_box (i := 4) rfl) rfl) ?_
                        refine F_val rfl rfl rfl (O_len rfl rfl Try.underlying22) ?_
                        refine F_val rfl rfl rfl (O_lt rfl rfl rfl) ?_
                        refine F_nil ?_
                        refine L_condP rfl (fun c5126 => ?_) (fun c5126 => ?_)
                        · have H := of_pos H c5126
                          refine L_skip ?_
                          refine L_seq ?_
                          refine L_blk (fun Q5127 hN5127 hX5127 hO5127 => ?_)
                          refine L_seq ?_
                          refine L_region ?_
                          refine F_val rfl rfl rfl (O_fieldB rfl rfl field61_1) ?_
                          refine F_val rfl rfl rfl (O_loadB rfl rfl flat22 (HS5125.cells_box (i := 4) rfl) rfl) ?_
                          refine F_val rfl rfl rfl (O_move rfl rfl) ?_
                          obtain ⟨⟨g5128, g5129⟩, H⟩ := of_gd H
                          refine F_val rfl rfl rfl (O_idx rfl rfl rfl Try.underlying22 size3 g5128 g5129 (Cells.isA (HS5125.cells_own (i := 5) rfl) (rowC_ne (E := (Eint .i64)) g5128 g5129 (by decide)))) ?_
                          refine F_val rfl rfl rfl (O_loadC rfl rfl flat3 (HS5125.cells_own (i := 5) rfl) (int_cell g5128 g5129)) ?_
                          obtain ⟨x5130, h5131, H⟩ := of_bnd H
                          refine F_val rfl rfl rfl (O_assign' rfl rfl (congrArg (Value.int .i64) h5131)) ?_
                          refine F_nil ?_
                          refine L_region ?_
                          refine F_val rfl rfl rfl (O_move rfl rfl) ?_
                          refine F_val rfl rfl rfl (O_move rfl rfl) ?_
                          refine F_val rfl rfl rfl (O_move rfl rfl) ?_
                          refine F_val rfl rfl rfl (O_move rfl rfl) ?_
                          obtain ⟨⟨g5132, g5133⟩, H⟩ := of_gd H
                          refine F_val rfl rfl rfl (O_idx rfl rfl rfl Try.underlying22 size3 g5132 g5133 (Cells.isA (HS5125.cells_own (i := 1) rfl) (rowC_ne (E := (Eint .i64)) g5132 g5133 (by decide)))) ?_
                          refine F_val rfl rfl rfl (O_loadC rfl rfl flat3 (HS5125.cells_own (i := 1) rfl) (int_cell g5132 g5133)) ?_
                          refine F_val rfl rfl rfl (O_add rfl rfl rfl) ?_
                          refine F_val rfl rfl rfl (O_idx rfl rfl rfl Try.underlying22 size3 g5132 g5133 (Cells.isA (HS5125.cells_own (i := 1) rfl) (rowC_ne (E := (Eint .i64)) g5132 g5133 (by decide)))) ?_
                          obtain ⟨l5136, h5137, H⟩ := of_bnd H
                          refine F_setE (E := (Eint .i64)) (i := 1) (a := IntKind.i64.wrap ((rd l5122 x5130) + 1)) (q := x5130) rfl rfl rfl rfl rfl rfl size3 HS5125 rfl (by decide) g5132 g5133 h5137 (fun w5134 HS5135 => ?_)
                          have e5138 : l5122.length = l5136.length := by rw [← h5137, List.length_set]
                          refine F_know (i := 5) rfl (congrArg (fun n => Value.slice A20 n c21) e5138) ?_
                          have HS5135 : Hp S0 w0 w5134 [.rd A_freq_0 (rowC (Eint .i64) l_freq_0), .own A20 c21 (rowC (Eint .i64) l5136) 3 (Eint .i64).sz, .own A4414 c4415 (rowC E_valiseref6_Node ds4417) 61 E_valiseref6_Node.sz, Dz D_valiseref6_Node S0 w0.heap.size B4418 ds4417 z4411, .box g4423 ([.int .i64 (IntKind.i64.wrap (((rdp ((0, []) : (Int × List Int)) l4350 z4357).1) + ((rdp ((0, []) : (Int × List Int)) z4378 z4389).1))), .slice A4881 l4883.length c4882]) 61, .own A4881 c4882 (rowC (Eint .i64) l4883) 3 (Eint .i64).sz] := HS5135
                          refine F_nil ?_
                          refine L_endB hN5127 ?_
                          refine L_region ?_
                          refine F_val rfl rfl rfl (O_move rfl rfl) ?_
                          refine F_val rfl rfl rfl (O_add rfl rfl rfl) ?_
                          obtain ⟨x5139, h5140, H⟩ := of_bnd H
                          refine F_val rfl rfl rfl (O_assign' rfl rfl (congrArg (Value.int .i64) h5140)) ?_
                          refine F_nil ?_
                          refine L_nil (fun a ha => hNp5121 _ a _ (Nat.lt_succ_self _) ⟨_, _, Is.cons ha (Is.cons ha (Is.cons ha (Is.cons ha (Is.nil ha) rfl) rfl) rfl) rfl, HS5135.sel [0, 1, 2, 3, 4, 5] rfl, H⟩)
                        · have H := of_neg H c5126
                          refine L_exitB (fun a w h => hOp5121 (.exit 8) a w rfl (hXb5088 a w h)) ?_
                          refine L_nil (fun a ha => hNj5033 a _ ⟨_, (Option.some.inj H).symm, Is.cons ha (Is.cons ha (Is.cons ha (Is.nil ha) rfl) rfl) rfl, HS5125.sel [0, 1, 2, 3, 4, 5] rfl⟩)
                    · obtain ⟨l5087, ej, ha, HS5142⟩ := hR
                      obtain rfl := ej.symm
                      refine wpLF_app ?_ ha
                      refine L_region ?_
                      refine F_val rfl rfl rfl (O_move rfl rfl) ?_
                      refine F_val rfl rfl rfl (O_loadWB' (k := 0) (vs := [.int .i64 (IntKind.i64.wrap (((rdp ((0, []) : (Int × List Int)) l4350 z4357).1) + ((rdp ((0, []) : (Int × List Int)) z4378 z4389).1))), .slice A4881 l4883.length c4882]) rfl rfl wide61 (HS5142.cells_box (i := 4) rfl) rfl rfl (by simp)) ?_
                      have HS5146 : Hp S0 w0 w [.rd A_freq_0 (rowC (Eint .i64) l_freq_0), .own A20 c21 (rowC (Eint .i64) l5087) 3 (Eint .i64).sz, .own A4414 c4415 (rowC E_valiseref6_Node ds4417) 61 E_valiseref6_Node.sz, Dz D_valiseref6_Node S0 w0.heap.size B4418 ds4417 z4411, .box g4423 ([.int .i64 (IntKind.i64.wrap (((rdp ((0, []) : (Int × List Int)) l4350 z4357).1) + ((rdp ((0, []) : (Int × List Int)) z4378 z4389).1))), .slice A4881 l4883.length c4882]) 61, Dz D_valiseref6_Node S0 w0.heap.size (blk A4881 (rowC (Eint .i64) l4883)) ([((IntKind.i64.wrap (((rdp ((0, []) : (Int × List Int)) l4350 z4357).1) + ((rdp ((0, []) : (Int × List Int)) z4378 z4389).1)), l4883), A4881, c4882)]) ([(IntKind.i64.wrap (((rdp ((0, []) : (Int × List Int)) l4350 z4357).1) + ((rdp ((0, []) : (Int × List Int)) z4378 z4389).1)), l4883)])] := HS5142.ndFreeze (i := 5) (IntKind.i64.wrap (((rdp ((0, []) : (Int × List Int)) l4350 z4357).1) + ((rdp ((0, []) : (Int × List Int)) z4378 z4389).1)), l4883) rfl rfl (by decide) hSF (Nat.le_refl _)
                      refine F_litE (E := E_valiseref6_Node) (e := 61) [(0, .agg #[.int .i64 (IntKind.i64.wrap (((rdp ((0, []) : (Int × List Int)) l4350 z4357).1) + ((rdp ((0, []) : (Int × List Int)) z4378 z4389).1))), .slice A4881 l4883.length c4882])] [((IntKind.i64.wrap (((rdp ((0, []) : (Int × List Int)) l4350 z4357).1) + ((rdp ((0, []) : (Int × List Int)) z4378 z4389).1)), l4883), A4881, c4882)] rfl rfl rfl rfl rfl rfl rfl (by decide) (fun w => by kernel_rfl) HS5146 (fun w5143 A5147 c5148 HS5144 => ?_)
                      have HS5144 : Hp S0 w0 w5143 [.rd A_freq_0 (rowC (Eint .i64) l_freq_0), .own A20 c21 (rowC (Eint .i64) l5087) 3 (Eint .i64).sz, .own A4414 c4415 (rowC E_valiseref6_Node ds4417) 61 E_valiseref6_Node.sz, Dz D_valiseref6_Node S0 w0.heap.size B4418 ds4417 z4411, .box g4423 ([.int .i64 (IntKind.i64.wrap (((rdp ((0, []) : (Int × List Int)) l4350 z4357).1) + ((rdp ((0, []) : (Int × List Int)) z4378 z4389).1))), .slice A4881 l4883.length c4882]) 61, Dz D_valiseref6_Node S0 w0.heap.size (blk A4881 (rowC (Eint .i64) l4883)) ([((IntKind.i64.wrap (((rdp ((0, []) : (Int × List Int)) l4350 z4357).1) + ((rdp ((0, []) : (Int × List Int)) z4378 z4389).1)), l4883), A4881, c4882)]) ([(IntKind.i64.wrap (((rdp ((0, []) : (Int × List Int)) l4350 z4357).1) + ((rdp ((0, []) : (Int × List Int)) z4378 z4389).1)), l4883)]), .own A5147 c5148 (rowC E_valiseref6_Node ([((IntKind.i64.wrap (((rdp ((0, []) : (Int × List Int)) l4350 z4357).1) + ((rdp ((0, []) : (Int × List Int)) z4378 z4389).1)), l4883), A4881, c4882)])) 61 E_valiseref6_Node.sz] := HS5144
                      have HS5151 : Hp S0 w0 w5143 [.rd A_freq_0 (rowC (Eint .i64) l_freq_0), .own A20 c21 (rowC (Eint .i64) l5087) 3 (Eint .i64).sz, .own A4414 c4415 (rowC E_valiseref6_Node ds4417) 61 E_valiseref6_Node.sz, Dz D_valiseref6_Node S0 w0.heap.size B4418 ds4417 z4411, .box g4423 ([.int .i64 (IntKind.i64.wrap (((rdp ((0, []) : (Int × List Int)) l4350 z4357).1) + ((rdp ((0, []) : (Int × List Int)) z4378 z4389).1))), .slice A4881 l4883.length c4882]) 61, Dz D_valiseref6_Node S0 w0.heap.size (blk A4881 (rowC (Eint .i64) l4883)) ([((IntKind.i64.wrap (((rdp ((0, []) : (Int × List Int)) l4350 z4357).1) + ((rdp ((0, []) : (Int × List Int)) z4378 z4389).1)), l4883), A4881, c4882)]) ([(IntKind.i64.wrap (((rdp ((0, []) : (Int × List Int)) l4350 z4357).1) + ((rdp ((0, []) : (Int × List Int)) z4378 z4389).1)), l4883)]), .own A5147 c5148 (rowC E_valiseref6_Node ([((IntKind.i64.wrap (((rdp ((0, []) : (Int × List Int)) l4350 z4357).1) + ((rdp ((0, []) : (Int × List Int)) z4378 z4389).1)), l4883), A4881, c4882)])) 61 E_valiseref6_Node.sz, Dz D_valiseref6_Node S0 w0.heap.size (blk A4881 (rowC (Eint .i64) l4883)) ([((IntKind.i64.wrap (((rdp ((0, []) : (Int × List Int)) l4350 z4357).1) + ((rdp ((0, []) : (Int × List Int)) z4378 z4389).1)), l4883), A4881, c4882)]) ([(IntKind.i64.wrap (((rdp ((0, []) : (Int × List Int)) l4350 z4357).1) + ((rdp ((0, []) : (Int × List Int)) z4378 z4389).1)), l4883)])] := HS5144.dzSub (i := 5) rfl dz_self (HS5144.dze (i := 5) rfl)
                      obtain ⟨l5154, h5155, H⟩ := of_bnd H
                      obtain ⟨g5156, H⟩ := of_gd H
                      refine F_appD (D := D_valiseref6_Node) (ds := ds4417) (ds' := ([((IntKind.i64.wrap (((rdp ((0, []) : (Int × List Int)) l4350 z4357).1) + ((rdp ((0, []) : (Int × List Int)) z4378 z4389).1)), l4883), A4881, c4882)])) (xs := z4411) (ys := ([(IntKind.i64.wrap (((rdp ((0, []) : (Int × List Int)) l4350 z4357).1) + ((rdp ((0, []) : (Int × List Int)) z4378 z4389).1)), l4883)])) (i := 2) rfl rfl rfl rfl Try.underlying59 info61 rfl (by decide) (by decide) rfl rfl HS5151 rfl (HS5151.dze (i := 3) rfl) (HS5151.dze (i := 7) rfl) (HS5151.cells_own (i := 6) rfl) h5155 g5156 (fun w5152 A5157 c5158 HS5153 => ?_)
                      have HS5153 : Hp S0 w0 w5152 [.rd A_freq_0 (rowC (Eint .i64) l_freq_0), .own A20 c21 (rowC (Eint .i64) l5087) 3 (Eint .i64).sz, .own A5157 c5158 (rowC E_valiseref6_Node (ds4417 ++ ([((IntKind.i64.wrap (((rdp ((0, []) : (Int × List Int)) l4350 z4357).1) + ((rdp ((0, []) : (Int × List Int)) z4378 z4389).1)), l4883), A4881, c4882)]))) 61 E_valiseref6_Node.sz, Dz D_valiseref6_Node S0 w0.heap.size B4418 ds4417 z4411, .box g4423 ([.int .i64 (IntKind.i64.wrap (((rdp ((0, []) : (Int × List Int)) l4350 z4357).1) + ((rdp ((0, []) : (Int × List Int)) z4378 z4389).1))), .slice A4881 l4883.length c4882]) 61, Dz D_valiseref6_Node S0 w0.heap.size (blk A4881 (rowC (Eint .i64) l4883)) ([((IntKind.i64.wrap (((rdp ((0, []) : (Int × List Int)) l4350 z4357).1) + ((rdp ((0, []) : (Int × List Int)) z4378 z4389).1)), l4883), A4881, c4882)]) ([(IntKind.i64.wrap (((rdp ((0, []) : (Int × List Int)) l4350 z4357).1) + ((rdp ((0, []) : (Int × List Int)) z4378 z4389).1)), l4883)]), .own A5147 c5148 (rowC E_valiseref6_Node ([((IntKind.i64.wrap (((rdp ((0, []) : (Int × List Int)) l4350 z4357).1) + ((rdp ((0, []) : (Int × List Int)) z4378 z4389).1)), l4883), A4881, c4882)])) 61 E_valiseref6_Node.sz, Dz D_valiseref6_Node S0 w0.heap.size (blk A4881 (rowC (Eint .i64) l4883)) ([((IntKind.i64.wrap (((rdp ((0, []) : (Int × List Int)) l4350 z4357).1) + ((rdp ((0, []) : (Int × List Int)) z4378 z4389).1)), l4883), A4881, c4882)]) ([(IntKind.i64.wrap (((rdp ((0, []) : (Int × List Int)) l4350 z4357).1) + ((rdp ((0, []) : (Int × List Int)) z4378 z4389).1)), l4883)])] := HS5153
                      have HS5159 : Hp S0 w0 w5152 [.rd A_freq_0 (rowC (Eint .i64) l_freq_0), .own A20 c21 (rowC (Eint .i64) l5087) 3 (Eint .i64).sz, .own A5157 c5158 (rowC E_valiseref6_Node (ds4417 ++ ([((IntKind.i64.wrap (((rdp ((0, []) : (Int × List Int)) l4350 z4357).1) + ((rdp ((0, []) : (Int × List Int)) z4378 z4389).1)), l4883), A4881, c4882)]))) 61 E_valiseref6_Node.sz, Dz D_valiseref6_Node S0 w0.heap.size (orB B4418 (blk A4881 (rowC (Eint .i64) l4883))) (ds4417 ++ ([((IntKind.i64.wrap (((rdp ((0, []) : (Int × List Int)) l4350 z4357).1) + ((rdp ((0, []) : (Int × List Int)) z4378 z4389).1)), l4883), A4881, c4882)])) l5154, .box g4423 ([.int .i64 (IntKind.i64.wrap (((rdp ((0, []) : (Int × List Int)) l4350 z4357).1) + ((rdp ((0, []) : (Int × List Int)) z4378 z4389).1))), .slice A4881 l4883.length c4882]) 61, Dz D_valiseref6_Node S0 w0.heap.size (blk A4881 (rowC (Eint .i64) l4883)) ([((IntKind.i64.wrap (((rdp ((0, []) : (Int × List Int)) l4350 z4357).1) + ((rdp ((0, []) : (Int × List Int)) z4378 z4389).1)), l4883), A4881, c4882)]) ([(IntKind.i64.wrap (((rdp ((0, []) : (Int × List Int)) l4350 z4357).1) + ((rdp ((0, []) : (Int × List Int)) z4378 z4389).1)), l4883)]), .own A5147 c5148 (rowC E_valiseref6_Node ([((IntKind.i64.wrap (((rdp ((0, []) : (Int × List Int)) l4350 z4357).1) + ((rdp ((0, []) : (Int × List Int)) z4378 z4389).1)), l4883), A4881, c4882)])) 61 E_valiseref6_Node.sz, Dz D_valiseref6_Node S0 w0.heap.size (blk A4881 (rowC (Eint .i64) l4883)) ([((IntKind.i64.wrap (((rdp ((0, []) : (Int × List Int)) l4350 z4357).1) + ((rdp ((0, []) : (Int × List Int)) z4378 z4389).1)), l4883), A4881, c4882)]) ([(IntKind.i64.wrap (((rdp ((0, []) : (Int × List Int)) l4350 z4357).1) + ((rdp ((0, []) : (Int × List Int)) z4378 z4389).1)), l4883)])] := HS5153.dzApp (i := 3) (j := 7) rfl rfl h5155
                      refine F_val rfl rfl rfl (O_assign rfl rfl) ?_
                      refine F_nil ?_
                      refine L_endB hN4354 ?_
                      refine L_nil (fun a ha => hNp4344 _ a _ (Nat.lt_succ_self _) ⟨_, _, _, _, _, _, Is.cons ha (Is.cons ha (Is.nil ha) rfl) rfl, HS5159.sel [0, 1, 2, 3] rfl, H⟩)
              · have H := of_neg H c4353
                refine L_exitB (fun a w h => hOp4344 (.exit 2) a w rfl (hXb2723 a w h)) ?_
                refine L_nil (fun a ha => hNj284 a _ ⟨_, (Option.some.inj H).symm, Is.cons ha (Is.nil ha) rfl, HS4352.sel [0, 1] rfl⟩)
          · obtain ⟨l2722, ej, ha, HS5161⟩ := hR
            obtain rfl := ej.symm
            refine wpLF_app ?_ ha
            refine L_seq ?_
            refine L_region ?_
            refine F_val rfl rfl rfl (O_move rfl rfl) ?_
            refine F_val rfl rfl rfl (O_assign rfl rfl) ?_
            refine F_val rfl rfl rfl (O_assign rfl rfl) ?_
            refine F_nil ?_
            refine L_ret (fun a ha => (post_ret2 ha rfl rfl rfl ?_))
            obtain rfl := Option.some.inj H
            exact ⟨_, _, rfl, HS5161.sel [1] rfl⟩

/-! function 18: valise/valiselaw6.num -/
theorem valiselaw6_num.calls {S0 : Nat → Prop} {w0 : World} {e_0 : Int} {r : Int} (HS0 : Hp S0 w0 w0 []) (h : valiselaw6_num.f e_0 = some r) :
    Calls Try.prog 18 ([.int .i64 e_0] : List Value).toArray w0 (fun e w => e = .returned (.int .i64 r) ∧ Hp S0 w0 w []) := by
  have H : ((some e_0) : Option (Int)) = some r := h
  refine calls_start Try.func18 rfl rfl ?_
  refine L_seq ?_
  refine L_region ?_
  refine F_val rfl rfl rfl (O_assign rfl rfl) ?_
  refine F_nil ?_
  refine L_seq ?_
  refine L_region ?_
  refine F_val rfl rfl rfl (O_move rfl rfl) ?_
  refine F_val rfl rfl rfl (O_assign rfl rfl) ?_
  refine F_nil ?_
  refine L_ret (fun a ha => (post_ret1 ha rfl rfl ?_))
  obtain rfl := Option.some.inj H
  exact ⟨rfl, HS0.sel [] rfl⟩

/-! function 22: valise/valiselaw6.same -/
theorem valiselaw6_same.calls {S0 : Nat → Prop} {w0 : World} {A_a_0 : Option Addr} {c_a_0 : Nat} {A_b_1 : Option Addr} {c_b_1 : Nat} {l_a_0 : List Int} {l_b_1 : List Int} {r : Bool} (HS0 : Hp S0 w0 w0 [.rd A_a_0 (rowC (Eint .i64) l_a_0), .rd A_b_1 (rowC (Eint .i64) l_b_1)]) (hc_a_0 : l_a_0.length ≤ c_a_0) (hc_b_1 : l_b_1.length ≤ c_b_1) (h : valiselaw6_same.f l_a_0 l_b_1 = some r) :
    Calls Try.prog 22 ([.slice A_a_0 l_a_0.length c_a_0, .slice A_b_1 l_b_1.length c_b_1] : List Value).toArray w0 (fun e w => e = .returned (.bool r) ∧ Hp S0 w0 w []) := by
  have H : ((if (l_a_0.length : Int) ≠ (l_b_1.length : Int) then (some false) else ((valiselaw6_same.l1 FU 0 l_a_0 l_b_1).bind fun (yj2 : Sum (Bool) (Unit)) => onR yj2 (fun r => some r) fun () => some true)) : Option (Bool)) = some r := h
  refine calls_start Try.func22 rfl rfl ?_
  refine L_seq ?_
  refine L_region ?_
  refine F_val rfl rfl rfl (O_assign rfl rfl) ?_
  refine F_nil ?_
  refine L_seq ?_
  refine L_seq ?_
  refine L_region ?_
  refine F_val rfl rfl rfl (O_move rfl rfl) ?_
  refine F_val rfl rfl rfl (O_len rfl rfl Try.underlying22) ?_
  refine F_val rfl rfl rfl (O_move rfl rfl) ?_
  refine F_val rfl rfl rfl (O_len rfl rfl Try.underlying22) ?_
  refine F_val rfl rfl rfl (O_ne rfl rfl rfl) ?_
  refine F_nil ?_
  refine L_condP rfl (fun c1 => ?_) (fun c1 => ?_)
  · have H := of_pos H c1
    refine L_seq ?_
    refine L_region ?_
    refine F_val rfl rfl rfl (O_assign rfl rfl) ?_
    refine F_nil ?_
    refine L_ret (fun a ha => (post_ret1 ha rfl rfl ?_))
    obtain rfl := Option.some.inj H
    exact ⟨rfl, HS0.sel [] rfl⟩
  · have H := of_neg H c1
    refine L_skip ?_
    refine L_seq ?_
    refine L_seq ?_
    refine L_region ?_
    refine F_val rfl rfl rfl (O_assign rfl rfl) ?_
    refine F_nil ?_
    obtain ⟨yj2, Hyj2, H⟩ := of_bind H
    refine L_join (fun a w => yj2 = Sum.inr () ∧ Is Try.f22.ntmps a [] ∧ Hp S0 w0 w [.rd A_a_0 (rowC (Eint .i64) l_a_0), .rd A_b_1 (rowC (Eint .i64) l_b_1)]) (fun Qj2 hNj2 hOj2 => ?_) (fun a w hR => ?_)
    · have HOj2 := H
      have H := Hyj2
      refine L_blk (fun Qb45 hNb45 hXb45 hOb45 => ?_)
      refine L_lp (fun k a w => ∃ (i_72 : Int), Is Try.f22.ntmps a [(0, .slice A_a_0 l_a_0.length c_a_0), (1, .slice A_b_1 l_b_1.length c_b_1), (5, .int .i64 i_72)] ∧ Hp S0 w0 w [.rd A_a_0 (rowC (Eint .i64) l_a_0), .rd A_b_1 (rowC (Eint .i64) l_b_1)] ∧ valiselaw6_same.l1 k i_72 l_a_0 l_b_1 = some yj2) FU (fun a ha => ⟨_, Is.cons ha (Is.cons ha (Is.cons ha (Is.nil ha) rfl) rfl) rfl, HS0.sel [0, 1] rfl, H⟩) (fun kp71 a w73 hI Qp71 hNp71 hOp71 => ?_)
      obtain ⟨i_72, ha, HS74, HAp71⟩ := hI
      cases kp71 with
      | zero => cases (show (none : Option _) = some _ from HAp71)
      | succ kp71 =>
        have H := (valiselaw6_same.l1.eq_2 ..).symm.trans HAp71
        refine wpLF_app ?_ ha
        refine L_seq ?_
        refine L_seq ?_
        refine L_region ?_
        refine F_val rfl rfl rfl (O_move rfl rfl) ?_
        refine F_val rfl rfl rfl (O_move rfl rfl) ?_
        refine F_val rfl rfl rfl (O_len rfl rfl Try.underlying22) ?_
        refine F_val rfl rfl rfl (O_lt rfl rfl rfl) ?_
        refine F_nil ?_
        refine L_condP rfl (fun c75 => ?_) (fun c75 => ?_)
        · have H := of_pos H c75
          refine L_skip ?_
          refine L_seq ?_
          refine L_blk (fun Q76 hN76 hX76 hO76 => ?_)
          refine L_seq ?_
          refine L_quiet mix (by kernel_rfl) ?_
          refine Q_val rfl rfl rfl (fun wq hq => O_move rfl rfl) ?_
          refine Q_val rfl rfl rfl (fun wq hq => O_move rfl rfl) ?_
          obtain ⟨⟨g77, g78⟩, H⟩ := of_gd H
          refine Q_val rfl rfl rfl (fun wq hq => O_idx rfl rfl rfl Try.underlying22 size3 g77 g78 (Cells.isA ((HS74.keep hq).cells_rd (i := 0) rfl) (rowC_ne (E := (Eint .i64)) g77 g78 (by decide)))) ?_
          refine Q_val rfl rfl rfl (fun wq hq => O_loadC rfl rfl flat3 ((HS74.keep hq).cells_rd (i := 0) rfl) (int_cell g77 g78)) ?_
          refine Q_val rfl rfl rfl (fun wq hq => O_move rfl rfl) ?_
          refine Q_val rfl rfl rfl (fun wq hq => O_move rfl rfl) ?_
          obtain ⟨⟨g79, g80⟩, H⟩ := of_gd H
          refine Q_val rfl rfl rfl (fun wq hq => O_idx rfl rfl rfl Try.underlying22 size3 g79 g80 (Cells.isA ((HS74.keep hq).cells_rd (i := 1) rfl) (rowC_ne (E := (Eint .i64)) g79 g80 (by decide)))) ?_
          refine Q_val rfl rfl rfl (fun wq hq => O_loadC rfl rfl flat3 ((HS74.keep hq).cells_rd (i := 1) rfl) (int_cell g79 g80)) ?_
          refine Q_val rfl rfl rfl (fun wq hq => O_ne rfl rfl rfl) ?_
          refine Q_nil (fun w81 hw82 => ?_)
          have HS83 := HS74.keep hw82
          refine L_condP rfl (fun c84 => ?_) (fun c84 => ?_)
          · have H := of_pos H c84
            refine L_seq ?_
            refine L_region ?_
            refine F_val rfl rfl rfl (O_assign rfl rfl) ?_
            refine F_nil ?_
            refine L_ret (fun a ha => (hO76 .ret a _ rfl (hOp71 .ret a _ rfl (hOb45 .ret a _ rfl (hOj2 .ret a _ rfl (post_ret1 ha rfl rfl ?_))))))
            obtain rfl := Option.some.inj H
            obtain rfl := Option.some.inj (show (some false : Option (Bool)) = some _ from HOj2)
            exact ⟨rfl, HS83.sel [] rfl⟩
          · have H := of_neg H c84
            refine L_skip ?_
            refine L_endB hN76 ?_
            refine L_region ?_
            refine F_val rfl rfl rfl (O_move rfl rfl) ?_
            refine F_val rfl rfl rfl (O_add rfl rfl rfl) ?_
            obtain ⟨x85, h86, H⟩ := of_bnd H
            refine F_val rfl rfl rfl (O_assign' rfl rfl (congrArg (Value.int .i64) h86)) ?_
            refine F_nil ?_
            refine L_nil (fun a ha => hNp71 _ a _ (Nat.lt_succ_self _) ⟨_, Is.cons ha (Is.cons ha (Is.cons ha (Is.nil ha) rfl) rfl) rfl, HS83.sel [0, 1] rfl, H⟩)
        · have H := of_neg H c75
          refine L_exitB (fun a w h => hOp71 (.exit 0) a w rfl (hXb45 a w h)) ?_
          refine L_nil (fun a ha => hNj2 a _ ⟨(Option.some.inj H).symm, Is.nil ha, HS74.sel [0, 1] rfl⟩)
    · obtain ⟨rfl, ha, HS88⟩ := hR
      refine wpLF_app ?_ ha
      have H := (onR_inr _ _ _).symm.trans H
      refine L_seq ?_
      refine L_region ?_
      refine F_val rfl rfl rfl (O_assign rfl rfl) ?_
      refine F_nil ?_
      refine L_ret (fun a ha => (post_ret1 ha rfl rfl ?_))
      obtain rfl := Option.some.inj H
      exact ⟨rfl, HS88.sel [] rfl⟩

/-! function 19: valise/valiselaw6.still -/
theorem valiselaw6_still.calls {S0 : Nat → Prop} {w0 : World} {A_given_0 : Option Addr} {c_given_0 : Nat} {A_a_1 : Option Addr} {c_a_1 : Nat} {l_given_0 : List Int} {m_given_0 : Nat} {l_a_1 : List Int} {r : Bool} (HS0 : Hp S0 w0 w0 [.rd A_given_0 (rowC (Eint .i64) l_given_0), .rd A_a_1 (rowC (Eint .i64) l_a_1)]) (hc_given_0 : l_given_0.length ≤ c_given_0) (hc_a_1 : l_a_1.length ≤ c_a_1) (h : valiselaw6_still.f l_given_0 m_given_0 l_a_1 = some r) :
    Calls Try.prog 19 ([.slice A_given_0 (l_given_0.take m_given_0).length c_given_0, .slice A_a_1 l_a_1.length c_a_1] : List Value).toArray w0 (fun e w => e = .returned (.bool r) ∧ Hp S0 w0 w []) := by
  have H : ((if ((l_given_0.take m_given_0).length : Int) ≠ (l_a_1.length : Int) then (some false) else (gd ((0 : Int) ≤ (IntKind.i64.wrap ((l_a_1.length : Int) + 8)) ∧ (IntKind.i64.wrap ((l_a_1.length : Int) + 8)) ≤ (l_given_0.length : Int)) ((valiselaw6_still.l1 FU 0 l_given_0 l_a_1).bind fun (yj4 : Sum (Bool) (Unit)) => onR yj4 (fun r => some r) fun () => some true))) : Option (Bool)) = some r := h
  refine calls_start Try.func19 rfl rfl ?_
  refine L_seq ?_
  refine L_region ?_
  refine F_val rfl rfl rfl (O_assign rfl rfl) ?_
  refine F_nil ?_
  refine L_seq ?_
  refine L_seq ?_
  refine L_region ?_
  refine F_val rfl rfl rfl (O_move rfl rfl) ?_
  refine F_val rfl rfl rfl (O_len rfl rfl Try.underlying22) ?_
  refine F_val rfl rfl rfl (O_move rfl rfl) ?_
  refine F_val rfl rfl rfl (O_len rfl rfl Try.underlying22) ?_
  refine F_val rfl rfl rfl (O_ne rfl rfl rfl) ?_
  refine F_nil ?_
  refine L_condP rfl (fun c1 => ?_) (fun c1 => ?_)
  · have H := of_pos H c1
    refine L_seq ?_
    refine L_region ?_
    refine F_val rfl rfl rfl (O_assign rfl rfl) ?_
    refine F_nil ?_
    refine L_ret (fun a ha => (post_ret1 ha rfl rfl ?_))
    obtain rfl := Option.some.inj H
    exact ⟨rfl, HS0.sel [] rfl⟩
  · have H := of_neg H c1
    refine L_skip ?_
    refine L_seq ?_
    refine L_region ?_
    refine F_val rfl rfl rfl (O_move rfl rfl) ?_
    refine F_val rfl rfl rfl (O_move rfl rfl) ?_
    refine F_val rfl rfl rfl (O_len rfl rfl Try.underlying22) ?_
    refine F_val rfl rfl rfl (O_add rfl rfl rfl) ?_
    obtain ⟨⟨g2, g3⟩, H⟩ := of_gd H
    refine F_val rfl rfl rfl (O_toE l_given_0 rfl rfl rfl Try.underlying22 size3 g2 g3 hc_given_0) ?_
    refine F_val rfl rfl rfl (O_assign rfl rfl) ?_
    refine F_nil ?_
    refine L_seq ?_
    refine L_seq ?_
    refine L_region ?_
    refine F_val rfl rfl rfl (O_assign rfl rfl) ?_
    refine F_nil ?_
    obtain ⟨yj4, Hyj4, H⟩ := of_bind H
    refine L_join (fun a w => yj4 = Sum.inr () ∧ Is Try.f19.ntmps a [] ∧ Hp S0 w0 w [.rd A_given_0 (rowC (Eint .i64) l_given_0), .rd A_a_1 (rowC (Eint .i64) l_a_1)]) (fun Qj4 hNj4 hOj4 => ?_) (fun a w hR => ?_)
    · have HOj4 := H
      have H := Hyj4
      refine L_blk (fun Qb143 hNb143 hXb143 hOb143 => ?_)
      refine L_lp (fun k a w => ∃ (i_234 : Int), Is Try.f19.ntmps a [(1, .slice A_a_1 l_a_1.length c_a_1), (5, .slice A_given_0 (l_given_0.take (IntKind.i64.wrap ((l_a_1.length : Int) + 8) : Int).toNat).length c_given_0), (6, .int .i64 i_234)] ∧ Hp S0 w0 w [.rd A_given_0 (rowC (Eint .i64) l_given_0), .rd A_a_1 (rowC (Eint .i64) l_a_1)] ∧ valiselaw6_still.l1 k i_234 l_given_0 l_a_1 = some yj4) FU (fun a ha => ⟨_, Is.cons ha (Is.cons ha (Is.cons ha (Is.nil ha) rfl) rfl) rfl, HS0.sel [0, 1] rfl, H⟩) (fun kp233 a w235 hI Qp233 hNp233 hOp233 => ?_)
      obtain ⟨i_234, ha, HS236, HAp233⟩ := hI
      cases kp233 with
      | zero => cases (show (none : Option _) = some _ from HAp233)
      | succ kp233 =>
        have H := (valiselaw6_still.l1.eq_2 ..).symm.trans HAp233
        refine wpLF_app ?_ ha
        refine L_seq ?_
        refine L_seq ?_
        refine L_region ?_
        refine F_val rfl rfl rfl (O_move rfl rfl) ?_
        refine F_val rfl rfl rfl (O_move rfl rfl) ?_
        refine F_val rfl rfl rfl (O_len rfl rfl Try.underlying22) ?_
        refine F_val rfl rfl rfl (O_lt rfl rfl rfl) ?_
        refine F_nil ?_
        refine L_condP rfl (fun c237 => ?_) (fun c237 => ?_)
        · have H := of_pos H c237
          refine L_skip ?_
          refine L_seq ?_
          refine L_blk (fun Q238 hN238 hX238 hO238 => ?_)
          refine L_seq ?_
          refine L_quiet mix (by kernel_rfl) ?_
          refine Q_val rfl rfl rfl (fun wq hq => O_move rfl rfl) ?_
          refine Q_val rfl rfl rfl (fun wq hq => O_move rfl rfl) ?_
          refine Q_val rfl rfl rfl (fun wq hq => O_len rfl rfl Try.underlying22) ?_
          refine Q_val rfl rfl rfl (fun wq hq => O_lt rfl rfl rfl) ?_
          refine Q_val rfl rfl rfl (fun wq hq => O_move rfl rfl) ?_
          obtain ⟨b243, Hb243, H⟩ := of_bind H
          refine Q_grp 10 [(37, .bool b243), (1, .slice A_a_1 l_a_1.length c_a_1), (5, .slice A_given_0 (l_given_0.take (IntKind.i64.wrap ((l_a_1.length : Int) + 8) : Int).toNat).length c_given_0), (6, .int .i64 i_234)] ?_ ?_
          · rcases Decidable.em (i_234 < (l_a_1.length : Int)) with c247 | c247
            · refine Q_know (i := 27) rfl (dec_t c247) ?_
              have H := of_pos Hb243 c247
              refine Q_gval rfl rfl rfl rfl rfl rfl (fun wq hq => O_move rfl rfl) ?_
              refine Q_gval rfl rfl rfl rfl rfl rfl (fun wq hq => O_move rfl rfl) ?_
              obtain ⟨⟨g248, g249⟩, H⟩ := of_gd H
              refine Q_gval rfl rfl rfl rfl rfl rfl (fun wq hq => O_idx rfl rfl rfl Try.underlying22 size3 g248 g249 (Cells.isA (Cells.sub ((HS236.keep hq).cells_rd (i := 0) rfl) (Cells.take ((HS236.keep hq).cells_rd (i := 0) rfl) (IntKind.i64.wrap ((l_a_1.length : Int) + 8) : Int).toNat)) (rowC_ne (E := (Eint .i64)) g248 g249 (by decide)))) ?_
              refine Q_gval rfl rfl rfl rfl rfl rfl (fun wq hq => O_loadC rfl rfl flat3 (Cells.sub ((HS236.keep hq).cells_rd (i := 0) rfl) (Cells.take ((HS236.keep hq).cells_rd (i := 0) rfl) (IntKind.i64.wrap ((l_a_1.length : Int) + 8) : Int).toNat)) (int_cell g248 g249)) ?_
              refine Q_gval rfl rfl rfl rfl rfl rfl (fun wq hq => O_move rfl rfl) ?_
              refine Q_gval rfl rfl rfl rfl rfl rfl (fun wq hq => O_move rfl rfl) ?_
              obtain ⟨⟨g250, g251⟩, H⟩ := of_gd H
              refine Q_gval rfl rfl rfl rfl rfl rfl (fun wq hq => O_idx rfl rfl rfl Try.underlying22 size3 g250 g251 (Cells.isA ((HS236.keep hq).cells_rd (i := 1) rfl) (rowC_ne (E := (Eint .i64)) g250 g251 (by decide)))) ?_
              refine Q_gval rfl rfl rfl rfl rfl rfl (fun wq hq => O_loadC rfl rfl flat3 ((HS236.keep hq).cells_rd (i := 1) rfl) (int_cell g250 g251)) ?_
              refine Q_gval rfl rfl rfl rfl rfl rfl (fun wq hq => O_ne rfl rfl rfl) ?_
              refine Q_val rfl rfl rfl (fun wq hq => O_pickT rfl rfl rfl) ?_
              refine Q_know (i := 37) rfl (congrArg Value.bool (Option.some.inj H)) ?_
              exact Q_grpE (fun a ha => Is.cons ha (Is.cons ha (Is.cons ha (Is.cons ha (Is.nil ha) rfl) rfl) rfl) rfl)
            · refine Q_know (i := 27) rfl (dec_f c247) ?_
              have H := of_neg Hb243 c247
              refine Q_gskip rfl rfl rfl rfl rfl rfl rfl ?_
              refine Q_gskip rfl rfl rfl rfl rfl rfl rfl ?_
              refine Q_gskip rfl rfl rfl rfl rfl rfl rfl ?_
              refine Q_gskip rfl rfl rfl rfl rfl rfl rfl ?_
              refine Q_gskip rfl rfl rfl rfl rfl rfl rfl ?_
              refine Q_gskip rfl rfl rfl rfl rfl rfl rfl ?_
              refine Q_gskip rfl rfl rfl rfl rfl rfl rfl ?_
              refine Q_gskip rfl rfl rfl rfl rfl rfl rfl ?_
              refine Q_gskip rfl rfl rfl rfl rfl rfl rfl ?_
              refine Q_val rfl rfl rfl (fun wq hq => O_pickF rfl rfl rfl) ?_
              refine Q_know (i := 37) rfl (congrArg Value.bool (Option.some.inj H)) ?_
              exact Q_grpE (fun a ha => Is.cons ha (Is.cons ha (Is.cons ha (Is.cons ha (Is.nil ha) rfl) rfl) rfl) rfl)
          · skip
            refine Q_val rfl rfl rfl (fun wq hq => O_move rfl rfl) ?_
            obtain ⟨b261, Hb261, H⟩ := of_bind H
            refine Q_grp 12 [(50, .bool b261), (1, .slice A_a_1 l_a_1.length c_a_1), (5, .slice A_given_0 (l_given_0.take (IntKind.i64.wrap ((l_a_1.length : Int) + 8) : Int).toNat).length c_given_0), (6, .int .i64 i_234)] ?_ ?_
            · rcases Decidable.em (b243 = true) with c265 | c265
              · refine Q_know (i := 38) rfl (congrArg Value.bool c265) ?_
                have H := of_pos Hb261 c265
                refine Q_gskip rfl rfl rfl rfl rfl rfl rfl ?_
                refine Q_gskip rfl rfl rfl rfl rfl rfl rfl ?_
                refine Q_gskip rfl rfl rfl rfl rfl rfl rfl ?_
                refine Q_gskip rfl rfl rfl rfl rfl rfl rfl ?_
                refine Q_gskip rfl rfl rfl rfl rfl rfl rfl ?_
                refine Q_gskip rfl rfl rfl rfl rfl rfl rfl ?_
                refine Q_gskip rfl rfl rfl rfl rfl rfl rfl ?_
                refine Q_gskip rfl rfl rfl rfl rfl rfl rfl ?_
                refine Q_gskip rfl rfl rfl rfl rfl rfl rfl ?_
                refine Q_gskip rfl rfl rfl rfl rfl rfl rfl ?_
                refine Q_gskip rfl rfl rfl rfl rfl rfl rfl ?_
                refine Q_val rfl rfl rfl (fun wq hq => O_pickT rfl rfl rfl) ?_
                refine Q_know (i := 50) rfl (congrArg Value.bool (Option.some.inj H)) ?_
                exact Q_grpE (fun a ha => Is.cons ha (Is.cons ha (Is.cons ha (Is.cons ha (Is.nil ha) rfl) rfl) rfl) rfl)
              · refine Q_know (i := 38) rfl (congrArg Value.bool (Bool.eq_false_iff.mpr c265)) ?_
                have H := of_neg Hb261 c265
                refine Q_gval rfl rfl rfl rfl rfl rfl (fun wq hq => O_move rfl rfl) ?_
                refine Q_gval rfl rfl rfl rfl rfl rfl (fun wq hq => O_move rfl rfl) ?_
                refine Q_gval rfl rfl rfl rfl rfl rfl (fun wq hq => O_len rfl rfl Try.underlying22) ?_
                refine Q_gval rfl rfl rfl rfl rfl rfl (fun wq hq => O_ge rfl rfl rfl) ?_
                refine Q_gval rfl rfl rfl rfl rfl rfl (fun wq hq => O_move rfl rfl) ?_
                obtain ⟨b268, Hb268, H⟩ := of_bind H
                refine Q_grp 6 [(49, .bool b268), (1, .slice A_a_1 l_a_1.length c_a_1), (5, .slice A_given_0 (l_given_0.take (IntKind.i64.wrap ((l_a_1.length : Int) + 8) : Int).toNat).length c_given_0), (6, .int .i64 i_234), (38, .bool false), (39, .int .i64 i_234), (40, .slice A_a_1 l_a_1.length c_a_1), (41, .int .i64 (l_a_1.length : Int)), (42, .bool (decide ((l_a_1.length : Int) ≤ i_234))), (43, .bool (decide ((l_a_1.length : Int) ≤ i_234)))] ?_ ?_
                · rcases Decidable.em ((l_a_1.length : Int) ≤ i_234) with c272 | c272
                  · refine Q_know (i := 43) rfl (dec_t c272) ?_
                    have H := of_pos Hb268 c272
                    refine Q_gval rfl rfl rfl rfl rfl rfl (fun wq hq => O_move rfl rfl) ?_
                    refine Q_gval rfl rfl rfl rfl rfl rfl (fun wq hq => O_move rfl rfl) ?_
                    obtain ⟨⟨g273, g274⟩, H⟩ := of_gd H
                    refine Q_gval rfl rfl rfl rfl rfl rfl (fun wq hq => O_idx rfl rfl rfl Try.underlying22 size3 g273 g274 (Cells.isA (Cells.sub ((HS236.keep hq).cells_rd (i := 0) rfl) (Cells.take ((HS236.keep hq).cells_rd (i := 0) rfl) (IntKind.i64.wrap ((l_a_1.length : Int) + 8) : Int).toNat)) (rowC_ne (E := (Eint .i64)) g273 g274 (by decide)))) ?_
                    refine Q_gval rfl rfl rfl rfl rfl rfl (fun wq hq => O_loadC rfl rfl flat3 (Cells.sub ((HS236.keep hq).cells_rd (i := 0) rfl) (Cells.take ((HS236.keep hq).cells_rd (i := 0) rfl) (IntKind.i64.wrap ((l_a_1.length : Int) + 8) : Int).toNat)) (int_cell g273 g274)) ?_
                    refine Q_gval rfl rfl rfl rfl rfl rfl (fun wq hq => O_ne rfl rfl rfl) ?_
                    refine Q_gval rfl rfl rfl rfl rfl rfl (fun wq hq => O_pickT rfl rfl rfl) ?_
                    refine Q_know (i := 49) rfl (congrArg Value.bool (Option.some.inj H)) ?_
                    exact Q_grpE (fun a ha => Is.cons ha (Is.cons ha (Is.cons ha (Is.cons ha (Is.cons ha (Is.cons ha (Is.cons ha (Is.cons ha (Is.cons ha (Is.cons (i := 43) (v := .bool (decide ((l_a_1.length : Int) ≤ i_234))) ha (Is.nil ha) (congrArg some (dec_t c272).symm)) rfl) rfl) rfl) rfl) rfl) rfl) rfl) rfl) rfl)
                  · refine Q_know (i := 43) rfl (dec_f c272) ?_
                    have H := of_neg Hb268 c272
                    refine Q_gskip rfl rfl rfl rfl rfl rfl rfl ?_
                    refine Q_gskip rfl rfl rfl rfl rfl rfl rfl ?_
                    refine Q_gskip rfl rfl rfl rfl rfl rfl rfl ?_
                    refine Q_gskip rfl rfl rfl rfl rfl rfl rfl ?_
                    refine Q_gskip rfl rfl rfl rfl rfl rfl rfl ?_
                    refine Q_gval rfl rfl rfl rfl rfl rfl (fun wq hq => O_pickF rfl rfl rfl) ?_
                    refine Q_know (i := 49) rfl (congrArg Value.bool (Option.some.inj H)) ?_
                    exact Q_grpE (fun a ha => Is.cons ha (Is.cons ha (Is.cons ha (Is.cons ha (Is.cons ha (Is.cons ha (Is.cons ha (Is.cons ha (Is.cons ha (Is.cons (i := 43) (v := .bool (decide ((l_a_1.length : Int) ≤ i_234))) ha (Is.nil ha) (congrArg some (dec_f c272).symm)) rfl) rfl) rfl) rfl) rfl) rfl) rfl) rfl) rfl)
                · skip
                  refine Q_val rfl rfl rfl (fun wq hq => O_pickF rfl rfl rfl) ?_
                  refine Q_know (i := 50) rfl (congrArg Value.bool (Option.some.inj H)) ?_
                  exact Q_grpE (fun a ha => Is.cons ha (Is.cons ha (Is.cons ha (Is.cons ha (Is.nil ha) rfl) rfl) rfl) rfl)
            · skip
              refine Q_nil (fun w275 hw276 => ?_)
              have HS277 := HS236.keep hw276
              refine L_cond rfl (fun c278 => ?_) (fun c278 => ?_)
              · have H := of_pos H c278
                refine L_seq ?_
                refine L_region ?_
                refine F_val rfl rfl rfl (O_assign rfl rfl) ?_
                refine F_nil ?_
                refine L_ret (fun a ha => (hO238 .ret a _ rfl (hOp233 .ret a _ rfl (hOb143 .ret a _ rfl (hOj4 .ret a _ rfl (post_ret1 ha rfl rfl ?_))))))
                obtain rfl := Option.some.inj H
                obtain rfl := Option.some.inj (show (some false : Option (Bool)) = some _ from HOj4)
                exact ⟨rfl, HS277.sel [] rfl⟩
              · have H := of_neg H (by rw [c278]; exact Bool.false_ne_true)
                refine L_skip ?_
                refine L_endB hN238 ?_
                refine L_region ?_
                refine F_val rfl rfl rfl (O_move rfl rfl) ?_
                refine F_val rfl rfl rfl (O_add rfl rfl rfl) ?_
                obtain ⟨x279, h280, H⟩ := of_bnd H
                refine F_val rfl rfl rfl (O_assign' rfl rfl (congrArg (Value.int .i64) h280)) ?_
                refine F_nil ?_
                refine L_nil (fun a ha => hNp233 _ a _ (Nat.lt_succ_self _) ⟨_, Is.cons ha (Is.cons ha (Is.cons ha (Is.nil ha) rfl) rfl) rfl, HS277.sel [0, 1] rfl, H⟩)
        · have H := of_neg H c237
          refine L_exitB (fun a w h => hOp233 (.exit 0) a w rfl (hXb143 a w h)) ?_
          refine L_nil (fun a ha => hNj4 a _ ⟨(Option.some.inj H).symm, Is.nil ha, HS236.sel [0, 1] rfl⟩)
    · obtain ⟨rfl, ha, HS282⟩ := hR
      refine wpLF_app ?_ ha
      have H := (onR_inr _ _ _).symm.trans H
      refine L_seq ?_
      refine L_region ?_
      refine F_val rfl rfl rfl (O_assign rfl rfl) ?_
      refine F_nil ?_
      refine L_ret (fun a ha => (post_ret1 ha rfl rfl ?_))
      obtain rfl := Option.some.inj H
      exact ⟨rfl, HS282.sel [] rfl⟩

/-! function 4: valise/valiselaw6.BuildDepths -/
theorem valiselaw6_BuildDepths.calls {S0 : Nat → Prop} {w0 : World} {A_freq_0 : Option Addr} {c_freq_0 : Nat} {l_freq_0 : List Int} {r : Bool} (HS0 : Hp S0 w0 w0 [.rd A_freq_0 (rowC (Eint .i64) l_freq_0)]) (hc_freq_0 : l_freq_0.length ≤ c_freq_0) (h : valiselaw6_BuildDepths.f l_freq_0 = some r) :
    Calls Try.prog 4 ([.slice A_freq_0 l_freq_0.length c_freq_0] : List Value).toArray w0 (fun e w => e = .returned (.bool r) ∧ Hp S0 w0 w []) := by
  have H : (((valiselaw6_lent.f l_freq_0).bind fun (z5, z6) => (build_Depths.f (z5.take z6)).bind fun (z16, z17) => (valiseref6_Depths.f l_freq_0).bind fun (z27, z28) => (if z17 = z28 then ((valiselaw6_same.f z16 z27).bind fun z53 => some z53) else (some false)).bind fun b46 => (if b46 = true then ((valiselaw6_still.f z5 z6 l_freq_0).bind fun z70 => some z70) else (some false)).bind fun b63 => some b63) : Option (Bool)) = some r := h
  refine calls_start Try.func4 rfl rfl ?_
  refine L_seq ?_
  refine L_region ?_
  refine F_val rfl rfl rfl (O_assign rfl rfl) ?_
  refine F_nil ?_
  refine L_seq ?_
  refine L_region ?_
  refine F_val rfl rfl rfl (O_move rfl rfl) ?_
  obtain ⟨⟨z5, z6⟩, h4, H⟩ := of_bind H
  refine F_call (xs := [.tmp 8]) rfl rfl rfl rfl Try.func15 nm15 rfl rfl ((valiselaw6_lent.calls (HS0.give [] rfl (Lent.rd HS0 (Lent.nil) (i := 0) rfl ((HS0.cells_rd (i := 0) rfl).self))) hc_freq_0 h4).mono (fun e w hc => ?_))
  obtain ⟨A9, c10, rfl, HSo⟩ := hc
  refine ⟨.slice A9 (z5.take z6).length c10, rfl, ?_⟩
  have HS8 : Hp S0 w0 w [.rd A_freq_0 (rowC (Eint .i64) l_freq_0), .own A9 c10 (rowC (Eint .i64) z5) 3 (Eint .i64).sz] := (HS0.back [] HSo rfl).sel [0, 1] rfl
  refine F_val rfl rfl rfl (O_assign rfl rfl) ?_
  refine F_nil ?_
  refine L_seq ?_
  refine L_region ?_
  refine F_val rfl rfl rfl (O_move rfl rfl) ?_
  obtain ⟨⟨z16, z17⟩, h15, H⟩ := of_bind H
  refine F_call (xs := [.tmp 11]) rfl rfl rfl rfl Try.func20 nm20 rfl rfl ((build_Depths.calls (HS8.give [] rfl (Lent.own HS8 (Lent.nil) (i := 1) rfl rfl (Cells.take (HS8.cells_own (i := 1) rfl) z6))) (Nat.le_trans (List.length_take_le' _ _) (HS8.own_capE (i := 1) rfl (by decide))) h15).mono (fun e w hc => ?_))
  obtain ⟨A20, c21, rfl, HSo⟩ := hc
  refine ⟨.tuple #[.slice A20 z16.length c21, .int .i64 z17], rfl, ?_⟩
  have HS19 : Hp S0 w0 w [.rd A_freq_0 (rowC (Eint .i64) l_freq_0), .own A9 c10 (rowC (Eint .i64) z5) 3 (Eint .i64).sz, .own A20 c21 (rowC (Eint .i64) z16) 3 (Eint .i64).sz] := (HS8.back [] HSo rfl).sel [0, 1, 2] rfl
  refine F_val rfl rfl rfl (O_move rfl rfl) ?_
  refine F_val rfl rfl rfl (O_extract (v := .slice A20 z16.length c21) rfl rfl rfl) ?_
  refine F_val rfl rfl rfl (O_extract (v := .int .i64 z17) rfl rfl rfl) ?_
  refine F_val rfl rfl rfl (O_assign rfl rfl) ?_
  refine F_val rfl rfl rfl (O_assign rfl rfl) ?_
  refine F_nil ?_
  refine L_seq ?_
  refine L_region ?_
  refine F_val rfl rfl rfl (O_move rfl rfl) ?_
  obtain ⟨⟨z27, z28⟩, h26, H⟩ := of_bind H
  refine F_call (xs := [.tmp 16]) rfl rfl rfl rfl Try.func21 nm21 rfl rfl ((valiseref6_Depths.calls (HS19.give [] rfl (Lent.rd HS19 (Lent.nil) (i := 0) rfl ((HS19.cells_rd (i := 0) rfl).self))) hc_freq_0 h26).mono (fun e w hc => ?_))
  obtain ⟨A31, c32, rfl, HSo⟩ := hc
  refine ⟨.tuple #[.slice A31 z27.length c32, .int .i64 z28], rfl, ?_⟩
  have HS30 : Hp S0 w0 w [.rd A_freq_0 (rowC (Eint .i64) l_freq_0), .own A9 c10 (rowC (Eint .i64) z5) 3 (Eint .i64).sz, .own A20 c21 (rowC (Eint .i64) z16) 3 (Eint .i64).sz, .own A31 c32 (rowC (Eint .i64) z27) 3 (Eint .i64).sz] := (HS19.back [] HSo rfl).sel [0, 1, 2, 3] rfl
  refine F_val rfl rfl rfl (O_move rfl rfl) ?_
  refine F_val rfl rfl rfl (O_extract (v := .slice A31 z27.length c32) rfl rfl rfl) ?_
  refine F_val rfl rfl rfl (O_extract (v := .int .i64 z28) rfl rfl rfl) ?_
  refine F_val rfl rfl rfl (O_assign rfl rfl) ?_
  refine F_val rfl rfl rfl (O_assign rfl rfl) ?_
  refine F_nil ?_
  refine L_seq ?_
  refine L_region ?_
  refine F_val rfl rfl rfl (O_move rfl rfl) ?_
  refine F_qcall (v := .int .i64 z17) (xs := [.tmp 20]) rfl rfl rfl rfl Try.func18 nm18 rfl rfl ((valiselaw6_num.calls (HS30.give [] rfl (Lent.nil)) (rfl : valiselaw6_num.f z17 = some z17)).mono (fun e w hc => ?_)) (fun w37 hw38 => ?_)
  · obtain ⟨rfl, h⟩ := hc
    exact ⟨rfl, h.chg0⟩
  have HS39 := HS30.keep hw38
  refine F_val rfl rfl rfl (O_move rfl rfl) ?_
  refine F_val rfl rfl rfl (O_eq rfl rfl rfl) ?_
  refine F_val rfl rfl rfl (O_move rfl rfl) ?_
  obtain ⟨b46, Hb46, H⟩ := of_bind H
  refine F_grpQ 4 [(28, .bool b46), (0, .slice A_freq_0 l_freq_0.length c_freq_0), (3, .slice A9 (z5.take z6).length c10)] ?_ (fun w47 hw48 => ?_)
  · rcases Decidable.em (z17 = z28) with c50 | c50
    · refine F_know (i := 24) rfl (dec_t c50) ?_
      have H := of_pos Hb46 c50
      refine F_gval rfl rfl rfl rfl rfl rfl (O_move rfl rfl) ?_
      refine F_gval rfl rfl rfl rfl rfl rfl (O_move rfl rfl) ?_
      obtain ⟨z53, h52, H⟩ := of_bind H
      refine F_gqcall (v := .bool z53) (xs := [.tmp 25, .tmp 26]) rfl rfl rfl rfl rfl rfl rfl Try.func22 nm22 rfl rfl ((valiselaw6_same.calls (HS39.give [] rfl (Lent.own HS39 (Lent.own HS39 (Lent.nil) (i := 3) rfl rfl ((HS39.cells_own (i := 3) rfl).self)) (i := 2) rfl rfl ((HS39.cells_own (i := 2) rfl).self))) (HS39.own_capE (i := 2) rfl (by decide)) (HS39.own_capE (i := 3) rfl (by decide)) h52).mono (fun e w hc => ?_)) (fun w54 hw55 => ?_)
      · obtain ⟨rfl, h⟩ := hc
        exact ⟨rfl, h.chg0⟩
      have HS56 := HS39.keep hw55
      refine F_val rfl rfl rfl (O_pickT rfl rfl rfl) ?_
      refine F_know (i := 28) rfl (congrArg Value.bool (Option.some.inj H)) ?_
      exact F_grpQE ((Chg.refl NoB _).trans hw55) (fun a ha => Is.cons ha (Is.cons ha (Is.cons ha (Is.nil ha) rfl) rfl) rfl)
    · refine F_know (i := 24) rfl (dec_f c50) ?_
      have H := of_neg Hb46 c50
      refine F_gskip rfl rfl rfl rfl rfl rfl rfl ?_
      refine F_gskip rfl rfl rfl rfl rfl rfl rfl ?_
      refine F_gskip rfl rfl rfl rfl rfl rfl rfl ?_
      refine F_val rfl rfl rfl (O_pickF rfl rfl rfl) ?_
      refine F_know (i := 28) rfl (congrArg Value.bool (Option.some.inj H)) ?_
      exact F_grpQE (Chg.refl NoB _) (fun a ha => Is.cons ha (Is.cons ha (Is.cons ha (Is.nil ha) rfl) rfl) rfl)
  · have HS49 := HS39.keep hw48
    refine F_val rfl rfl rfl (O_move rfl rfl) ?_
    obtain ⟨b63, Hb63, H⟩ := of_bind H
    refine F_grpQ 4 [(33, .bool b63)] ?_ (fun w64 hw65 => ?_)
    · rcases Decidable.em (b46 = true) with c67 | c67
      · refine F_know (i := 29) rfl (congrArg Value.bool c67) ?_
        have H := of_pos Hb63 c67
        refine F_gval rfl rfl rfl rfl rfl rfl (O_move rfl rfl) ?_
        refine F_gval rfl rfl rfl rfl rfl rfl (O_move rfl rfl) ?_
        obtain ⟨z70, h69, H⟩ := of_bind H
        refine F_gqcall (v := .bool z70) (xs := [.tmp 30, .tmp 31]) rfl rfl rfl rfl rfl rfl rfl Try.func19 nm19 rfl rfl ((valiselaw6_still.calls (HS49.give [] rfl (Lent.own HS49 (Lent.rd HS49 (Lent.nil) (i := 0) rfl ((HS49.cells_rd (i := 0) rfl).self)) (i := 1) rfl rfl ((HS49.cells_own (i := 1) rfl).self))) (HS49.own_capE (i := 1) rfl (by decide)) hc_freq_0 h69).mono (fun e w hc => ?_)) (fun w71 hw72 => ?_)
        · obtain ⟨rfl, h⟩ := hc
          exact ⟨rfl, h.chg0⟩
        have HS73 := HS49.keep hw72
        refine F_val rfl rfl rfl (O_pickT rfl rfl rfl) ?_
        refine F_know (i := 33) rfl (congrArg Value.bool (Option.some.inj H)) ?_
        exact F_grpQE ((Chg.refl NoB _).trans hw72) (fun a ha => Is.cons ha (Is.nil ha) rfl)
      · refine F_know (i := 29) rfl (congrArg Value.bool (Bool.eq_false_iff.mpr c67)) ?_
        have H := of_neg Hb63 c67
        refine F_gskip rfl rfl rfl rfl rfl rfl rfl ?_
        refine F_gskip rfl rfl rfl rfl rfl rfl rfl ?_
        refine F_gskip rfl rfl rfl rfl rfl rfl rfl ?_
        refine F_val rfl rfl rfl (O_pickF rfl rfl rfl) ?_
        refine F_know (i := 33) rfl (congrArg Value.bool (Option.some.inj H)) ?_
        exact F_grpQE (Chg.refl NoB _) (fun a ha => Is.cons ha (Is.nil ha) rfl)
    · have HS66 := HS49.keep hw65
      refine F_val rfl rfl rfl (O_assign rfl rfl) ?_
      refine F_nil ?_
      refine L_ret (fun a ha => (post_ret1 ha rfl rfl ?_))
      obtain rfl := Option.some.inj H
      exact ⟨rfl, HS66.sel [] rfl⟩

end Go.Proofs.Ytbegkkmngkpjmaa
