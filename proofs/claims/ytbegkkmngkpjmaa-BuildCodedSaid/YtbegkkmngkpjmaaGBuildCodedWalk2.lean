import Derived.Test.YtbegkkmngkpjmaaGBuildCodedWalk1
set_option linter.unusedVariables false
set_option linter.unusedSimpArgs false
set_option maxRecDepth 10000
set_option maxHeartbeats 1000000
namespace Go.Proofs.Ytbegkkmngkpjmaa
open Go Go.V Go.V.Pu
/-! function 50: valise/build.merged -/
theorem build_merged.calls {S0 : Nat → Prop} {w0 : World} {A_leaves_0 : Option Addr} {c_leaves_0 : Nat} {ds_leaves_0 : List DC} {B_leaves_0 : Nat → Prop} {A_made_1 : Option Addr} {c_made_1 : Nat} {ds_made_1 : List DC} {B_made_1 : Nat → Prop} {l_leaves_0 : List Co} {l_made_1 : List Co} {r : List Co} (HS0 : Hp S0 w0 w0 [.rd A_leaves_0 (rowC E_coin ds_leaves_0), Dz D_coin anyB 0 B_leaves_0 ds_leaves_0 l_leaves_0, .rd A_made_1 (rowC E_coin ds_made_1), Dz D_coin anyB 0 B_made_1 ds_made_1 l_made_1]) (hc_leaves_0 : l_leaves_0.length ≤ c_leaves_0) (hc_made_1 : l_made_1.length ≤ c_made_1) (h : build_merged.f l_leaves_0 l_made_1 = some r) :
    Calls Try.prog 50 ([.slice A_leaves_0 l_leaves_0.length c_leaves_0, .slice A_made_1 l_made_1.length c_made_1] : List Value).toArray w0 (fun e w => ∃ (A1 : Option Addr), ∃ (c1 : Nat), ∃ (ds1 : List DC), ∃ (B1 : Nat → Prop), e = .returned (.slice A1 r.length c1) ∧ Hp S0 w0 w [.own A1 c1 (rowC E_coin ds1) 69 E_coin.sz, Dz D_coin (orB (orB S0 B_leaves_0) B_made_1) w0.heap.size B1 ds1 r]) := by
  have H : (((build_merged.l1 FU l_leaves_0 l_made_1 ([] : List Co) ).bind fun l1301 => some l1301) : Option (List Co)) = some r := h
  refine calls_start Try.func50 rfl rfl ?_
  have hSF : ∀ b, S0 b → (orB (orB S0 B_leaves_0) B_made_1) b ∨ w0.heap.size ≤ b := (fun b hb => .inl (.inl (.inl hb)))
  have HS1 : Hp S0 w0 w0 [.rd A_leaves_0 (rowC E_coin ds_leaves_0), Dz D_coin (orB (orB S0 B_leaves_0) B_made_1) w0.heap.size B_leaves_0 ds_leaves_0 l_leaves_0, .rd A_made_1 (rowC E_coin ds_made_1), Dz D_coin anyB 0 B_made_1 ds_made_1 l_made_1] := HS0.dzProv (i := 1) rfl (fun b _ hb => .inl (.inl (.inr hb)))
  have HS2 : Hp S0 w0 w0 [.rd A_leaves_0 (rowC E_coin ds_leaves_0), Dz D_coin (orB (orB S0 B_leaves_0) B_made_1) w0.heap.size B_leaves_0 ds_leaves_0 l_leaves_0, .rd A_made_1 (rowC E_coin ds_made_1), Dz D_coin (orB (orB S0 B_leaves_0) B_made_1) w0.heap.size B_made_1 ds_made_1 l_made_1] := HS1.dzProv (i := 3) rfl (fun b _ hb => .inl (.inr hb))
  refine L_seq ?_
  refine L_region ?_
  refine F_val rfl rfl rfl (O_assign rfl rfl) ?_
  refine F_nil ?_
  refine L_seq ?_
  refine L_region ?_
  refine F_val rfl rfl rfl (O_assign rfl rfl) ?_
  have HS3 := (HS2.addNil 69 E_coin.sz).dzNil D_coin (orB (orB S0 B_leaves_0) B_made_1) w0.heap.size
  have HS3 : Hp S0 w0 w0 [.rd A_leaves_0 (rowC E_coin ds_leaves_0), Dz D_coin (orB (orB S0 B_leaves_0) B_made_1) w0.heap.size B_leaves_0 ds_leaves_0 l_leaves_0, .rd A_made_1 (rowC E_coin ds_made_1), Dz D_coin (orB (orB S0 B_leaves_0) B_made_1) w0.heap.size B_made_1 ds_made_1 l_made_1, .own none 0 (rowC E_coin ([] : List DC)) 69 E_coin.sz, Dz D_coin (orB (orB S0 B_leaves_0) B_made_1) w0.heap.size NoB ([] : List DC) ([] : List Co)] := HS3
  refine F_nil ?_
  refine L_seq ?_
  obtain ⟨yj6, Hyj6, H⟩ := of_bind H
  refine L_join (fun a w => ∃ (l1301 : List Co), ∃ (A1297 : Option Addr), ∃ (c1298 : Nat), ∃ (ds1299 : List DC), ∃ (B1300 : Nat → Prop), yj6 = l1301 ∧ Is Try.f50.ntmps a [(5, .slice A1297 l1301.length c1298)] ∧ Hp S0 w0 w [.rd A_leaves_0 (rowC E_coin ds_leaves_0), Dz D_coin (orB (orB S0 B_leaves_0) B_made_1) w0.heap.size B_leaves_0 ds_leaves_0 l_leaves_0, .rd A_made_1 (rowC E_coin ds_made_1), Dz D_coin (orB (orB S0 B_leaves_0) B_made_1) w0.heap.size B_made_1 ds_made_1 l_made_1, .own A1297 c1298 (rowC E_coin ds1299) 69 E_coin.sz, Dz D_coin (orB (orB S0 B_leaves_0) B_made_1) w0.heap.size B1300 ds1299 l1301]) (fun Qj6 hNj6 hOj6 => ?_) (fun a w hR => ?_)
  · skip
    have H := Hyj6
    refine L_blk (fun Qb1302 hNb1302 hXb1302 hOb1302 => ?_)
    have HS1616 : Hp S0 w0 w0 [.rd A_leaves_0 (rowC E_coin ds_leaves_0), Dz D_coin (orB (orB S0 B_leaves_0) B_made_1) w0.heap.size B_leaves_0 ds_leaves_0 l_leaves_0, .rd A_made_1 (rowC E_coin ds_made_1), Dz D_coin (orB (orB S0 B_leaves_0) B_made_1) w0.heap.size B_made_1 ds_made_1 l_made_1, .own none 0 (rowC E_coin ([] : List DC)) 69 E_coin.sz, Dz D_coin (orB (orB S0 B_leaves_0) B_made_1) w0.heap.size NoB ([] : List DC) ([] : List Co), Rdc l_leaves_0.length c_leaves_0 A_leaves_0 (rowC E_coin ds_leaves_0)] := HS3.addRdc (i := 0) rfl ((HS3.cells_rd (i := 0) rfl).self) hc_leaves_0
    have HS1618 : Hp S0 w0 w0 [.rd A_leaves_0 (rowC E_coin ds_leaves_0), Dz D_coin (orB (orB S0 B_leaves_0) B_made_1) w0.heap.size B_leaves_0 ds_leaves_0 l_leaves_0, .rd A_made_1 (rowC E_coin ds_made_1), Dz D_coin (orB (orB S0 B_leaves_0) B_made_1) w0.heap.size B_made_1 ds_made_1 l_made_1, .own none 0 (rowC E_coin ([] : List DC)) 69 E_coin.sz, Dz D_coin (orB (orB S0 B_leaves_0) B_made_1) w0.heap.size NoB ([] : List DC) ([] : List Co), Rdc l_leaves_0.length c_leaves_0 A_leaves_0 (rowC E_coin ds_leaves_0), Dz D_coin (orB (orB S0 B_leaves_0) B_made_1) w0.heap.size B_leaves_0 ds_leaves_0 l_leaves_0] := HS1616.dzSub (i := 1) rfl dz_self (HS3.dze (i := 1) rfl)
    have HS1620 : Hp S0 w0 w0 [.rd A_leaves_0 (rowC E_coin ds_leaves_0), Dz D_coin (orB (orB S0 B_leaves_0) B_made_1) w0.heap.size B_leaves_0 ds_leaves_0 l_leaves_0, .rd A_made_1 (rowC E_coin ds_made_1), Dz D_coin (orB (orB S0 B_leaves_0) B_made_1) w0.heap.size B_made_1 ds_made_1 l_made_1, .own none 0 (rowC E_coin ([] : List DC)) 69 E_coin.sz, Dz D_coin (orB (orB S0 B_leaves_0) B_made_1) w0.heap.size NoB ([] : List DC) ([] : List Co), Rdc l_leaves_0.length c_leaves_0 A_leaves_0 (rowC E_coin ds_leaves_0), Dz D_coin (orB (orB S0 B_leaves_0) B_made_1) w0.heap.size B_leaves_0 ds_leaves_0 l_leaves_0, Rdc l_made_1.length c_made_1 A_made_1 (rowC E_coin ds_made_1)] := HS1618.addRdc (i := 2) rfl ((HS1618.cells_rd (i := 2) rfl).self) hc_made_1
    have HS1622 : Hp S0 w0 w0 [.rd A_leaves_0 (rowC E_coin ds_leaves_0), Dz D_coin (orB (orB S0 B_leaves_0) B_made_1) w0.heap.size B_leaves_0 ds_leaves_0 l_leaves_0, .rd A_made_1 (rowC E_coin ds_made_1), Dz D_coin (orB (orB S0 B_leaves_0) B_made_1) w0.heap.size B_made_1 ds_made_1 l_made_1, .own none 0 (rowC E_coin ([] : List DC)) 69 E_coin.sz, Dz D_coin (orB (orB S0 B_leaves_0) B_made_1) w0.heap.size NoB ([] : List DC) ([] : List Co), Rdc l_leaves_0.length c_leaves_0 A_leaves_0 (rowC E_coin ds_leaves_0), Dz D_coin (orB (orB S0 B_leaves_0) B_made_1) w0.heap.size B_leaves_0 ds_leaves_0 l_leaves_0, Rdc l_made_1.length c_made_1 A_made_1 (rowC E_coin ds_made_1), Dz D_coin (orB (orB S0 B_leaves_0) B_made_1) w0.heap.size B_made_1 ds_made_1 l_made_1] := HS1620.dzSub (i := 3) rfl dz_self (HS1618.dze (i := 3) rfl)
    refine L_lp (fun k a w => ∃ (l2267 : List Co), ∃ (l2272 : List Co), ∃ (l2277 : List Co), ∃ (A2263 : Option Addr), ∃ (c2264 : Nat), ∃ (ds2265 : List DC), ∃ (B2266 : Nat → Prop), ∃ (A2268 : Option Addr), ∃ (c2269 : Nat), ∃ (ds2270 : List DC), ∃ (B2271 : Nat → Prop), ∃ (A2273 : Option Addr), ∃ (c2274 : Nat), ∃ (ds2275 : List DC), ∃ (B2276 : Nat → Prop), Is Try.f50.ntmps a [(0, .slice A2263 l2267.length c2264), (1, .slice A2268 l2272.length c2269), (5, .slice A2273 l2277.length c2274)] ∧ Hp S0 w0 w [.rd A_leaves_0 (rowC E_coin ds_leaves_0), Dz D_coin (orB (orB S0 B_leaves_0) B_made_1) w0.heap.size B_leaves_0 ds_leaves_0 l_leaves_0, .rd A_made_1 (rowC E_coin ds_made_1), Dz D_coin (orB (orB S0 B_leaves_0) B_made_1) w0.heap.size B_made_1 ds_made_1 l_made_1, Rdc l2267.length c2264 A2263 (rowC E_coin ds2265), Dz D_coin (orB (orB S0 B_leaves_0) B_made_1) w0.heap.size B2266 ds2265 l2267, Rdc l2272.length c2269 A2268 (rowC E_coin ds2270), Dz D_coin (orB (orB S0 B_leaves_0) B_made_1) w0.heap.size B2271 ds2270 l2272, .own A2273 c2274 (rowC E_coin ds2275) 69 E_coin.sz, Dz D_coin (orB (orB S0 B_leaves_0) B_made_1) w0.heap.size B2276 ds2275 l2277] ∧ build_merged.l1 k l2267 l2272 l2277  = some yj6) FU (fun a ha => ⟨_, _, _, _, _, _, _, _, _, _, _, _, _, _, _, Is.cons ha (Is.cons ha (Is.cons ha (Is.nil ha) rfl) rfl) rfl, HS1622.sel [0, 1, 2, 3, 6, 7, 8, 9, 4, 5] rfl, H⟩) (fun kp2262 a w2278 hI Qp2262 hNp2262 hOp2262 => ?_)
    obtain ⟨l2267, l2272, l2277, A2263, c2264, ds2265, B2266, A2268, c2269, ds2270, B2271, A2273, c2274, ds2275, B2276, ha, HS2279, HAp2262⟩ := hI
    cases kp2262 with
    | zero => cases (show (none : Option _) = some _ from HAp2262)
    | succ kp2262 =>
      have H := (build_merged.l1.eq_2 ..).symm.trans HAp2262
      refine wpLF_app ?_ ha
      refine L_seq ?_
      refine L_seq ?_
      refine L_region ?_
      refine F_val rfl rfl rfl (O_move rfl rfl) ?_
      refine F_val rfl rfl rfl (O_len rfl rfl Try.underlying66) ?_
      refine F_val rfl rfl rfl (O_gt rfl rfl rfl) ?_
      refine F_val rfl rfl rfl (O_move rfl rfl) ?_
      refine F_grp 4 [(13, .bool (decide ((0 < (l2267.length : Int)) ∨ (0 < (l2272.length : Int))))), (0, .slice A2263 l2267.length c2264), (1, .slice A2268 l2272.length c2269), (5, .slice A2273 l2277.length c2274)] ?_ ?_
      · rcases Decidable.em (0 < (l2267.length : Int)) with c2283 | c2283
        · refine F_know (i := 9) rfl (dec_t c2283) ?_
          refine F_gskip rfl rfl rfl rfl rfl rfl rfl ?_
          refine F_gskip rfl rfl rfl rfl rfl rfl rfl ?_
          refine F_gskip rfl rfl rfl rfl rfl rfl rfl ?_
          refine F_val rfl rfl rfl (O_pickT rfl rfl rfl) ?_
          refine F_know (i := 13) rfl (dec_or_t (q := 0 < (l2272.length : Int)) c2283) ?_
          exact F_grpE (fun a ha => Is.cons ha (Is.cons ha (Is.cons ha (Is.cons ha (Is.nil ha) rfl) rfl) rfl) rfl)
        · refine F_know (i := 9) rfl (dec_f c2283) ?_
          refine F_gval rfl rfl rfl rfl rfl rfl (O_move rfl rfl) ?_
          refine F_gval rfl rfl rfl rfl rfl rfl (O_len rfl rfl Try.underlying66) ?_
          refine F_gval rfl rfl rfl rfl rfl rfl (O_gt rfl rfl rfl) ?_
          refine F_val rfl rfl rfl (O_pickF rfl rfl rfl) ?_
          refine F_know (i := 13) rfl (dec_or_f (q := 0 < (l2272.length : Int)) c2283) ?_
          exact F_grpE (fun a ha => Is.cons ha (Is.cons ha (Is.cons ha (Is.cons ha (Is.nil ha) rfl) rfl) rfl) rfl)
      · skip
        refine F_nil ?_
        refine L_condP rfl (fun c2284 => ?_) (fun c2284 => ?_)
        · have H := of_pos H c2284
          refine L_skip ?_
          refine L_blk (fun Q2285 hN2285 hX2285 hO2285 => ?_)
          refine L_seq ?_
          refine L_quiet mix (by kernel_rfl) ?_
          refine Q_val rfl rfl rfl (fun wq hq => O_move rfl rfl) ?_
          refine Q_val rfl rfl rfl (fun wq hq => O_len rfl rfl Try.underlying66) ?_
          refine Q_val rfl rfl rfl (fun wq hq => O_eq rfl rfl rfl) ?_
          refine Q_val rfl rfl rfl (fun wq hq => O_move rfl rfl) ?_
          obtain ⟨b2307, Hb2307, H⟩ := of_bind H
          refine Q_grp 15 [(32, .bool b2307), (0, .slice A2263 l2267.length c2264), (1, .slice A2268 l2272.length c2269), (5, .slice A2273 l2277.length c2274)] ?_ ?_
          · rcases Decidable.em ((l2272.length : Int) = 0) with c2311 | c2311
            · refine Q_know (i := 17) rfl (dec_t c2311) ?_
              have H := of_pos Hb2307 c2311
              refine Q_gskip rfl rfl rfl rfl rfl rfl rfl ?_
              refine Q_gskip rfl rfl rfl rfl rfl rfl rfl ?_
              refine Q_gskip rfl rfl rfl rfl rfl rfl rfl ?_
              refine Q_gskip rfl rfl rfl rfl rfl rfl rfl ?_
              refine Q_gskip rfl rfl rfl rfl rfl rfl rfl ?_
              refine Q_gskip rfl rfl rfl rfl rfl rfl rfl ?_
              refine Q_gskip rfl rfl rfl rfl rfl rfl rfl ?_
              refine Q_gskip rfl rfl rfl rfl rfl rfl rfl ?_
              refine Q_gskip rfl rfl rfl rfl rfl rfl rfl ?_
              refine Q_gskip rfl rfl rfl rfl rfl rfl rfl ?_
              refine Q_gskip rfl rfl rfl rfl rfl rfl rfl ?_
              refine Q_gskip rfl rfl rfl rfl rfl rfl rfl ?_
              refine Q_gskip rfl rfl rfl rfl rfl rfl rfl ?_
              refine Q_gskip rfl rfl rfl rfl rfl rfl rfl ?_
              refine Q_val rfl rfl rfl (fun wq hq => O_pickT rfl rfl rfl) ?_
              refine Q_know (i := 32) rfl (congrArg Value.bool (Option.some.inj H)) ?_
              exact Q_grpE (fun a ha => Is.cons ha (Is.cons ha (Is.cons ha (Is.cons ha (Is.nil ha) rfl) rfl) rfl) rfl)
            · refine Q_know (i := 17) rfl (dec_f c2311) ?_
              have H := of_neg Hb2307 c2311
              refine Q_gval rfl rfl rfl rfl rfl rfl (fun wq hq => O_move rfl rfl) ?_
              refine Q_gval rfl rfl rfl rfl rfl rfl (fun wq hq => O_len rfl rfl Try.underlying66) ?_
              refine Q_gval rfl rfl rfl rfl rfl rfl (fun wq hq => O_gt rfl rfl rfl) ?_
              refine Q_gval rfl rfl rfl rfl rfl rfl (fun wq hq => O_move rfl rfl) ?_
              obtain ⟨b2320, Hb2320, H⟩ := of_bind H
              refine Q_grp 10 [(31, .bool b2320), (0, .slice A2263 l2267.length c2264), (1, .slice A2268 l2272.length c2269), (5, .slice A2273 l2277.length c2274), (17, .bool false), (18, .slice A2263 l2267.length c2264), (19, .int .i64 (l2267.length : Int)), (20, .bool (decide (0 < (l2267.length : Int)))), (21, .bool (decide (0 < (l2267.length : Int))))] ?_ ?_
              · rcases Decidable.em (0 < (l2267.length : Int)) with c2324 | c2324
                · refine Q_know (i := 21) rfl (dec_t c2324) ?_
                  have H := of_pos Hb2320 c2324
                  refine Q_gval rfl rfl rfl rfl rfl rfl (fun wq hq => O_move rfl rfl) ?_
                  obtain ⟨⟨g2325, g2326⟩, H⟩ := of_gd H
                  refine Q_gval rfl rfl rfl rfl rfl rfl (fun wq hq => O_idx rfl rfl rfl Try.underlying66 size69 g2325 g2326 (Cells.isA ((HS2279.keep hq).cells_rdc (i := 4) rfl) (dz_ne (D := D_coin) ((HS2279.keep hq).dze (i := 5) rfl) g2325 g2326 (by decide)))) ?_
                  refine Q_gval rfl rfl rfl rfl rfl rfl (fun wq hq => O_fieldC rfl rfl (Cells.isA ((HS2279.keep hq).cells_rdc (i := 4) rfl) (dz_ne (D := D_coin) ((HS2279.keep hq).dze (i := 5) rfl) g2325 g2326 (by decide))) field69_0) ?_
                  have HS2328 : Hp S0 w0 w2278 [.rd A_leaves_0 (rowC E_coin ds_leaves_0), Dz D_coin (orB (orB S0 B_leaves_0) B_made_1) w0.heap.size B_leaves_0 ds_leaves_0 l_leaves_0, .rd A_made_1 (rowC E_coin ds_made_1), Dz D_coin (orB (orB S0 B_leaves_0) B_made_1) w0.heap.size B_made_1 ds_made_1 l_made_1, Rdc l2267.length c2264 A2263 (rowC E_coin ds2265), Dz D_coin (orB (orB S0 B_leaves_0) B_made_1) w0.heap.size B2266 ds2265 l2267, Rdc l2272.length c2269 A2268 (rowC E_coin ds2270), Dz D_coin (orB (orB S0 B_leaves_0) B_made_1) w0.heap.size B2271 ds2270 l2272, .own A2273 c2274 (rowC E_coin ds2275) 69 E_coin.sz, Dz D_coin (orB (orB S0 B_leaves_0) B_made_1) w0.heap.size B2276 ds2275 l2277, Dz D_coin (orB (orB S0 B_leaves_0) B_made_1) w0.heap.size B2266 [(rdx E_coin ds2265 0)] [(rdp (Co.leaf 0 0) l2267 0)]] := HS2279.dzOne (i := 5) rfl dz_self (HS2279.dze (i := 5) rfl) g2325 g2326
                  refine Q_gval rfl rfl rfl rfl rfl rfl (fun wq hq => O_loadC rfl rfl flat3 ((HS2328.keep hq).cells_rdc (i := 4) rfl) (dz_cell (D := D_coin) (f := fun x => .int .i64 x.w) 0 co_w ((HS2328.keep hq).dze (i := 5) rfl) g2325 g2326)) ?_
                  refine Q_gval rfl rfl rfl rfl rfl rfl (fun wq hq => O_move rfl rfl) ?_
                  obtain ⟨⟨g2329, g2330⟩, H⟩ := of_gd H
                  refine Q_gval rfl rfl rfl rfl rfl rfl (fun wq hq => O_idx rfl rfl rfl Try.underlying66 size69 g2329 g2330 (Cells.isA ((HS2328.keep hq).cells_rdc (i := 6) rfl) (dz_ne (D := D_coin) ((HS2328.keep hq).dze (i := 7) rfl) g2329 g2330 (by decide)))) ?_
                  refine Q_gval rfl rfl rfl rfl rfl rfl (fun wq hq => O_fieldC rfl rfl (Cells.isA ((HS2328.keep hq).cells_rdc (i := 6) rfl) (dz_ne (D := D_coin) ((HS2328.keep hq).dze (i := 7) rfl) g2329 g2330 (by decide))) field69_0) ?_
                  have HS2332 : Hp S0 w0 w2278 [.rd A_leaves_0 (rowC E_coin ds_leaves_0), Dz D_coin (orB (orB S0 B_leaves_0) B_made_1) w0.heap.size B_leaves_0 ds_leaves_0 l_leaves_0, .rd A_made_1 (rowC E_coin ds_made_1), Dz D_coin (orB (orB S0 B_leaves_0) B_made_1) w0.heap.size B_made_1 ds_made_1 l_made_1, Rdc l2267.length c2264 A2263 (rowC E_coin ds2265), Dz D_coin (orB (orB S0 B_leaves_0) B_made_1) w0.heap.size B2266 ds2265 l2267, Rdc l2272.length c2269 A2268 (rowC E_coin ds2270), Dz D_coin (orB (orB S0 B_leaves_0) B_made_1) w0.heap.size B2271 ds2270 l2272, .own A2273 c2274 (rowC E_coin ds2275) 69 E_coin.sz, Dz D_coin (orB (orB S0 B_leaves_0) B_made_1) w0.heap.size B2276 ds2275 l2277, Dz D_coin (orB (orB S0 B_leaves_0) B_made_1) w0.heap.size B2266 [(rdx E_coin ds2265 0)] [(rdp (Co.leaf 0 0) l2267 0)], Dz D_coin (orB (orB S0 B_leaves_0) B_made_1) w0.heap.size B2271 [(rdx E_coin ds2270 0)] [(rdp (Co.leaf 0 0) l2272 0)]] := HS2328.dzOne (i := 7) rfl dz_self (HS2328.dze (i := 7) rfl) g2329 g2330
                  refine Q_gval rfl rfl rfl rfl rfl rfl (fun wq hq => O_loadC rfl rfl flat3 ((HS2332.keep hq).cells_rdc (i := 6) rfl) (dz_cell (D := D_coin) (f := fun x => .int .i64 x.w) 0 co_w ((HS2332.keep hq).dze (i := 7) rfl) g2329 g2330)) ?_
                  refine Q_gval rfl rfl rfl rfl rfl rfl (fun wq hq => O_le rfl rfl rfl) ?_
                  refine Q_gval rfl rfl rfl rfl rfl rfl (fun wq hq => O_pickT rfl rfl rfl) ?_
                  refine Q_know (i := 31) rfl (congrArg Value.bool (Option.some.inj H)) ?_
                  exact Q_grpE (fun a ha => Is.cons ha (Is.cons ha (Is.cons ha (Is.cons ha (Is.cons ha (Is.cons ha (Is.cons ha (Is.cons ha (Is.cons (i := 21) (v := .bool (decide (0 < (l2267.length : Int)))) ha (Is.nil ha) (congrArg some (dec_t c2324).symm)) rfl) rfl) rfl) rfl) rfl) rfl) rfl) rfl)
                · refine Q_know (i := 21) rfl (dec_f c2324) ?_
                  have H := of_neg Hb2320 c2324
                  refine Q_gskip rfl rfl rfl rfl rfl rfl rfl ?_
                  refine Q_gskip rfl rfl rfl rfl rfl rfl rfl ?_
                  refine Q_gskip rfl rfl rfl rfl rfl rfl rfl ?_
                  refine Q_gskip rfl rfl rfl rfl rfl rfl rfl ?_
                  refine Q_gskip rfl rfl rfl rfl rfl rfl rfl ?_
                  refine Q_gskip rfl rfl rfl rfl rfl rfl rfl ?_
                  refine Q_gskip rfl rfl rfl rfl rfl rfl rfl ?_
                  refine Q_gskip rfl rfl rfl rfl rfl rfl rfl ?_
                  refine Q_gskip rfl rfl rfl rfl rfl rfl rfl ?_
                  refine Q_gval rfl rfl rfl rfl rfl rfl (fun wq hq => O_pickF rfl rfl rfl) ?_
                  refine Q_know (i := 31) rfl (congrArg Value.bool (Option.some.inj H)) ?_
                  exact Q_grpE (fun a ha => Is.cons ha (Is.cons ha (Is.cons ha (Is.cons ha (Is.cons ha (Is.cons ha (Is.cons ha (Is.cons ha (Is.cons (i := 21) (v := .bool (decide (0 < (l2267.length : Int)))) ha (Is.nil ha) (congrArg some (dec_f c2324).symm)) rfl) rfl) rfl) rfl) rfl) rfl) rfl) rfl)
              · skip
                refine Q_val rfl rfl rfl (fun wq hq => O_pickF rfl rfl rfl) ?_
                refine Q_know (i := 32) rfl (congrArg Value.bool (Option.some.inj H)) ?_
                exact Q_grpE (fun a ha => Is.cons ha (Is.cons ha (Is.cons ha (Is.cons ha (Is.nil ha) rfl) rfl) rfl) rfl)
          · skip
            refine Q_nil (fun w2333 hw2334 => ?_)
            have HS2335 := HS2279.keep hw2334
            obtain ⟨yj2336, Hyj2336, H⟩ := of_bind H
            refine L_join (fun a w => ∃ (l2464 : List Co), ∃ (l2469 : List Co), ∃ (l2474 : List Co), ∃ (A2460 : Option Addr), ∃ (c2461 : Nat), ∃ (ds2462 : List DC), ∃ (B2463 : Nat → Prop), ∃ (A2465 : Option Addr), ∃ (c2466 : Nat), ∃ (ds2467 : List DC), ∃ (B2468 : Nat → Prop), ∃ (A2470 : Option Addr), ∃ (c2471 : Nat), ∃ (ds2472 : List DC), ∃ (B2473 : Nat → Prop), yj2336 = (l2464, l2469, l2474) ∧ Is Try.f50.ntmps a [(0, .slice A2460 l2464.length c2461), (1, .slice A2465 l2469.length c2466), (5, .slice A2470 l2474.length c2471)] ∧ Hp S0 w0 w [.rd A_leaves_0 (rowC E_coin ds_leaves_0), Dz D_coin (orB (orB S0 B_leaves_0) B_made_1) w0.heap.size B_leaves_0 ds_leaves_0 l_leaves_0, .rd A_made_1 (rowC E_coin ds_made_1), Dz D_coin (orB (orB S0 B_leaves_0) B_made_1) w0.heap.size B_made_1 ds_made_1 l_made_1, Rdc l2464.length c2461 A2460 (rowC E_coin ds2462), Dz D_coin (orB (orB S0 B_leaves_0) B_made_1) w0.heap.size B2463 ds2462 l2464, Rdc l2469.length c2466 A2465 (rowC E_coin ds2467), Dz D_coin (orB (orB S0 B_leaves_0) B_made_1) w0.heap.size B2468 ds2467 l2469, .own A2470 c2471 (rowC E_coin ds2472) 69 E_coin.sz, Dz D_coin (orB (orB S0 B_leaves_0) B_made_1) w0.heap.size B2473 ds2472 l2474]) (fun Qj2336 hNj2336 hOj2336 => ?_) (fun a w hR => ?_)
            · skip
              have H := Hyj2336
              refine L_cond rfl (fun c2475 => ?_) (fun c2475 => ?_)
              · have H := of_pos H c2475
                obtain ⟨⟨g2476, g2477⟩, H⟩ := of_gd H
                have HS2479 : Hp S0 w0 w2333 [.rd A_leaves_0 (rowC E_coin ds_leaves_0), Dz D_coin (orB (orB S0 B_leaves_0) B_made_1) w0.heap.size B_leaves_0 ds_leaves_0 l_leaves_0, .rd A_made_1 (rowC E_coin ds_made_1), Dz D_coin (orB (orB S0 B_leaves_0) B_made_1) w0.heap.size B_made_1 ds_made_1 l_made_1, Rdc l2267.length c2264 A2263 (rowC E_coin ds2265), Dz D_coin (orB (orB S0 B_leaves_0) B_made_1) w0.heap.size B2266 ds2265 l2267, Rdc l2272.length c2269 A2268 (rowC E_coin ds2270), Dz D_coin (orB (orB S0 B_leaves_0) B_made_1) w0.heap.size B2271 ds2270 l2272, .own A2273 c2274 (rowC E_coin ds2275) 69 E_coin.sz, Dz D_coin (orB (orB S0 B_leaves_0) B_made_1) w0.heap.size B2276 ds2275 l2277, Dz D_coin (orB (orB S0 B_leaves_0) B_made_1) w0.heap.size B2266 [(rdx E_coin ds2265 0)] [(rdp (Co.leaf 0 0) l2267 0)]] := HS2335.dzOne (i := 5) rfl dz_self (HS2335.dze (i := 5) rfl) g2476 g2477
                refine L_heldS 10 0 [] mix rfl (fun w2498 hw2499 => ?_)
                have HS2500 := HS2479.keep hw2499
                refine ⟨HS2500.turns [8], ?_⟩
                have HR2501 : Hp (HS2500.ft [8]) w2498 w2498 [.own A2273 c2274 (rowC E_coin ds2275) 69 E_coin.sz, .rd A_leaves_0 (rowC E_coin ds_leaves_0), Dz D_coin anyB 0 B_leaves_0 ds_leaves_0 l_leaves_0, .rd A_made_1 (rowC E_coin ds_made_1), Dz D_coin anyB 0 B_made_1 ds_made_1 l_made_1, .rd A2263 (rowC E_coin ds2265), Dz D_coin anyB 0 B2266 ds2265 l2267, .rd A2268 (rowC E_coin ds2270), Dz D_coin anyB 0 B2271 ds2270 l2272, Dz D_coin anyB 0 B2276 ds2275 l2277, Dz D_coin anyB 0 B2266 [(rdx E_coin ds2265 0)] [(rdp (Co.leaf 0 0) l2267 0)]] := HS2500.give [8] rfl (Lent.rd HS2500 (Lent.dz HS2500 (Lent.rd HS2500 (Lent.dz HS2500 (Lent.rdc HS2500 (Lent.dz HS2500 (Lent.rdc HS2500 (Lent.dz HS2500 (Lent.dz HS2500 (Lent.dz HS2500 (Lent.nil) (i := 10) rfl dz_self (HS2500.dze (i := 10) rfl)) (i := 9) rfl dz_self (HS2500.dze (i := 9) rfl)) (i := 7) rfl dz_self (HS2500.dze (i := 7) rfl)) (i := 6) rfl (HS2500.cells_rdc (i := 6) rfl).self) (i := 5) rfl dz_self (HS2500.dze (i := 5) rfl)) (i := 4) rfl (HS2500.cells_rdc (i := 4) rfl).self) (i := 3) rfl dz_self (HS2500.dze (i := 3) rfl)) (i := 2) rfl (HS2500.cells_rd (i := 2) rfl).self) (i := 1) rfl dz_self (HS2500.dze (i := 1) rfl)) (i := 0) rfl (HS2500.cells_rd (i := 0) rfl).self)
                have hSF2502 : ∀ b, HS2500.ft [8] b → (orB (orB (orB (orB (orB (orB (HS2500.ft [8]) B_leaves_0) B_made_1) B2266) B2271) B2276) B2266) b ∨ w2498.heap.size ≤ b := fun b hb => .inl (.inl (.inl (.inl (.inl (.inl (.inl hb))))))
                have HS2503 : Hp (HS2500.ft [8]) w2498 w2498 [.own A2273 c2274 (rowC E_coin ds2275) 69 E_coin.sz, .rd A_leaves_0 (rowC E_coin ds_leaves_0), Dz D_coin (orB (orB (orB (orB (orB (orB (HS2500.ft [8]) B_leaves_0) B_made_1) B2266) B2271) B2276) B2266) w2498.heap.size B_leaves_0 ds_leaves_0 l_leaves_0, .rd A_made_1 (rowC E_coin ds_made_1), Dz D_coin anyB 0 B_made_1 ds_made_1 l_made_1, .rd A2263 (rowC E_coin ds2265), Dz D_coin anyB 0 B2266 ds2265 l2267, .rd A2268 (rowC E_coin ds2270), Dz D_coin anyB 0 B2271 ds2270 l2272, Dz D_coin anyB 0 B2276 ds2275 l2277, Dz D_coin anyB 0 B2266 [(rdx E_coin ds2265 0)] [(rdp (Co.leaf 0 0) l2267 0)]] := HR2501.dzProv (i := 2) rfl (fun b _ hb => .inl (.inl (.inl (.inl (.inl (.inl (.inr hb)))))))
                have HS2504 : Hp (HS2500.ft [8]) w2498 w2498 [.own A2273 c2274 (rowC E_coin ds2275) 69 E_coin.sz, .rd A_leaves_0 (rowC E_coin ds_leaves_0), Dz D_coin (orB (orB (orB (orB (orB (orB (HS2500.ft [8]) B_leaves_0) B_made_1) B2266) B2271) B2276) B2266) w2498.heap.size B_leaves_0 ds_leaves_0 l_leaves_0, .rd A_made_1 (rowC E_coin ds_made_1), Dz D_coin (orB (orB (orB (orB (orB (orB (HS2500.ft [8]) B_leaves_0) B_made_1) B2266) B2271) B2276) B2266) w2498.heap.size B_made_1 ds_made_1 l_made_1, .rd A2263 (rowC E_coin ds2265), Dz D_coin anyB 0 B2266 ds2265 l2267, .rd A2268 (rowC E_coin ds2270), Dz D_coin anyB 0 B2271 ds2270 l2272, Dz D_coin anyB 0 B2276 ds2275 l2277, Dz D_coin anyB 0 B2266 [(rdx E_coin ds2265 0)] [(rdp (Co.leaf 0 0) l2267 0)]] := HS2503.dzProv (i := 4) rfl (fun b _ hb => .inl (.inl (.inl (.inl (.inl (.inr hb))))))
                have HS2505 : Hp (HS2500.ft [8]) w2498 w2498 [.own A2273 c2274 (rowC E_coin ds2275) 69 E_coin.sz, .rd A_leaves_0 (rowC E_coin ds_leaves_0), Dz D_coin (orB (orB (orB (orB (orB (orB (HS2500.ft [8]) B_leaves_0) B_made_1) B2266) B2271) B2276) B2266) w2498.heap.size B_leaves_0 ds_leaves_0 l_leaves_0, .rd A_made_1 (rowC E_coin ds_made_1), Dz D_coin (orB (orB (orB (orB (orB (orB (HS2500.ft [8]) B_leaves_0) B_made_1) B2266) B2271) B2276) B2266) w2498.heap.size B_made_1 ds_made_1 l_made_1, .rd A2263 (rowC E_coin ds2265), Dz D_coin (orB (orB (orB (orB (orB (orB (HS2500.ft [8]) B_leaves_0) B_made_1) B2266) B2271) B2276) B2266) w2498.heap.size B2266 ds2265 l2267, .rd A2268 (rowC E_coin ds2270), Dz D_coin anyB 0 B2271 ds2270 l2272, Dz D_coin anyB 0 B2276 ds2275 l2277, Dz D_coin anyB 0 B2266 [(rdx E_coin ds2265 0)] [(rdp (Co.leaf 0 0) l2267 0)]] := HS2504.dzProv (i := 6) rfl (fun b _ hb => .inl (.inl (.inl (.inl (.inr hb)))))
                have HS2506 : Hp (HS2500.ft [8]) w2498 w2498 [.own A2273 c2274 (rowC E_coin ds2275) 69 E_coin.sz, .rd A_leaves_0 (rowC E_coin ds_leaves_0), Dz D_coin (orB (orB (orB (orB (orB (orB (HS2500.ft [8]) B_leaves_0) B_made_1) B2266) B2271) B2276) B2266) w2498.heap.size B_leaves_0 ds_leaves_0 l_leaves_0, .rd A_made_1 (rowC E_coin ds_made_1), Dz D_coin (orB (orB (orB (orB (orB (orB (HS2500.ft [8]) B_leaves_0) B_made_1) B2266) B2271) B2276) B2266) w2498.heap.size B_made_1 ds_made_1 l_made_1, .rd A2263 (rowC E_coin ds2265), Dz D_coin (orB (orB (orB (orB (orB (orB (HS2500.ft [8]) B_leaves_0) B_made_1) B2266) B2271) B2276) B2266) w2498.heap.size B2266 ds2265 l2267, .rd A2268 (rowC E_coin ds2270), Dz D_coin (orB (orB (orB (orB (orB (orB (HS2500.ft [8]) B_leaves_0) B_made_1) B2266) B2271) B2276) B2266) w2498.heap.size B2271 ds2270 l2272, Dz D_coin anyB 0 B2276 ds2275 l2277, Dz D_coin anyB 0 B2266 [(rdx E_coin ds2265 0)] [(rdp (Co.leaf 0 0) l2267 0)]] := HS2505.dzProv (i := 8) rfl (fun b _ hb => .inl (.inl (.inl (.inr hb))))
                have HS2507 : Hp (HS2500.ft [8]) w2498 w2498 [.own A2273 c2274 (rowC E_coin ds2275) 69 E_coin.sz, .rd A_leaves_0 (rowC E_coin ds_leaves_0), Dz D_coin (orB (orB (orB (orB (orB (orB (HS2500.ft [8]) B_leaves_0) B_made_1) B2266) B2271) B2276) B2266) w2498.heap.size B_leaves_0 ds_leaves_0 l_leaves_0, .rd A_made_1 (rowC E_coin ds_made_1), Dz D_coin (orB (orB (orB (orB (orB (orB (HS2500.ft [8]) B_leaves_0) B_made_1) B2266) B2271) B2276) B2266) w2498.heap.size B_made_1 ds_made_1 l_made_1, .rd A2263 (rowC E_coin ds2265), Dz D_coin (orB (orB (orB (orB (orB (orB (HS2500.ft [8]) B_leaves_0) B_made_1) B2266) B2271) B2276) B2266) w2498.heap.size B2266 ds2265 l2267, .rd A2268 (rowC E_coin ds2270), Dz D_coin (orB (orB (orB (orB (orB (orB (HS2500.ft [8]) B_leaves_0) B_made_1) B2266) B2271) B2276) B2266) w2498.heap.size B2271 ds2270 l2272, Dz D_coin (orB (orB (orB (orB (orB (orB (HS2500.ft [8]) B_leaves_0) B_made_1) B2266) B2271) B2276) B2266) w2498.heap.size B2276 ds2275 l2277, Dz D_coin anyB 0 B2266 [(rdx E_coin ds2265 0)] [(rdp (Co.leaf 0 0) l2267 0)]] := HS2506.dzProv (i := 9) rfl (fun b _ hb => .inl (.inl (.inr hb)))
                have HS2508 : Hp (HS2500.ft [8]) w2498 w2498 [.own A2273 c2274 (rowC E_coin ds2275) 69 E_coin.sz, .rd A_leaves_0 (rowC E_coin ds_leaves_0), Dz D_coin (orB (orB (orB (orB (orB (orB (HS2500.ft [8]) B_leaves_0) B_made_1) B2266) B2271) B2276) B2266) w2498.heap.size B_leaves_0 ds_leaves_0 l_leaves_0, .rd A_made_1 (rowC E_coin ds_made_1), Dz D_coin (orB (orB (orB (orB (orB (orB (HS2500.ft [8]) B_leaves_0) B_made_1) B2266) B2271) B2276) B2266) w2498.heap.size B_made_1 ds_made_1 l_made_1, .rd A2263 (rowC E_coin ds2265), Dz D_coin (orB (orB (orB (orB (orB (orB (HS2500.ft [8]) B_leaves_0) B_made_1) B2266) B2271) B2276) B2266) w2498.heap.size B2266 ds2265 l2267, .rd A2268 (rowC E_coin ds2270), Dz D_coin (orB (orB (orB (orB (orB (orB (HS2500.ft [8]) B_leaves_0) B_made_1) B2266) B2271) B2276) B2266) w2498.heap.size B2271 ds2270 l2272, Dz D_coin (orB (orB (orB (orB (orB (orB (HS2500.ft [8]) B_leaves_0) B_made_1) B2266) B2271) B2276) B2266) w2498.heap.size B2276 ds2275 l2277, Dz D_coin (orB (orB (orB (orB (orB (orB (HS2500.ft [8]) B_leaves_0) B_made_1) B2266) B2271) B2276) B2266) w2498.heap.size B2266 [(rdx E_coin ds2265 0)] [(rdp (Co.leaf 0 0) l2267 0)]] := HS2507.dzProv (i := 10) rfl (fun b _ hb => .inl (.inr hb))
                refine H_val (i := 0) rfl (by kernel_rfl) (by kernel_rfl) (by kernel_rfl) (by kernel_rfl) rfl rfl rfl HS2508.chg (fun wq hq => O_move rfl rfl) ?_
                refine H_val (i := 1) rfl (by kernel_rfl) (by kernel_rfl) (by kernel_rfl) (by kernel_rfl) rfl rfl rfl HS2508.chg (fun wq hq => O_move rfl rfl) ?_
                refine H_val (i := 2) rfl (by kernel_rfl) (by kernel_rfl) (by kernel_rfl) (by kernel_rfl) rfl rfl rfl HS2508.chg (fun wq hq => O_idx rfl rfl rfl Try.underlying66 size69 g2476 g2477 (Cells.isA ((HS2500.keepT [8] hq).cells_rdc (i := 4) rfl) (dz_ne (D := D_coin) ((HS2500.keepT [8] hq).dze (i := 5) rfl) g2476 g2477 (by decide)))) ?_
                refine H_val (i := 3) rfl (by kernel_rfl) (by kernel_rfl) (by kernel_rfl) (by kernel_rfl) rfl rfl rfl HS2508.chg (fun wq hq => O_loadElD (D := D_coin) rfl rfl wide69 ((HS2500.keepT [8] hq).cells_rdc (i := 4) rfl) ((HS2500.keepT [8] hq).dze (i := 5) rfl) g2476 g2477 (by decide)) ?_
                refine H_val (i := 6) rfl (by kernel_rfl) (by kernel_rfl) (by kernel_rfl) (by kernel_rfl) rfl rfl rfl HS2508.chg (fun wq hq => O_move rfl rfl) ?_
                obtain ⟨⟨g2510, g2511⟩, H⟩ := of_gd H
                refine H_val (i := 7) rfl (by kernel_rfl) (by kernel_rfl) (by kernel_rfl) (by kernel_rfl) rfl rfl rfl HS2508.chg (fun wq hq => O_frmD (E := E_coin) rfl rfl rfl Try.underlying66 size69 g2510 g2511) ?_
                refine H_one (i := 4) rfl (by kernel_rfl) (by kernel_rfl) ?_
                refine F_litE (E := E_coin) (e := 69) [(0, .agg (E_coin.enc (rdx E_coin ds2265 0)).toArray)] [(rdx E_coin ds2265 0)] rfl rfl rfl rfl rfl rfl rfl (by decide) (fun w => by kernel_rfl) HS2508 (fun w2512 A2514 c2515 HS2513 => ?_)
                have HS2513 : Hp (HS2500.ft [8]) w2498 w2512 [.own A2273 c2274 (rowC E_coin ds2275) 69 E_coin.sz, .rd A_leaves_0 (rowC E_coin ds_leaves_0), Dz D_coin (orB (orB (orB (orB (orB (orB (HS2500.ft [8]) B_leaves_0) B_made_1) B2266) B2271) B2276) B2266) w2498.heap.size B_leaves_0 ds_leaves_0 l_leaves_0, .rd A_made_1 (rowC E_coin ds_made_1), Dz D_coin (orB (orB (orB (orB (orB (orB (HS2500.ft [8]) B_leaves_0) B_made_1) B2266) B2271) B2276) B2266) w2498.heap.size B_made_1 ds_made_1 l_made_1, .rd A2263 (rowC E_coin ds2265), Dz D_coin (orB (orB (orB (orB (orB (orB (HS2500.ft [8]) B_leaves_0) B_made_1) B2266) B2271) B2276) B2266) w2498.heap.size B2266 ds2265 l2267, .rd A2268 (rowC E_coin ds2270), Dz D_coin (orB (orB (orB (orB (orB (orB (HS2500.ft [8]) B_leaves_0) B_made_1) B2266) B2271) B2276) B2266) w2498.heap.size B2271 ds2270 l2272, Dz D_coin (orB (orB (orB (orB (orB (orB (HS2500.ft [8]) B_leaves_0) B_made_1) B2266) B2271) B2276) B2266) w2498.heap.size B2276 ds2275 l2277, Dz D_coin (orB (orB (orB (orB (orB (orB (HS2500.ft [8]) B_leaves_0) B_made_1) B2266) B2271) B2276) B2266) w2498.heap.size B2266 [(rdx E_coin ds2265 0)] [(rdp (Co.leaf 0 0) l2267 0)], .own A2514 c2515 (rowC E_coin [(rdx E_coin ds2265 0)]) 69 E_coin.sz] := HS2513
                have HS2518 : Hp (HS2500.ft [8]) w2498 w2512 [.own A2273 c2274 (rowC E_coin ds2275) 69 E_coin.sz, .rd A_leaves_0 (rowC E_coin ds_leaves_0), Dz D_coin (orB (orB (orB (orB (orB (orB (HS2500.ft [8]) B_leaves_0) B_made_1) B2266) B2271) B2276) B2266) w2498.heap.size B_leaves_0 ds_leaves_0 l_leaves_0, .rd A_made_1 (rowC E_coin ds_made_1), Dz D_coin (orB (orB (orB (orB (orB (orB (HS2500.ft [8]) B_leaves_0) B_made_1) B2266) B2271) B2276) B2266) w2498.heap.size B_made_1 ds_made_1 l_made_1, .rd A2263 (rowC E_coin ds2265), Dz D_coin (orB (orB (orB (orB (orB (orB (HS2500.ft [8]) B_leaves_0) B_made_1) B2266) B2271) B2276) B2266) w2498.heap.size B2266 ds2265 l2267, .rd A2268 (rowC E_coin ds2270), Dz D_coin (orB (orB (orB (orB (orB (orB (HS2500.ft [8]) B_leaves_0) B_made_1) B2266) B2271) B2276) B2266) w2498.heap.size B2271 ds2270 l2272, Dz D_coin (orB (orB (orB (orB (orB (orB (HS2500.ft [8]) B_leaves_0) B_made_1) B2266) B2271) B2276) B2266) w2498.heap.size B2276 ds2275 l2277, Dz D_coin (orB (orB (orB (orB (orB (orB (HS2500.ft [8]) B_leaves_0) B_made_1) B2266) B2271) B2276) B2266) w2498.heap.size B2266 [(rdx E_coin ds2265 0)] [(rdp (Co.leaf 0 0) l2267 0)], .own A2514 c2515 (rowC E_coin [(rdx E_coin ds2265 0)]) 69 E_coin.sz, Dz D_coin (orB (orB (orB (orB (orB (orB (HS2500.ft [8]) B_leaves_0) B_made_1) B2266) B2271) B2276) B2266) w2498.heap.size B2266 [(rdx E_coin ds2265 0)] [(rdp (Co.leaf 0 0) l2267 0)]] := HS2513.dzSub (i := 10) rfl dz_self (HS2513.dze (i := 10) rfl)
                refine H_next HS2518.chg ?_
                refine H_one (i := 5) rfl (by kernel_rfl) (by kernel_rfl) ?_
                obtain ⟨l2521, h2522, H⟩ := of_bnd H
                obtain ⟨g2523, H⟩ := of_gd H
                refine F_appD (D := D_coin) (ds := ds2275) (ds' := [(rdx E_coin ds2265 0)]) (xs := l2277) (ys := [(rdp (Co.leaf 0 0) l2267 0)]) (i := 0) rfl rfl rfl rfl Try.underlying66 info69 rfl (by decide) (by decide) rfl rfl HS2518 rfl (HS2518.dze (i := 9) rfl) (HS2518.dze (i := 12) rfl) (HS2518.cells_own (i := 11) rfl) h2522 g2523 (fun w2519 A2524 c2525 HS2520 => ?_)
                have HS2520 : Hp (HS2500.ft [8]) w2498 w2519 [.own A2524 c2525 (rowC E_coin (ds2275 ++ [(rdx E_coin ds2265 0)])) 69 E_coin.sz, .rd A_leaves_0 (rowC E_coin ds_leaves_0), Dz D_coin (orB (orB (orB (orB (orB (orB (HS2500.ft [8]) B_leaves_0) B_made_1) B2266) B2271) B2276) B2266) w2498.heap.size B_leaves_0 ds_leaves_0 l_leaves_0, .rd A_made_1 (rowC E_coin ds_made_1), Dz D_coin (orB (orB (orB (orB (orB (orB (HS2500.ft [8]) B_leaves_0) B_made_1) B2266) B2271) B2276) B2266) w2498.heap.size B_made_1 ds_made_1 l_made_1, .rd A2263 (rowC E_coin ds2265), Dz D_coin (orB (orB (orB (orB (orB (orB (HS2500.ft [8]) B_leaves_0) B_made_1) B2266) B2271) B2276) B2266) w2498.heap.size B2266 ds2265 l2267, .rd A2268 (rowC E_coin ds2270), Dz D_coin (orB (orB (orB (orB (orB (orB (HS2500.ft [8]) B_leaves_0) B_made_1) B2266) B2271) B2276) B2266) w2498.heap.size B2271 ds2270 l2272, Dz D_coin (orB (orB (orB (orB (orB (orB (HS2500.ft [8]) B_leaves_0) B_made_1) B2266) B2271) B2276) B2266) w2498.heap.size B2276 ds2275 l2277, Dz D_coin (orB (orB (orB (orB (orB (orB (HS2500.ft [8]) B_leaves_0) B_made_1) B2266) B2271) B2276) B2266) w2498.heap.size B2266 [(rdx E_coin ds2265 0)] [(rdp (Co.leaf 0 0) l2267 0)], .own A2514 c2515 (rowC E_coin [(rdx E_coin ds2265 0)]) 69 E_coin.sz, Dz D_coin (orB (orB (orB (orB (orB (orB (HS2500.ft [8]) B_leaves_0) B_made_1) B2266) B2271) B2276) B2266) w2498.heap.size B2266 [(rdx E_coin ds2265 0)] [(rdp (Co.leaf 0 0) l2267 0)]] := HS2520
                have HS2526 : Hp (HS2500.ft [8]) w2498 w2519 [.own A2524 c2525 (rowC E_coin (ds2275 ++ [(rdx E_coin ds2265 0)])) 69 E_coin.sz, .rd A_leaves_0 (rowC E_coin ds_leaves_0), Dz D_coin (orB (orB (orB (orB (orB (orB (HS2500.ft [8]) B_leaves_0) B_made_1) B2266) B2271) B2276) B2266) w2498.heap.size B_leaves_0 ds_leaves_0 l_leaves_0, .rd A_made_1 (rowC E_coin ds_made_1), Dz D_coin (orB (orB (orB (orB (orB (orB (HS2500.ft [8]) B_leaves_0) B_made_1) B2266) B2271) B2276) B2266) w2498.heap.size B_made_1 ds_made_1 l_made_1, .rd A2263 (rowC E_coin ds2265), Dz D_coin (orB (orB (orB (orB (orB (orB (HS2500.ft [8]) B_leaves_0) B_made_1) B2266) B2271) B2276) B2266) w2498.heap.size B2266 ds2265 l2267, .rd A2268 (rowC E_coin ds2270), Dz D_coin (orB (orB (orB (orB (orB (orB (HS2500.ft [8]) B_leaves_0) B_made_1) B2266) B2271) B2276) B2266) w2498.heap.size B2271 ds2270 l2272, Dz D_coin (orB (orB (orB (orB (orB (orB (HS2500.ft [8]) B_leaves_0) B_made_1) B2266) B2271) B2276) B2266) w2498.heap.size (orB B2276 B2266) (ds2275 ++ [(rdx E_coin ds2265 0)]) l2521, Dz D_coin (orB (orB (orB (orB (orB (orB (HS2500.ft [8]) B_leaves_0) B_made_1) B2266) B2271) B2276) B2266) w2498.heap.size B2266 [(rdx E_coin ds2265 0)] [(rdp (Co.leaf 0 0) l2267 0)], .own A2514 c2515 (rowC E_coin [(rdx E_coin ds2265 0)]) 69 E_coin.sz, Dz D_coin (orB (orB (orB (orB (orB (orB (HS2500.ft [8]) B_leaves_0) B_made_1) B2266) B2271) B2276) B2266) w2498.heap.size B2266 [(rdx E_coin ds2265 0)] [(rdp (Co.leaf 0 0) l2267 0)]] := HS2520.dzApp (i := 9) (j := 12) rfl rfl h2522
                refine H_next HS2526.chg ?_
                refine H_val (i := 8) rfl (by kernel_rfl) (by kernel_rfl) (by kernel_rfl) (by kernel_rfl) rfl rfl rfl HS2526.chg (fun wq hq => O_assign rfl rfl) ?_
                refine H_val (i := 9) rfl (by kernel_rfl) (by kernel_rfl) (by kernel_rfl) (by kernel_rfl) rfl rfl rfl HS2526.chg (fun wq hq => O_assign rfl rfl) ?_
                refine H_end (by kernel_rfl) ?_
                have HS2528 := HS2526.sel [0, 11, 9, 12] rfl
                have HS2527 : Hp S0 w0 w2519 [.rd A_leaves_0 (rowC E_coin ds_leaves_0), Dz D_coin (orB (orB S0 B_leaves_0) B_made_1) w0.heap.size B_leaves_0 ds_leaves_0 l_leaves_0, .rd A_made_1 (rowC E_coin ds_made_1), Dz D_coin (orB (orB S0 B_leaves_0) B_made_1) w0.heap.size B_made_1 ds_made_1 l_made_1, Rdc l2267.length c2264 A2263 (rowC E_coin ds2265), Dz D_coin (orB (orB S0 B_leaves_0) B_made_1) w0.heap.size B2266 ds2265 l2267, Rdc l2272.length c2269 A2268 (rowC E_coin ds2270), Dz D_coin (orB (orB S0 B_leaves_0) B_made_1) w0.heap.size B2271 ds2270 l2272, .own A2524 c2525 (rowC E_coin (ds2275 ++ [(rdx E_coin ds2265 0)])) 69 E_coin.sz, Dz D_coin (orB (orB S0 B_leaves_0) B_made_1) w0.heap.size (orB B2276 B2266) (ds2275 ++ [(rdx E_coin ds2265 0)]) l2521, Dz D_coin (orB (orB S0 B_leaves_0) B_made_1) w0.heap.size B2266 [(rdx E_coin ds2265 0)] [(rdp (Co.leaf 0 0) l2267 0)], .own A2514 c2515 (rowC E_coin [(rdx E_coin ds2265 0)]) 69 E_coin.sz, Dz D_coin (orB (orB S0 B_leaves_0) B_made_1) w0.heap.size B2266 [(rdx E_coin ds2265 0)] [(rdp (Co.leaf 0 0) l2267 0)]] := (((HS2500.backD [8] HS2528 (Pv.backG (Pv.own (Pv.own (Pv.per (HS2528.dz (i := 2) rfl).1 (Pv.per (HS2528.dz (i := 3) rfl).1 Pv.nil)))) (fun b => (fun hb => Or.elim hb (fun hb => Or.elim hb (fun hb => Or.elim hb (fun hb => Or.elim hb (fun hb => Or.elim hb (fun hb => Or.elim hb (fun hb => .inl hb) (fun hb => .inr ⟨_, _, nth_mem (i := 1) rfl, hb⟩)) (fun hb => .inr ⟨_, _, nth_mem (i := 3) rfl, hb⟩)) (fun hb => .inr ⟨_, _, nth_mem (i := 5) rfl, hb⟩)) (fun hb => .inr ⟨_, _, nth_mem (i := 7) rfl, hb⟩)) (fun hb => .inr ⟨_, _, nth_mem (i := 9) rfl, hb⟩)) (fun hb => .inr ⟨_, _, nth_mem (i := 10) rfl, hb⟩))))).sel [0, 1, 2, 3, 4, 5, 6, 7, 11, 13, 10, 12, 14] rfl).dzProv (i := 9) rfl (fun b hb _ => Or.elim hb (fun hb => Or.elim hb (fun hb => Or.elim hb (fun hb => Or.elim hb (fun hb => Or.elim hb (fun hb => Or.elim hb (fun hb => Or.elim hb (fun hb => (HS2500.mine _ (feet_pick_le hb)).elim (hSF _) .inr) (fun hb => (HS2500.dz (i := 1) rfl).1 _ hb)) (fun hb => (HS2500.dz (i := 3) rfl).1 _ hb)) (fun hb => (HS2500.dz (i := 5) rfl).1 _ hb)) (fun hb => (HS2500.dz (i := 7) rfl).1 _ hb)) (fun hb => (HS2500.dz (i := 9) rfl).1 _ hb)) (fun hb => (HS2500.dz (i := 10) rfl).1 _ hb)) (fun h => .inr (Nat.le_trans HS2500.chg.size h)))).dzProv (i := 12) rfl (fun b hb _ => Or.elim hb (fun hb => Or.elim hb (fun hb => Or.elim hb (fun hb => Or.elim hb (fun hb => Or.elim hb (fun hb => Or.elim hb (fun hb => Or.elim hb (fun hb => (HS2500.mine _ (feet_pick_le hb)).elim (hSF _) .inr) (fun hb => (HS2500.dz (i := 1) rfl).1 _ hb)) (fun hb => (HS2500.dz (i := 3) rfl).1 _ hb)) (fun hb => (HS2500.dz (i := 5) rfl).1 _ hb)) (fun hb => (HS2500.dz (i := 7) rfl).1 _ hb)) (fun hb => (HS2500.dz (i := 9) rfl).1 _ hb)) (fun hb => (HS2500.dz (i := 10) rfl).1 _ hb)) (fun h => .inr (Nat.le_trans HS2500.chg.size h)))
                refine T_done (by kernel_rfl) ?_
                have HS2530 : Hp S0 w0 w2519 [.rd A_leaves_0 (rowC E_coin ds_leaves_0), Dz D_coin (orB (orB S0 B_leaves_0) B_made_1) w0.heap.size B_leaves_0 ds_leaves_0 l_leaves_0, .rd A_made_1 (rowC E_coin ds_made_1), Dz D_coin (orB (orB S0 B_leaves_0) B_made_1) w0.heap.size B_made_1 ds_made_1 l_made_1, Rdc l2267.length c2264 A2263 (rowC E_coin ds2265), Dz D_coin (orB (orB S0 B_leaves_0) B_made_1) w0.heap.size B2266 ds2265 l2267, Rdc l2272.length c2269 A2268 (rowC E_coin ds2270), Dz D_coin (orB (orB S0 B_leaves_0) B_made_1) w0.heap.size B2271 ds2270 l2272, .own A2524 c2525 (rowC E_coin (ds2275 ++ [(rdx E_coin ds2265 0)])) 69 E_coin.sz, Dz D_coin (orB (orB S0 B_leaves_0) B_made_1) w0.heap.size (orB B2276 B2266) (ds2275 ++ [(rdx E_coin ds2265 0)]) l2521, Dz D_coin (orB (orB S0 B_leaves_0) B_made_1) w0.heap.size B2266 [(rdx E_coin ds2265 0)] [(rdp (Co.leaf 0 0) l2267 0)], .own A2514 c2515 (rowC E_coin [(rdx E_coin ds2265 0)]) 69 E_coin.sz, Dz D_coin (orB (orB S0 B_leaves_0) B_made_1) w0.heap.size B2266 [(rdx E_coin ds2265 0)] [(rdp (Co.leaf 0 0) l2267 0)], Rdc (l2267.drop (1 : Int).toNat).length (c2264 - (1 : Int).toNat) (frmA A2263 c2264 (1 : Int).toNat E_coin.sz) (rowC E_coin (ds2265.drop (1 : Int).toNat))] := HS2527.rdcSub (i := 4) rfl (Sub.trans (HS2527.cells_rdc (i := 4) rfl).self (sub_frm (l := (1 : Int).toNat) (HS2527.cells_rdc (i := 4) rfl) (dz_cap (HS2527.dze (i := 5) rfl) (HS2527.rdc_cap (i := 4) rfl)))) (drop_cap (HS2527.rdc_cap (i := 4) rfl))
                have HS2532 : Hp S0 w0 w2519 [.rd A_leaves_0 (rowC E_coin ds_leaves_0), Dz D_coin (orB (orB S0 B_leaves_0) B_made_1) w0.heap.size B_leaves_0 ds_leaves_0 l_leaves_0, .rd A_made_1 (rowC E_coin ds_made_1), Dz D_coin (orB (orB S0 B_leaves_0) B_made_1) w0.heap.size B_made_1 ds_made_1 l_made_1, Rdc l2267.length c2264 A2263 (rowC E_coin ds2265), Dz D_coin (orB (orB S0 B_leaves_0) B_made_1) w0.heap.size B2266 ds2265 l2267, Rdc l2272.length c2269 A2268 (rowC E_coin ds2270), Dz D_coin (orB (orB S0 B_leaves_0) B_made_1) w0.heap.size B2271 ds2270 l2272, .own A2524 c2525 (rowC E_coin (ds2275 ++ [(rdx E_coin ds2265 0)])) 69 E_coin.sz, Dz D_coin (orB (orB S0 B_leaves_0) B_made_1) w0.heap.size (orB B2276 B2266) (ds2275 ++ [(rdx E_coin ds2265 0)]) l2521, Dz D_coin (orB (orB S0 B_leaves_0) B_made_1) w0.heap.size B2266 [(rdx E_coin ds2265 0)] [(rdp (Co.leaf 0 0) l2267 0)], .own A2514 c2515 (rowC E_coin [(rdx E_coin ds2265 0)]) 69 E_coin.sz, Dz D_coin (orB (orB S0 B_leaves_0) B_made_1) w0.heap.size B2266 [(rdx E_coin ds2265 0)] [(rdp (Co.leaf 0 0) l2267 0)], Rdc (l2267.drop (1 : Int).toNat).length (c2264 - (1 : Int).toNat) (frmA A2263 c2264 (1 : Int).toNat E_coin.sz) (rowC E_coin (ds2265.drop (1 : Int).toNat)), Dz D_coin (orB (orB S0 B_leaves_0) B_made_1) w0.heap.size B2266 (ds2265.drop (1 : Int).toNat) (l2267.drop (1 : Int).toNat)] := HS2530.dzSub (i := 5) rfl (dz_dropT dz_self (1 : Int).toNat) (dze_drop (1 : Int).toNat (HS2527.dze (i := 5) rfl))
                refine L_nil (fun a ha => hNj2336 a _ ⟨_, _, _, _, _, _, _, _, _, _, _, _, _, _, _, (Option.some.inj H).symm, Is.cons ha (Is.cons ha (Is.cons ha (Is.nil ha) rfl) rfl) rfl, HS2532.sel [0, 1, 2, 3, 13, 14, 6, 7, 8, 9] rfl⟩)
              · have H := of_neg H (by rw [c2475]; exact Bool.false_ne_true)
                obtain ⟨⟨g2533, g2534⟩, H⟩ := of_gd H
                have HS2536 : Hp S0 w0 w2333 [.rd A_leaves_0 (rowC E_coin ds_leaves_0), Dz D_coin (orB (orB S0 B_leaves_0) B_made_1) w0.heap.size B_leaves_0 ds_leaves_0 l_leaves_0, .rd A_made_1 (rowC E_coin ds_made_1), Dz D_coin (orB (orB S0 B_leaves_0) B_made_1) w0.heap.size B_made_1 ds_made_1 l_made_1, Rdc l2267.length c2264 A2263 (rowC E_coin ds2265), Dz D_coin (orB (orB S0 B_leaves_0) B_made_1) w0.heap.size B2266 ds2265 l2267, Rdc l2272.length c2269 A2268 (rowC E_coin ds2270), Dz D_coin (orB (orB S0 B_leaves_0) B_made_1) w0.heap.size B2271 ds2270 l2272, .own A2273 c2274 (rowC E_coin ds2275) 69 E_coin.sz, Dz D_coin (orB (orB S0 B_leaves_0) B_made_1) w0.heap.size B2276 ds2275 l2277, Dz D_coin (orB (orB S0 B_leaves_0) B_made_1) w0.heap.size B2271 [(rdx E_coin ds2270 0)] [(rdp (Co.leaf 0 0) l2272 0)]] := HS2335.dzOne (i := 7) rfl dz_self (HS2335.dze (i := 7) rfl) g2533 g2534
                refine L_heldS 10 0 [] mix rfl (fun w2555 hw2556 => ?_)
                have HS2557 := HS2536.keep hw2556
                refine ⟨HS2557.turns [8], ?_⟩
                have HR2558 : Hp (HS2557.ft [8]) w2555 w2555 [.own A2273 c2274 (rowC E_coin ds2275) 69 E_coin.sz, .rd A_leaves_0 (rowC E_coin ds_leaves_0), Dz D_coin anyB 0 B_leaves_0 ds_leaves_0 l_leaves_0, .rd A_made_1 (rowC E_coin ds_made_1), Dz D_coin anyB 0 B_made_1 ds_made_1 l_made_1, .rd A2263 (rowC E_coin ds2265), Dz D_coin anyB 0 B2266 ds2265 l2267, .rd A2268 (rowC E_coin ds2270), Dz D_coin anyB 0 B2271 ds2270 l2272, Dz D_coin anyB 0 B2276 ds2275 l2277, Dz D_coin anyB 0 B2271 [(rdx E_coin ds2270 0)] [(rdp (Co.leaf 0 0) l2272 0)]] := HS2557.give [8] rfl (Lent.rd HS2557 (Lent.dz HS2557 (Lent.rd HS2557 (Lent.dz HS2557 (Lent.rdc HS2557 (Lent.dz HS2557 (Lent.rdc HS2557 (Lent.dz HS2557 (Lent.dz HS2557 (Lent.dz HS2557 (Lent.nil) (i := 10) rfl dz_self (HS2557.dze (i := 10) rfl)) (i := 9) rfl dz_self (HS2557.dze (i := 9) rfl)) (i := 7) rfl dz_self (HS2557.dze (i := 7) rfl)) (i := 6) rfl (HS2557.cells_rdc (i := 6) rfl).self) (i := 5) rfl dz_self (HS2557.dze (i := 5) rfl)) (i := 4) rfl (HS2557.cells_rdc (i := 4) rfl).self) (i := 3) rfl dz_self (HS2557.dze (i := 3) rfl)) (i := 2) rfl (HS2557.cells_rd (i := 2) rfl).self) (i := 1) rfl dz_self (HS2557.dze (i := 1) rfl)) (i := 0) rfl (HS2557.cells_rd (i := 0) rfl).self)
                have hSF2559 : ∀ b, HS2557.ft [8] b → (orB (orB (orB (orB (orB (orB (HS2557.ft [8]) B_leaves_0) B_made_1) B2266) B2271) B2276) B2271) b ∨ w2555.heap.size ≤ b := fun b hb => .inl (.inl (.inl (.inl (.inl (.inl (.inl hb))))))
                have HS2560 : Hp (HS2557.ft [8]) w2555 w2555 [.own A2273 c2274 (rowC E_coin ds2275) 69 E_coin.sz, .rd A_leaves_0 (rowC E_coin ds_leaves_0), Dz D_coin (orB (orB (orB (orB (orB (orB (HS2557.ft [8]) B_leaves_0) B_made_1) B2266) B2271) B2276) B2271) w2555.heap.size B_leaves_0 ds_leaves_0 l_leaves_0, .rd A_made_1 (rowC E_coin ds_made_1), Dz D_coin anyB 0 B_made_1 ds_made_1 l_made_1, .rd A2263 (rowC E_coin ds2265), Dz D_coin anyB 0 B2266 ds2265 l2267, .rd A2268 (rowC E_coin ds2270), Dz D_coin anyB 0 B2271 ds2270 l2272, Dz D_coin anyB 0 B2276 ds2275 l2277, Dz D_coin anyB 0 B2271 [(rdx E_coin ds2270 0)] [(rdp (Co.leaf 0 0) l2272 0)]] := HR2558.dzProv (i := 2) rfl (fun b _ hb => .inl (.inl (.inl (.inl (.inl (.inl (.inr hb)))))))
                have HS2561 : Hp (HS2557.ft [8]) w2555 w2555 [.own A2273 c2274 (rowC E_coin ds2275) 69 E_coin.sz, .rd A_leaves_0 (rowC E_coin ds_leaves_0), Dz D_coin (orB (orB (orB (orB (orB (orB (HS2557.ft [8]) B_leaves_0) B_made_1) B2266) B2271) B2276) B2271) w2555.heap.size B_leaves_0 ds_leaves_0 l_leaves_0, .rd A_made_1 (rowC E_coin ds_made_1), Dz D_coin (orB (orB (orB (orB (orB (orB (HS2557.ft [8]) B_leaves_0) B_made_1) B2266) B2271) B2276) B2271) w2555.heap.size B_made_1 ds_made_1 l_made_1, .rd A2263 (rowC E_coin ds2265), Dz D_coin anyB 0 B2266 ds2265 l2267, .rd A2268 (rowC E_coin ds2270), Dz D_coin anyB 0 B2271 ds2270 l2272, Dz D_coin anyB 0 B2276 ds2275 l2277, Dz D_coin anyB 0 B2271 [(rdx E_coin ds2270 0)] [(rdp (Co.leaf 0 0) l2272 0)]] := HS2560.dzProv (i := 4) rfl (fun b _ hb => .inl (.inl (.inl (.inl (.inl (.inr hb))))))
                have HS2562 : Hp (HS2557.ft [8]) w2555 w2555 [.own A2273 c2274 (rowC E_coin ds2275) 69 E_coin.sz, .rd A_leaves_0 (rowC E_coin ds_leaves_0), Dz D_coin (orB (orB (orB (orB (orB (orB (HS2557.ft [8]) B_leaves_0) B_made_1) B2266) B2271) B2276) B2271) w2555.heap.size B_leaves_0 ds_leaves_0 l_leaves_0, .rd A_made_1 (rowC E_coin ds_made_1), Dz D_coin (orB (orB (orB (orB (orB (orB (HS2557.ft [8]) B_leaves_0) B_made_1) B2266) B2271) B2276) B2271) w2555.heap.size B_made_1 ds_made_1 l_made_1, .rd A2263 (rowC E_coin ds2265), Dz D_coin (orB (orB (orB (orB (orB (orB (HS2557.ft [8]) B_leaves_0) B_made_1) B2266) B2271) B2276) B2271) w2555.heap.size B2266 ds2265 l2267, .rd A2268 (rowC E_coin ds2270), Dz D_coin anyB 0 B2271 ds2270 l2272, Dz D_coin anyB 0 B2276 ds2275 l2277, Dz D_coin anyB 0 B2271 [(rdx E_coin ds2270 0)] [(rdp (Co.leaf 0 0) l2272 0)]] := HS2561.dzProv (i := 6) rfl (fun b _ hb => .inl (.inl (.inl (.inl (.inr hb)))))
                have HS2563 : Hp (HS2557.ft [8]) w2555 w2555 [.own A2273 c2274 (rowC E_coin ds2275) 69 E_coin.sz, .rd A_leaves_0 (rowC E_coin ds_leaves_0), Dz D_coin (orB (orB (orB (orB (orB (orB (HS2557.ft [8]) B_leaves_0) B_made_1) B2266) B2271) B2276) B2271) w2555.heap.size B_leaves_0 ds_leaves_0 l_leaves_0, .rd A_made_1 (rowC E_coin ds_made_1), Dz D_coin (orB (orB (orB (orB (orB (orB (HS2557.ft [8]) B_leaves_0) B_made_1) B2266) B2271) B2276) B2271) w2555.heap.size B_made_1 ds_made_1 l_made_1, .rd A2263 (rowC E_coin ds2265), Dz D_coin (orB (orB (orB (orB (orB (orB (HS2557.ft [8]) B_leaves_0) B_made_1) B2266) B2271) B2276) B2271) w2555.heap.size B2266 ds2265 l2267, .rd A2268 (rowC E_coin ds2270), Dz D_coin (orB (orB (orB (orB (orB (orB (HS2557.ft [8]) B_leaves_0) B_made_1) B2266) B2271) B2276) B2271) w2555.heap.size B2271 ds2270 l2272, Dz D_coin anyB 0 B2276 ds2275 l2277, Dz D_coin anyB 0 B2271 [(rdx E_coin ds2270 0)] [(rdp (Co.leaf 0 0) l2272 0)]] := HS2562.dzProv (i := 8) rfl (fun b _ hb => .inl (.inl (.inl (.inr hb))))
                have HS2564 : Hp (HS2557.ft [8]) w2555 w2555 [.own A2273 c2274 (rowC E_coin ds2275) 69 E_coin.sz, .rd A_leaves_0 (rowC E_coin ds_leaves_0), Dz D_coin (orB (orB (orB (orB (orB (orB (HS2557.ft [8]) B_leaves_0) B_made_1) B2266) B2271) B2276) B2271) w2555.heap.size B_leaves_0 ds_leaves_0 l_leaves_0, .rd A_made_1 (rowC E_coin ds_made_1), Dz D_coin (orB (orB (orB (orB (orB (orB (HS2557.ft [8]) B_leaves_0) B_made_1) B2266) B2271) B2276) B2271) w2555.heap.size B_made_1 ds_made_1 l_made_1, .rd A2263 (rowC E_coin ds2265), Dz D_coin (orB (orB (orB (orB (orB (orB (HS2557.ft [8]) B_leaves_0) B_made_1) B2266) B2271) B2276) B2271) w2555.heap.size B2266 ds2265 l2267, .rd A2268 (rowC E_coin ds2270), Dz D_coin (orB (orB (orB (orB (orB (orB (HS2557.ft [8]) B_leaves_0) B_made_1) B2266) B2271) B2276) B2271) w2555.heap.size B2271 ds2270 l2272, Dz D_coin (orB (orB (orB (orB (orB (orB (HS2557.ft [8]) B_leaves_0) B_made_1) B2266) B2271) B2276) B2271) w2555.heap.size B2276 ds2275 l2277, Dz D_coin anyB 0 B2271 [(rdx E_coin ds2270 0)] [(rdp (Co.leaf 0 0) l2272 0)]] := HS2563.dzProv (i := 9) rfl (fun b _ hb => .inl (.inl (.inr hb)))
                have HS2565 : Hp (HS2557.ft [8]) w2555 w2555 [.own A2273 c2274 (rowC E_coin ds2275) 69 E_coin.sz, .rd A_leaves_0 (rowC E_coin ds_leaves_0), Dz D_coin (orB (orB (orB (orB (orB (orB (HS2557.ft [8]) B_leaves_0) B_made_1) B2266) B2271) B2276) B2271) w2555.heap.size B_leaves_0 ds_leaves_0 l_leaves_0, .rd A_made_1 (rowC E_coin ds_made_1), Dz D_coin (orB (orB (orB (orB (orB (orB (HS2557.ft [8]) B_leaves_0) B_made_1) B2266) B2271) B2276) B2271) w2555.heap.size B_made_1 ds_made_1 l_made_1, .rd A2263 (rowC E_coin ds2265), Dz D_coin (orB (orB (orB (orB (orB (orB (HS2557.ft [8]) B_leaves_0) B_made_1) B2266) B2271) B2276) B2271) w2555.heap.size B2266 ds2265 l2267, .rd A2268 (rowC E_coin ds2270), Dz D_coin (orB (orB (orB (orB (orB (orB (HS2557.ft [8]) B_leaves_0) B_made_1) B2266) B2271) B2276) B2271) w2555.heap.size B2271 ds2270 l2272, Dz D_coin (orB (orB (orB (orB (orB (orB (HS2557.ft [8]) B_leaves_0) B_made_1) B2266) B2271) B2276) B2271) w2555.heap.size B2276 ds2275 l2277, Dz D_coin (orB (orB (orB (orB (orB (orB (HS2557.ft [8]) B_leaves_0) B_made_1) B2266) B2271) B2276) B2271) w2555.heap.size B2271 [(rdx E_coin ds2270 0)] [(rdp (Co.leaf 0 0) l2272 0)]] := HS2564.dzProv (i := 10) rfl (fun b _ hb => .inl (.inr hb))
                refine H_val (i := 0) rfl (by kernel_rfl) (by kernel_rfl) (by kernel_rfl) (by kernel_rfl) rfl rfl rfl HS2565.chg (fun wq hq => O_move rfl rfl) ?_
                refine H_val (i := 1) rfl (by kernel_rfl) (by kernel_rfl) (by kernel_rfl) (by kernel_rfl) rfl rfl rfl HS2565.chg (fun wq hq => O_move rfl rfl) ?_
                refine H_val (i := 2) rfl (by kernel_rfl) (by kernel_rfl) (by kernel_rfl) (by kernel_rfl) rfl rfl rfl HS2565.chg (fun wq hq => O_idx rfl rfl rfl Try.underlying66 size69 g2533 g2534 (Cells.isA ((HS2557.keepT [8] hq).cells_rdc (i := 6) rfl) (dz_ne (D := D_coin) ((HS2557.keepT [8] hq).dze (i := 7) rfl) g2533 g2534 (by decide)))) ?_
                refine H_val (i := 3) rfl (by kernel_rfl) (by kernel_rfl) (by kernel_rfl) (by kernel_rfl) rfl rfl rfl HS2565.chg (fun wq hq => O_loadElD (D := D_coin) rfl rfl wide69 ((HS2557.keepT [8] hq).cells_rdc (i := 6) rfl) ((HS2557.keepT [8] hq).dze (i := 7) rfl) g2533 g2534 (by decide)) ?_
                refine H_val (i := 6) rfl (by kernel_rfl) (by kernel_rfl) (by kernel_rfl) (by kernel_rfl) rfl rfl rfl HS2565.chg (fun wq hq => O_move rfl rfl) ?_
                obtain ⟨⟨g2567, g2568⟩, H⟩ := of_gd H
                refine H_val (i := 7) rfl (by kernel_rfl) (by kernel_rfl) (by kernel_rfl) (by kernel_rfl) rfl rfl rfl HS2565.chg (fun wq hq => O_frmD (E := E_coin) rfl rfl rfl Try.underlying66 size69 g2567 g2568) ?_
                refine H_one (i := 4) rfl (by kernel_rfl) (by kernel_rfl) ?_
                refine F_litE (E := E_coin) (e := 69) [(0, .agg (E_coin.enc (rdx E_coin ds2270 0)).toArray)] [(rdx E_coin ds2270 0)] rfl rfl rfl rfl rfl rfl rfl (by decide) (fun w => by kernel_rfl) HS2565 (fun w2569 A2571 c2572 HS2570 => ?_)
                have HS2570 : Hp (HS2557.ft [8]) w2555 w2569 [.own A2273 c2274 (rowC E_coin ds2275) 69 E_coin.sz, .rd A_leaves_0 (rowC E_coin ds_leaves_0), Dz D_coin (orB (orB (orB (orB (orB (orB (HS2557.ft [8]) B_leaves_0) B_made_1) B2266) B2271) B2276) B2271) w2555.heap.size B_leaves_0 ds_leaves_0 l_leaves_0, .rd A_made_1 (rowC E_coin ds_made_1), Dz D_coin (orB (orB (orB (orB (orB (orB (HS2557.ft [8]) B_leaves_0) B_made_1) B2266) B2271) B2276) B2271) w2555.heap.size B_made_1 ds_made_1 l_made_1, .rd A2263 (rowC E_coin ds2265), Dz D_coin (orB (orB (orB (orB (orB (orB (HS2557.ft [8]) B_leaves_0) B_made_1) B2266) B2271) B2276) B2271) w2555.heap.size B2266 ds2265 l2267, .rd A2268 (rowC E_coin ds2270), Dz D_coin (orB (orB (orB (orB (orB (orB (HS2557.ft [8]) B_leaves_0) B_made_1) B2266) B2271) B2276) B2271) w2555.heap.size B2271 ds2270 l2272, Dz D_coin (orB (orB (orB (orB (orB (orB (HS2557.ft [8]) B_leaves_0) B_made_1) B2266) B2271) B2276) B2271) w2555.heap.size B2276 ds2275 l2277, Dz D_coin (orB (orB (orB (orB (orB (orB (HS2557.ft [8]) B_leaves_0) B_made_1) B2266) B2271) B2276) B2271) w2555.heap.size B2271 [(rdx E_coin ds2270 0)] [(rdp (Co.leaf 0 0) l2272 0)], .own A2571 c2572 (rowC E_coin [(rdx E_coin ds2270 0)]) 69 E_coin.sz] := HS2570
                have HS2575 : Hp (HS2557.ft [8]) w2555 w2569 [.own A2273 c2274 (rowC E_coin ds2275) 69 E_coin.sz, .rd A_leaves_0 (rowC E_coin ds_leaves_0), Dz D_coin (orB (orB (orB (orB (orB (orB (HS2557.ft [8]) B_leaves_0) B_made_1) B2266) B2271) B2276) B2271) w2555.heap.size B_leaves_0 ds_leaves_0 l_leaves_0, .rd A_made_1 (rowC E_coin ds_made_1), Dz D_coin (orB (orB (orB (orB (orB (orB (HS2557.ft [8]) B_leaves_0) B_made_1) B2266) B2271) B2276) B2271) w2555.heap.size B_made_1 ds_made_1 l_made_1, .rd A2263 (rowC E_coin ds2265), Dz D_coin (orB (orB (orB (orB (orB (orB (HS2557.ft [8]) B_leaves_0) B_made_1) B2266) B2271) B2276) B2271) w2555.heap.size B2266 ds2265 l2267, .rd A2268 (rowC E_coin ds2270), Dz D_coin (orB (orB (orB (orB (orB (orB (HS2557.ft [8]) B_leaves_0) B_made_1) B2266) B2271) B2276) B2271) w2555.heap.size B2271 ds2270 l2272, Dz D_coin (orB (orB (orB (orB (orB (orB (HS2557.ft [8]) B_leaves_0) B_made_1) B2266) B2271) B2276) B2271) w2555.heap.size B2276 ds2275 l2277, Dz D_coin (orB (orB (orB (orB (orB (orB (HS2557.ft [8]) B_leaves_0) B_made_1) B2266) B2271) B2276) B2271) w2555.heap.size B2271 [(rdx E_coin ds2270 0)] [(rdp (Co.leaf 0 0) l2272 0)], .own A2571 c2572 (rowC E_coin [(rdx E_coin ds2270 0)]) 69 E_coin.sz, Dz D_coin (orB (orB (orB (orB (orB (orB (HS2557.ft [8]) B_leaves_0) B_made_1) B2266) B2271) B2276) B2271) w2555.heap.size B2271 [(rdx E_coin ds2270 0)] [(rdp (Co.leaf 0 0) l2272 0)]] := HS2570.dzSub (i := 10) rfl dz_self (HS2570.dze (i := 10) rfl)
                refine H_next HS2575.chg ?_
                refine H_one (i := 5) rfl (by kernel_rfl) (by kernel_rfl) ?_
                obtain ⟨l2578, h2579, H⟩ := of_bnd H
                obtain ⟨g2580, H⟩ := of_gd H
                refine F_appD (D := D_coin) (ds := ds2275) (ds' := [(rdx E_coin ds2270 0)]) (xs := l2277) (ys := [(rdp (Co.leaf 0 0) l2272 0)]) (i := 0) rfl rfl rfl rfl Try.underlying66 info69 rfl (by decide) (by decide) rfl rfl HS2575 rfl (HS2575.dze (i := 9) rfl) (HS2575.dze (i := 12) rfl) (HS2575.cells_own (i := 11) rfl) h2579 g2580 (fun w2576 A2581 c2582 HS2577 => ?_)
                have HS2577 : Hp (HS2557.ft [8]) w2555 w2576 [.own A2581 c2582 (rowC E_coin (ds2275 ++ [(rdx E_coin ds2270 0)])) 69 E_coin.sz, .rd A_leaves_0 (rowC E_coin ds_leaves_0), Dz D_coin (orB (orB (orB (orB (orB (orB (HS2557.ft [8]) B_leaves_0) B_made_1) B2266) B2271) B2276) B2271) w2555.heap.size B_leaves_0 ds_leaves_0 l_leaves_0, .rd A_made_1 (rowC E_coin ds_made_1), Dz D_coin (orB (orB (orB (orB (orB (orB (HS2557.ft [8]) B_leaves_0) B_made_1) B2266) B2271) B2276) B2271) w2555.heap.size B_made_1 ds_made_1 l_made_1, .rd A2263 (rowC E_coin ds2265), Dz D_coin (orB (orB (orB (orB (orB (orB (HS2557.ft [8]) B_leaves_0) B_made_1) B2266) B2271) B2276) B2271) w2555.heap.size B2266 ds2265 l2267, .rd A2268 (rowC E_coin ds2270), Dz D_coin (orB (orB (orB (orB (orB (orB (HS2557.ft [8]) B_leaves_0) B_made_1) B2266) B2271) B2276) B2271) w2555.heap.size B2271 ds2270 l2272, Dz D_coin (orB (orB (orB (orB (orB (orB (HS2557.ft [8]) B_leaves_0) B_made_1) B2266) B2271) B2276) B2271) w2555.heap.size B2276 ds2275 l2277, Dz D_coin (orB (orB (orB (orB (orB (orB (HS2557.ft [8]) B_leaves_0) B_made_1) B2266) B2271) B2276) B2271) w2555.heap.size B2271 [(rdx E_coin ds2270 0)] [(rdp (Co.leaf 0 0) l2272 0)], .own A2571 c2572 (rowC E_coin [(rdx E_coin ds2270 0)]) 69 E_coin.sz, Dz D_coin (orB (orB (orB (orB (orB (orB (HS2557.ft [8]) B_leaves_0) B_made_1) B2266) B2271) B2276) B2271) w2555.heap.size B2271 [(rdx E_coin ds2270 0)] [(rdp (Co.leaf 0 0) l2272 0)]] := HS2577
                have HS2583 : Hp (HS2557.ft [8]) w2555 w2576 [.own A2581 c2582 (rowC E_coin (ds2275 ++ [(rdx E_coin ds2270 0)])) 69 E_coin.sz, .rd A_leaves_0 (rowC E_coin ds_leaves_0), Dz D_coin (orB (orB (orB (orB (orB (orB (HS2557.ft [8]) B_leaves_0) B_made_1) B2266) B2271) B2276) B2271) w2555.heap.size B_leaves_0 ds_leaves_0 l_leaves_0, .rd A_made_1 (rowC E_coin ds_made_1), Dz D_coin (orB (orB (orB (orB (orB (orB (HS2557.ft [8]) B_leaves_0) B_made_1) B2266) B2271) B2276) B2271) w2555.heap.size B_made_1 ds_made_1 l_made_1, .rd A2263 (rowC E_coin ds2265), Dz D_coin (orB (orB (orB (orB (orB (orB (HS2557.ft [8]) B_leaves_0) B_made_1) B2266) B2271) B2276) B2271) w2555.heap.size B2266 ds2265 l2267, .rd A2268 (rowC E_coin ds2270), Dz D_coin (orB (orB (orB (orB (orB (orB (HS2557.ft [8]) B_leaves_0) B_made_1) B2266) B2271) B2276) B2271) w2555.heap.size B2271 ds2270 l2272, Dz D_coin (orB (orB (orB (orB (orB (orB (HS2557.ft [8]) B_leaves_0) B_made_1) B2266) B2271) B2276) B2271) w2555.heap.size (orB B2276 B2271) (ds2275 ++ [(rdx E_coin ds2270 0)]) l2578, Dz D_coin (orB (orB (orB (orB (orB (orB (HS2557.ft [8]) B_leaves_0) B_made_1) B2266) B2271) B2276) B2271) w2555.heap.size B2271 [(rdx E_coin ds2270 0)] [(rdp (Co.leaf 0 0) l2272 0)], .own A2571 c2572 (rowC E_coin [(rdx E_coin ds2270 0)]) 69 E_coin.sz, Dz D_coin (orB (orB (orB (orB (orB (orB (HS2557.ft [8]) B_leaves_0) B_made_1) B2266) B2271) B2276) B2271) w2555.heap.size B2271 [(rdx E_coin ds2270 0)] [(rdp (Co.leaf 0 0) l2272 0)]] := HS2577.dzApp (i := 9) (j := 12) rfl rfl h2579
                refine H_next HS2583.chg ?_
                refine H_val (i := 8) rfl (by kernel_rfl) (by kernel_rfl) (by kernel_rfl) (by kernel_rfl) rfl rfl rfl HS2583.chg (fun wq hq => O_assign rfl rfl) ?_
                refine H_val (i := 9) rfl (by kernel_rfl) (by kernel_rfl) (by kernel_rfl) (by kernel_rfl) rfl rfl rfl HS2583.chg (fun wq hq => O_assign rfl rfl) ?_
                refine H_end (by kernel_rfl) ?_
                have HS2585 := HS2583.sel [0, 11, 9, 12] rfl
                have HS2584 : Hp S0 w0 w2576 [.rd A_leaves_0 (rowC E_coin ds_leaves_0), Dz D_coin (orB (orB S0 B_leaves_0) B_made_1) w0.heap.size B_leaves_0 ds_leaves_0 l_leaves_0, .rd A_made_1 (rowC E_coin ds_made_1), Dz D_coin (orB (orB S0 B_leaves_0) B_made_1) w0.heap.size B_made_1 ds_made_1 l_made_1, Rdc l2267.length c2264 A2263 (rowC E_coin ds2265), Dz D_coin (orB (orB S0 B_leaves_0) B_made_1) w0.heap.size B2266 ds2265 l2267, Rdc l2272.length c2269 A2268 (rowC E_coin ds2270), Dz D_coin (orB (orB S0 B_leaves_0) B_made_1) w0.heap.size B2271 ds2270 l2272, .own A2581 c2582 (rowC E_coin (ds2275 ++ [(rdx E_coin ds2270 0)])) 69 E_coin.sz, Dz D_coin (orB (orB S0 B_leaves_0) B_made_1) w0.heap.size (orB B2276 B2271) (ds2275 ++ [(rdx E_coin ds2270 0)]) l2578, Dz D_coin (orB (orB S0 B_leaves_0) B_made_1) w0.heap.size B2271 [(rdx E_coin ds2270 0)] [(rdp (Co.leaf 0 0) l2272 0)], .own A2571 c2572 (rowC E_coin [(rdx E_coin ds2270 0)]) 69 E_coin.sz, Dz D_coin (orB (orB S0 B_leaves_0) B_made_1) w0.heap.size B2271 [(rdx E_coin ds2270 0)] [(rdp (Co.leaf 0 0) l2272 0)]] := (((HS2557.backD [8] HS2585 (Pv.backG (Pv.own (Pv.own (Pv.per (HS2585.dz (i := 2) rfl).1 (Pv.per (HS2585.dz (i := 3) rfl).1 Pv.nil)))) (fun b => (fun hb => Or.elim hb (fun hb => Or.elim hb (fun hb => Or.elim hb (fun hb => Or.elim hb (fun hb => Or.elim hb (fun hb => Or.elim hb (fun hb => .inl hb) (fun hb => .inr ⟨_, _, nth_mem (i := 1) rfl, hb⟩)) (fun hb => .inr ⟨_, _, nth_mem (i := 3) rfl, hb⟩)) (fun hb => .inr ⟨_, _, nth_mem (i := 5) rfl, hb⟩)) (fun hb => .inr ⟨_, _, nth_mem (i := 7) rfl, hb⟩)) (fun hb => .inr ⟨_, _, nth_mem (i := 9) rfl, hb⟩)) (fun hb => .inr ⟨_, _, nth_mem (i := 10) rfl, hb⟩))))).sel [0, 1, 2, 3, 4, 5, 6, 7, 11, 13, 10, 12, 14] rfl).dzProv (i := 9) rfl (fun b hb _ => Or.elim hb (fun hb => Or.elim hb (fun hb => Or.elim hb (fun hb => Or.elim hb (fun hb => Or.elim hb (fun hb => Or.elim hb (fun hb => Or.elim hb (fun hb => (HS2557.mine _ (feet_pick_le hb)).elim (hSF _) .inr) (fun hb => (HS2557.dz (i := 1) rfl).1 _ hb)) (fun hb => (HS2557.dz (i := 3) rfl).1 _ hb)) (fun hb => (HS2557.dz (i := 5) rfl).1 _ hb)) (fun hb => (HS2557.dz (i := 7) rfl).1 _ hb)) (fun hb => (HS2557.dz (i := 9) rfl).1 _ hb)) (fun hb => (HS2557.dz (i := 10) rfl).1 _ hb)) (fun h => .inr (Nat.le_trans HS2557.chg.size h)))).dzProv (i := 12) rfl (fun b hb _ => Or.elim hb (fun hb => Or.elim hb (fun hb => Or.elim hb (fun hb => Or.elim hb (fun hb => Or.elim hb (fun hb => Or.elim hb (fun hb => Or.elim hb (fun hb => (HS2557.mine _ (feet_pick_le hb)).elim (hSF _) .inr) (fun hb => (HS2557.dz (i := 1) rfl).1 _ hb)) (fun hb => (HS2557.dz (i := 3) rfl).1 _ hb)) (fun hb => (HS2557.dz (i := 5) rfl).1 _ hb)) (fun hb => (HS2557.dz (i := 7) rfl).1 _ hb)) (fun hb => (HS2557.dz (i := 9) rfl).1 _ hb)) (fun hb => (HS2557.dz (i := 10) rfl).1 _ hb)) (fun h => .inr (Nat.le_trans HS2557.chg.size h)))
                refine T_done (by kernel_rfl) ?_
                have HS2587 : Hp S0 w0 w2576 [.rd A_leaves_0 (rowC E_coin ds_leaves_0), Dz D_coin (orB (orB S0 B_leaves_0) B_made_1) w0.heap.size B_leaves_0 ds_leaves_0 l_leaves_0, .rd A_made_1 (rowC E_coin ds_made_1), Dz D_coin (orB (orB S0 B_leaves_0) B_made_1) w0.heap.size B_made_1 ds_made_1 l_made_1, Rdc l2267.length c2264 A2263 (rowC E_coin ds2265), Dz D_coin (orB (orB S0 B_leaves_0) B_made_1) w0.heap.size B2266 ds2265 l2267, Rdc l2272.length c2269 A2268 (rowC E_coin ds2270), Dz D_coin (orB (orB S0 B_leaves_0) B_made_1) w0.heap.size B2271 ds2270 l2272, .own A2581 c2582 (rowC E_coin (ds2275 ++ [(rdx E_coin ds2270 0)])) 69 E_coin.sz, Dz D_coin (orB (orB S0 B_leaves_0) B_made_1) w0.heap.size (orB B2276 B2271) (ds2275 ++ [(rdx E_coin ds2270 0)]) l2578, Dz D_coin (orB (orB S0 B_leaves_0) B_made_1) w0.heap.size B2271 [(rdx E_coin ds2270 0)] [(rdp (Co.leaf 0 0) l2272 0)], .own A2571 c2572 (rowC E_coin [(rdx E_coin ds2270 0)]) 69 E_coin.sz, Dz D_coin (orB (orB S0 B_leaves_0) B_made_1) w0.heap.size B2271 [(rdx E_coin ds2270 0)] [(rdp (Co.leaf 0 0) l2272 0)], Rdc (l2272.drop (1 : Int).toNat).length (c2269 - (1 : Int).toNat) (frmA A2268 c2269 (1 : Int).toNat E_coin.sz) (rowC E_coin (ds2270.drop (1 : Int).toNat))] := HS2584.rdcSub (i := 6) rfl (Sub.trans (HS2584.cells_rdc (i := 6) rfl).self (sub_frm (l := (1 : Int).toNat) (HS2584.cells_rdc (i := 6) rfl) (dz_cap (HS2584.dze (i := 7) rfl) (HS2584.rdc_cap (i := 6) rfl)))) (drop_cap (HS2584.rdc_cap (i := 6) rfl))
                have HS2589 : Hp S0 w0 w2576 [.rd A_leaves_0 (rowC E_coin ds_leaves_0), Dz D_coin (orB (orB S0 B_leaves_0) B_made_1) w0.heap.size B_leaves_0 ds_leaves_0 l_leaves_0, .rd A_made_1 (rowC E_coin ds_made_1), Dz D_coin (orB (orB S0 B_leaves_0) B_made_1) w0.heap.size B_made_1 ds_made_1 l_made_1, Rdc l2267.length c2264 A2263 (rowC E_coin ds2265), Dz D_coin (orB (orB S0 B_leaves_0) B_made_1) w0.heap.size B2266 ds2265 l2267, Rdc l2272.length c2269 A2268 (rowC E_coin ds2270), Dz D_coin (orB (orB S0 B_leaves_0) B_made_1) w0.heap.size B2271 ds2270 l2272, .own A2581 c2582 (rowC E_coin (ds2275 ++ [(rdx E_coin ds2270 0)])) 69 E_coin.sz, Dz D_coin (orB (orB S0 B_leaves_0) B_made_1) w0.heap.size (orB B2276 B2271) (ds2275 ++ [(rdx E_coin ds2270 0)]) l2578, Dz D_coin (orB (orB S0 B_leaves_0) B_made_1) w0.heap.size B2271 [(rdx E_coin ds2270 0)] [(rdp (Co.leaf 0 0) l2272 0)], .own A2571 c2572 (rowC E_coin [(rdx E_coin ds2270 0)]) 69 E_coin.sz, Dz D_coin (orB (orB S0 B_leaves_0) B_made_1) w0.heap.size B2271 [(rdx E_coin ds2270 0)] [(rdp (Co.leaf 0 0) l2272 0)], Rdc (l2272.drop (1 : Int).toNat).length (c2269 - (1 : Int).toNat) (frmA A2268 c2269 (1 : Int).toNat E_coin.sz) (rowC E_coin (ds2270.drop (1 : Int).toNat)), Dz D_coin (orB (orB S0 B_leaves_0) B_made_1) w0.heap.size B2271 (ds2270.drop (1 : Int).toNat) (l2272.drop (1 : Int).toNat)] := HS2587.dzSub (i := 7) rfl (dz_dropT dz_self (1 : Int).toNat) (dze_drop (1 : Int).toNat (HS2584.dze (i := 7) rfl))
                refine L_nil (fun a ha => hNj2336 a _ ⟨_, _, _, _, _, _, _, _, _, _, _, _, _, _, _, (Option.some.inj H).symm, Is.cons ha (Is.cons ha (Is.cons ha (Is.nil ha) rfl) rfl) rfl, HS2589.sel [0, 1, 2, 3, 4, 5, 13, 14, 8, 9] rfl⟩)
            · obtain ⟨l2464, l2469, l2474, A2460, c2461, ds2462, B2463, A2465, c2466, ds2467, B2468, A2470, c2471, ds2472, B2473, rfl, ha, HS2591⟩ := hR
              refine wpLF_app ?_ ha
              refine L_endB hN2285 ?_
              refine L_nil (fun a ha => hNp2262 _ a _ (Nat.lt_succ_self _) ⟨_, _, _, _, _, _, _, _, _, _, _, _, _, _, _, Is.cons ha (Is.cons ha (Is.cons ha (Is.nil ha) rfl) rfl) rfl, HS2591.sel [0, 1, 2, 3, 4, 5, 6, 7, 8, 9] rfl, H⟩)
        · have H := of_neg H c2284
          refine L_exitB (fun a w h => hOp2262 (.exit 0) a w rfl (hXb1302 a w h)) ?_
          refine L_nil (fun a ha => hNj6 a _ ⟨_, _, _, _, _, (Option.some.inj H).symm, Is.cons ha (Is.nil ha) rfl, HS2279.sel [0, 1, 2, 3, 8, 9] rfl⟩)
  · obtain ⟨l1301, A1297, c1298, ds1299, B1300, ej, ha, HS2593⟩ := hR
    obtain rfl := ej.symm
    refine wpLF_app ?_ ha
    refine L_seq ?_
    refine L_region ?_
    refine F_val rfl rfl rfl (O_move rfl rfl) ?_
    refine F_val rfl rfl rfl (O_assign rfl rfl) ?_
    refine F_nil ?_
    refine L_ret (fun a ha => (post_ret1 ha rfl rfl ?_))
    obtain rfl := Option.some.inj H
    exact ⟨_, _, _, _, rfl, HS2593.sel [4, 5] rfl⟩

/-! function 52: (valise/build.coin).into -/
theorem build_coin_into.aux : ∀ (d : DC) {S0 : Nat → Prop} {w0 : World} {A : Option Addr} {c : Nat} {B : Nat → Prop} {l r : List Int} (HS0 : Hp S0 w0 w0 [.own A c (rowC (Eint .i64) l) 3 (Eint .i64).sz, Dz D_coin anyB 0 B [d] [d.er]]) (h : build_coin_into.f d.er l = some r),
    Calls Try.prog 52 ([.agg (E_coin.enc d).toArray, .slice A l.length c] : List Value).toArray w0 (fun e w => e = .returned (.tuple #[]) ∧ Hp S0 w0 w [.own A c (rowC (Eint .i64) r) 3 (Eint .i64).sz] ∧ r.length = l.length)
  | .leaf x s, S0, w0, A, c, B, l, r, HS0, h => by
    obtain ⟨⟨g1, g2⟩, H⟩ := of_gd h
    refine calls_start Try.func52 rfl rfl ?_
    refine L_seq ?_
    refine L_region ?_
    refine F_box (C := [.int .i64 x, .int .i64 s, .pointer none]) rfl rfl rfl rfl rfl rfl HS0 (fun w1 g3 HS1 => ?_)
    refine F_nil ?_
    refine L_seq ?_
    refine L_seq ?_
    refine L_region ?_
    refine F_val rfl rfl rfl (O_fieldB rfl rfl field69_2) ?_
    refine F_val rfl rfl rfl (O_loadB rfl rfl flat67 (HS1.cells_box (i := 2) rfl) rfl) ?_
    refine F_val rfl rfl rfl (O_peq rfl rfl rfl Try.underlying67) ?_
    refine F_nil ?_
    refine L_cond rfl (fun _ => ?_) (fun hx => by cases hx)
    refine L_seq ?_
    refine L_region ?_
    refine F_val rfl rfl rfl (O_move rfl rfl) ?_
    refine F_val rfl rfl rfl (O_fieldB rfl rfl field69_1) ?_
    refine F_val rfl rfl rfl (O_loadB rfl rfl flat3 (HS1.cells_box (i := 2) rfl) rfl) ?_
    refine F_val rfl rfl rfl (O_idx rfl rfl rfl Try.underlying22 size3 g1 g2 (Cells.isA (HS1.cells_own (i := 0) rfl) (rowC_ne (E := (Eint .i64)) g1 g2 (by decide)))) ?_
    refine F_val rfl rfl rfl (O_loadC rfl rfl flat3 (HS1.cells_own (i := 0) rfl) (int_cell g1 g2)) ?_
    refine F_val rfl rfl rfl (O_add rfl rfl rfl) ?_
    refine F_val rfl rfl rfl (O_idx rfl rfl rfl Try.underlying22 size3 g1 g2 (Cells.isA (HS1.cells_own (i := 0) rfl) (rowC_ne (E := (Eint .i64)) g1 g2 (by decide)))) ?_
    refine F_setE (E := (Eint .i64)) (i := 0) (a := IntKind.i64.wrap (rd l s + 1)) (q := s) rfl rfl rfl rfl rfl rfl size3 HS1 rfl (by decide) g1 g2 rfl (fun w2 HS2 => ?_)
    refine F_nil ?_
    refine L_ret (fun a ha => (post_ret0 ha rfl ?_))
    obtain rfl := Option.some.inj H
    exact ⟨rfl, HS2.sel [0] rfl, by rw [List.length_set]⟩
  | .pack x s g a b, S0, w0, A, c, B, l, r, HS0, h => by
    obtain ⟨l1, h1, h2⟩ := of_bind h
    have hI := HS0.dz (i := 1) rfl
    have hfr := hI.2.2.1 _ (List.mem_singleton.2 rfl)
    have hbl := hI.2.2.2 _ (List.mem_singleton.2 rfl)
    have hdis := HS0.per _ _ (nth_mem (i := 1) rfl)
    have hB := (HS0.ok _ (nth_mem (i := 1) rfl)).2.1
    -- the pair, and the two of it, as pieces of their own
    have HSa := HS0.addPer (B := blk (some ⟨g, 0, none⟩) (E_coin.enc a ++ E_coin.enc b)) (I := Cells (some ⟨g, 0, none⟩) (E_coin.enc a ++ E_coin.enc b)) hfr.1.per (fun k hk => by
      obtain ⟨_, ad, e1, e2⟩ := hk
      cases e1
      exact hdis k (hbl k (.inl e2.symm)))
    have HSb := HSa.addPer (B := B) (I := DzI D_coin anyB 0 B [a] [a.er]) (Dz.mk ⟨fun _ _ => .inl trivial, rfl, fun d hd => by simp only [List.mem_singleton] at hd; subst hd; exact hfr.2.1, fun d hd k hk => by simp only [List.mem_singleton] at hd; subst hd; exact hbl k (.inr (.inl hk))⟩ hB) (fun k hk hf => HSa.per _ _ (nth_mem (i := 1) rfl) k hk hf)
    have HS1 := HSb.addPer (B := B) (I := DzI D_coin anyB 0 B [b] [b.er]) (Dz.mk ⟨fun _ _ => .inl trivial, rfl, fun d hd => by simp only [List.mem_singleton] at hd; subst hd; exact hfr.2.2, fun d hd k hk => by simp only [List.mem_singleton] at hd; subst hd; exact hbl k (.inr (.inr hk))⟩ hB) (fun k hk hf => HSb.per _ _ (nth_mem (i := 1) rfl) k hk hf)
    have HS2 : Hp S0 w0 w0 [.own A c (rowC (Eint .i64) l) 3 (Eint .i64).sz, .rd (some ⟨g, 0, none⟩) (E_coin.enc a ++ E_coin.enc b), Dz D_coin anyB 0 B [a] [a.er], Dz D_coin anyB 0 B [b] [b.er]] := HS1.sel [0, 2, 3, 4] rfl
    refine calls_start Try.func52 rfl rfl ?_
    refine L_seq ?_
    refine L_region ?_
    refine F_box (C := [.int .i64 x, .int .i64 s, .pointer (some ⟨g, 0, none⟩)]) rfl rfl rfl rfl rfl rfl HS2 (fun w1 g3 HS3 => ?_)
    refine F_nil ?_
    refine L_seq ?_
    refine L_seq ?_
    refine L_region ?_
    refine F_val rfl rfl rfl (O_fieldB rfl rfl field69_2) ?_
    refine F_val rfl rfl rfl (O_loadB rfl rfl flat67 (HS3.cells_box (i := 4) rfl) rfl) ?_
    refine F_val rfl rfl rfl (O_peq rfl rfl rfl Try.underlying67) ?_
    refine F_nil ?_
    refine L_cond rfl (fun hx => by cases hx) (fun _ => ?_)
    refine L_skip ?_
    refine L_seq ?_
    refine L_region ?_
    refine F_val rfl rfl rfl (O_fieldB rfl rfl field69_2) ?_
    refine F_val rfl rfl rfl (O_loadB rfl rfl flat67 (HS3.cells_box (i := 4) rfl) rfl) ?_
    refine F_val rfl rfl rfl (O_nilCheck rfl rfl) ?_
    refine F_val rfl rfl rfl (O_idxA rfl rfl rfl Try.underlying99 size69 (by decide) (by decide)) ?_
    refine F_val rfl rfl rfl (O_loadSg [] (E_coin.enc a) (E_coin.enc b) rfl rfl wide69 (HS3.cells_rd (i := 1) rfl) rfl rfl rfl (by decide)) ?_
    refine F_val rfl rfl rfl (O_move rfl rfl) ?_
    refine F_call (xs := [.tmp 18, .tmp 19]) rfl rfl rfl rfl Try.func52 nm52 rfl rfl ((build_coin_into.aux a (HS3.give [0] rfl (Lent.dz HS3 Lent.nil (i := 2) rfl dz_self (HS3.dze (i := 2) rfl))) h1).mono (fun e w hc => ?_))
    obtain ⟨rfl, HSo, hl1⟩ := hc
    refine ⟨.tuple #[], rfl, ?_⟩
    have HS4 : Hp S0 w0 w [.own A c (rowC (Eint .i64) l1) 3 (Eint .i64).sz, .rd (some ⟨g, 0, none⟩) (E_coin.enc a ++ E_coin.enc b), Dz D_coin anyB 0 B [a] [a.er], Dz D_coin anyB 0 B [b] [b.er], .box g3 [.int .i64 x, .int .i64 s, .pointer (some ⟨g, 0, none⟩)] 69] := (HS3.back [0] HSo rfl).sel [5, 1, 2, 3, 4] rfl
    refine F_know (i := 1) rfl (congrArg (fun n => Value.slice A n c) hl1.symm) ?_
    refine F_nil ?_
    refine L_region ?_
    refine F_val rfl rfl rfl (O_fieldB rfl rfl field69_2) ?_
    refine F_val rfl rfl rfl (O_loadB rfl rfl flat67 (HS4.cells_box (i := 4) rfl) rfl) ?_
    refine F_val rfl rfl rfl (O_nilCheck rfl rfl) ?_
    refine F_val rfl rfl rfl (O_idxA rfl rfl rfl Try.underlying99 size69 (by decide) (by decide)) ?_
    refine F_val rfl rfl rfl (O_loadSg (E_coin.enc a) (E_coin.enc b) [] rfl rfl wide69 (HS4.cells_rd (i := 1) rfl) (List.append_nil _).symm rfl rfl (by decide)) ?_
    refine F_val rfl rfl rfl (O_move rfl rfl) ?_
    refine F_call (xs := [.tmp 25, .tmp 26]) rfl rfl rfl rfl Try.func52 nm52 rfl rfl ((build_coin_into.aux b (HS4.give [0] rfl (Lent.dz HS4 Lent.nil (i := 3) rfl dz_self (HS4.dze (i := 3) rfl))) h2).mono (fun e w' hc => ?_))
    obtain ⟨rfl, HSo2, hl2⟩ := hc
    refine ⟨.tuple #[], rfl, ?_⟩
    have HS5 := (HS4.back [0] HSo2 rfl).sel [5] rfl
    refine F_nil ?_
    refine L_nil (fun a ha => post_end0 ha rfl ?_)
    exact ⟨rfl, HS5, hl2.trans hl1⟩
theorem build_coin_into.calls {S0 : Nat → Prop} {w0 : World} {A : Option Addr} {c : Nat} {B : Nat → Prop} {d : DC} {x : Co} {l r : List Int} (HS0 : Hp S0 w0 w0 [.own A c (rowC (Eint .i64) l) 3 (Eint .i64).sz, Dz D_coin anyB 0 B [d] [x]]) (h : build_coin_into.f x l = some r) :
    Calls Try.prog 52 ([.agg (E_coin.enc d).toArray, .slice A l.length c] : List Value).toArray w0 (fun e w => e = .returned (.tuple #[]) ∧ Hp S0 w0 w [.own A c (rowC (Eint .i64) r) 3 (Eint .i64).sz] ∧ r.length = l.length) := by
  have e : d.er = x := one_er (HS0.dz (i := 1) rfl).2.1
  subst e
  exact build_coin_into.aux d HS0 h

/-! function 28: valise/build.Limited -/
theorem build_Limited.calls {S0 : Nat → Prop} {w0 : World} {A_freq_0 : Option Addr} {c_freq_0 : Nat} {l_freq_0 : List Int} {limit_1 : Int} {r : List Int × Int} (HS0 : Hp S0 w0 w0 [.rd A_freq_0 (rowC (Eint .i64) l_freq_0)]) (hc_freq_0 : l_freq_0.length ≤ c_freq_0) (h : build_Limited.f l_freq_0 limit_1 = some r) :
    Calls Try.prog 28 ([.slice A_freq_0 l_freq_0.length c_freq_0, .int .i64 limit_1] : List Value).toArray w0 (fun e w => ∃ (A1 : Option Addr), ∃ (c1 : Nat), e = .returned (.tuple #[.slice A1 r.1.length c1, .int .i64 r.2]) ∧ Hp S0 w0 w [.own A1 c1 (rowC (Eint .i64) r.1) 3 (Eint .i64).sz]) := by
  have H : ((if (limit_1 < 1) ∨ (15 < limit_1) then (some (([] : List Int), 1)) else ((build_used.f l_freq_0).bind fun (z16, z17) => if z17 ≠ 0 then (some (([] : List Int), z17)) else (gd (¬ (IntKind.u64.wrap limit_1) < 0) (if shl .i64 1 (IntKind.u64.wrap limit_1) < (z16.length : Int) then (some (([] : List Int), 60)) else (if (z16.length : Int) < 2 then ((build_few.f (l_freq_0.length : Int) z16).bind fun z37 => some (z37, 0)) else ((slices_Clone_int_int.f z16).bind fun z47 => (slices_SortStableFunc_int_int_cbuild_Limited_1.f z47 l_freq_0).bind fun z57 => (build_Limited.l1 FU ([] : List Co) 0 l_freq_0 z57).bind fun l164 => (build_Limited.l3 FU l164 0 limit_1 l164).bind fun l406 => gd ((0 : Int) ≤ (l_freq_0.length : Int) ∧ (l_freq_0.length : Int) * 8 ≤ 281474976710656) (bnd (List.replicate ((l_freq_0.length : Int) : Int).toNat (0 : Int)) fun l554 => gd ((0 : Int) ≤ (IntKind.i64.wrap ((IntKind.i64.wrap (2 * (z16.length : Int))) - 2)) ∧ (IntKind.i64.wrap ((IntKind.i64.wrap (2 * (z16.length : Int))) - 2)) ≤ (l406.length : Int)) ((build_Limited.l5 FU l554 0 z16 l406).bind fun l636 => some (l636, 0))))))))) : Option (List Int × Int)) = some r := h
  refine calls_start Try.func28 rfl rfl ?_
  have hSF : ∀ b, S0 b → S0 b ∨ w0.heap.size ≤ b := (fun b hb => .inl hb)
  refine L_seq ?_
  refine L_region ?_
  refine F_box (C := [.slice A_freq_0 l_freq_0.length c_freq_0]) rfl rfl rfl rfl rfl rfl HS0 (fun w1 g3 HS2 => ?_)
  have HS2 : Hp S0 w0 w1 [.rd A_freq_0 (rowC (Eint .i64) l_freq_0), .box g3 [.slice A_freq_0 l_freq_0.length c_freq_0] 22] := HS2
  refine F_val rfl rfl rfl (O_assign rfl rfl) ?_
  refine F_val rfl rfl rfl (O_assign rfl rfl) ?_
  refine F_nil ?_
  refine L_seq ?_
  refine L_seq ?_
  refine L_region ?_
  refine F_val rfl rfl rfl (O_move rfl rfl) ?_
  refine F_val rfl rfl rfl (O_lt rfl rfl rfl) ?_
  refine F_val rfl rfl rfl (O_move rfl rfl) ?_
  refine F_grp 3 [(21, .bool (decide ((limit_1 < 1) ∨ (15 < limit_1)))), (1, .int .i64 limit_1), (2, .pointer (some ⟨g3, 0, none⟩))] ?_ ?_
  · rcases Decidable.em (limit_1 < 1) with c8 | c8
    · refine F_know (i := 18) rfl (dec_t c8) ?_
      refine F_gskip rfl rfl rfl rfl rfl rfl rfl ?_
      refine F_gskip rfl rfl rfl rfl rfl rfl rfl ?_
      refine F_val rfl rfl rfl (O_pickT rfl rfl rfl) ?_
      refine F_know (i := 21) rfl (dec_or_t (q := 15 < limit_1) c8) ?_
      exact F_grpE (fun a ha => Is.cons ha (Is.cons ha (Is.cons ha (Is.nil ha) rfl) rfl) rfl)
    · refine F_know (i := 18) rfl (dec_f c8) ?_
      refine F_gval rfl rfl rfl rfl rfl rfl (O_move rfl rfl) ?_
      refine F_gval rfl rfl rfl rfl rfl rfl (O_gt rfl rfl rfl) ?_
      refine F_val rfl rfl rfl (O_pickF rfl rfl rfl) ?_
      refine F_know (i := 21) rfl (dec_or_f (q := 15 < limit_1) c8) ?_
      exact F_grpE (fun a ha => Is.cons ha (Is.cons ha (Is.cons ha (Is.nil ha) rfl) rfl) rfl)
  · skip
    refine F_nil ?_
    refine L_condP rfl (fun c9 => ?_) (fun c9 => ?_)
    · have H := of_pos H c9
      refine L_seq ?_
      refine L_region ?_
      refine F_val rfl rfl rfl (O_assign rfl rfl) ?_
      refine F_val rfl rfl rfl (O_assign rfl rfl) ?_
      refine F_nil ?_
      have HS10 := HS2.addNil 3 (Eint .i64).sz
      refine L_ret (fun a ha => (post_ret2 ha rfl rfl rfl ?_))
      obtain rfl := Option.some.inj H
      exact ⟨_, _, rfl, HS10.sel [2] rfl⟩
    · have H := of_neg H c9
      refine L_skip ?_
      refine L_seq ?_
      refine L_region ?_
      refine F_val rfl rfl rfl (O_loadB rfl rfl flat22 (HS2.cells_box (i := 1) rfl) rfl) ?_
      obtain ⟨⟨z16, z17⟩, h15, H⟩ := of_bind H
      refine F_call (xs := [.tmp 23]) rfl rfl rfl rfl Try.func35 nm35 rfl rfl ((build_used.calls (HS2.give [] rfl (Lent.rd HS2 (Lent.nil) (i := 0) rfl ((HS2.cells_rd (i := 0) rfl).self))) hc_freq_0 h15).mono (fun e w hc => ?_))
      obtain ⟨A20, c21, rfl, HSo⟩ := hc
      refine ⟨.tuple #[.slice A20 z16.length c21, .int .i64 z17], rfl, ?_⟩
      have HS19 : Hp S0 w0 w [.rd A_freq_0 (rowC (Eint .i64) l_freq_0), .box g3 [.slice A_freq_0 l_freq_0.length c_freq_0] 22, .own A20 c21 (rowC (Eint .i64) z16) 3 (Eint .i64).sz] := (HS2.back [] HSo rfl).sel [0, 1, 2] rfl
      refine F_val rfl rfl rfl (O_move rfl rfl) ?_
      refine F_val rfl rfl rfl (O_extract (v := .slice A20 z16.length c21) rfl rfl rfl) ?_
      refine F_val rfl rfl rfl (O_extract (v := .int .i64 z17) rfl rfl rfl) ?_
      refine F_val rfl rfl rfl (O_assign rfl rfl) ?_
      refine F_val rfl rfl rfl (O_assign rfl rfl) ?_
      refine F_nil ?_
      refine L_seq ?_
      refine L_seq ?_
      refine L_region ?_
      refine F_val rfl rfl rfl (O_move rfl rfl) ?_
      refine F_val rfl rfl rfl (O_ne rfl rfl rfl) ?_
      refine F_nil ?_
      refine L_condP rfl (fun c23 => ?_) (fun c23 => ?_)
      · have H := of_pos H c23
        refine L_seq ?_
        have HS24 : Hp S0 w0 w [.rd A_freq_0 (rowC (Eint .i64) l_freq_0)] := HS19.sel [0] rfl
        refine L_region ?_
        refine F_val rfl rfl rfl (O_move rfl rfl) ?_
        refine F_val rfl rfl rfl (O_assign rfl rfl) ?_
        refine F_val rfl rfl rfl (O_assign rfl rfl) ?_
        refine F_nil ?_
        have HS25 := HS24.addNil 3 (Eint .i64).sz
        refine L_ret (fun a ha => (post_ret2 ha rfl rfl rfl ?_))
        obtain rfl := Option.some.inj H
        exact ⟨_, _, rfl, HS25.sel [1] rfl⟩
      · have H := of_neg H c23
        refine L_skip ?_
        refine L_seq ?_
        refine L_seq ?_
        refine L_region ?_
        refine F_val rfl rfl rfl (O_move rfl rfl) ?_
        refine F_val rfl rfl rfl (O_len rfl rfl Try.underlying22) ?_
        refine F_val rfl rfl rfl (O_move rfl rfl) ?_
        refine F_val rfl rfl rfl (O_conv rfl rfl ⟨_, Try.underlying3⟩ Try.underlying43) ?_
        obtain ⟨g27, H⟩ := of_gd H
        refine F_val rfl rfl rfl (O_shl rfl rfl rfl g27) ?_
        refine F_val rfl rfl rfl (O_gt rfl rfl rfl) ?_
        refine F_nil ?_
        refine L_condP rfl (fun c28 => ?_) (fun c28 => ?_)
        · have H := of_pos H c28
          refine L_seq ?_
          have HS29 : Hp S0 w0 w [.rd A_freq_0 (rowC (Eint .i64) l_freq_0)] := HS19.sel [0] rfl
          refine L_region ?_
          refine F_val rfl rfl rfl (O_assign rfl rfl) ?_
          refine F_val rfl rfl rfl (O_assign rfl rfl) ?_
          refine F_nil ?_
          have HS30 := HS29.addNil 3 (Eint .i64).sz
          refine L_ret (fun a ha => (post_ret2 ha rfl rfl rfl ?_))
          obtain rfl := Option.some.inj H
          exact ⟨_, _, rfl, HS30.sel [1] rfl⟩
        · have H := of_neg H c28
          refine L_skip ?_
          refine L_seq ?_
          refine L_seq ?_
          refine L_region ?_
          refine F_val rfl rfl rfl (O_move rfl rfl) ?_
          refine F_val rfl rfl rfl (O_len rfl rfl Try.underlying22) ?_
          refine F_val rfl rfl rfl (O_lt rfl rfl rfl) ?_
          refine F_nil ?_
          refine L_condP rfl (fun c32 => ?_) (fun c32 => ?_)
          · have H := of_pos H c32
            refine L_seq ?_
            refine L_region ?_
            refine F_val rfl rfl rfl (O_loadB rfl rfl flat22 (HS19.cells_box (i := 1) rfl) rfl) ?_
            refine F_val rfl rfl rfl (O_len rfl rfl Try.underlying22) ?_
            refine F_val rfl rfl rfl (O_move rfl rfl) ?_
            obtain ⟨z37, h36, H⟩ := of_bind H
            refine F_call (xs := [.tmp 40, .tmp 41]) rfl rfl rfl rfl Try.func37 nm37 rfl rfl ((build_few.calls (HS19.give [] rfl (Lent.own HS19 (Lent.nil) (i := 2) rfl rfl ((HS19.cells_own (i := 2) rfl).self))) (HS19.own_capE (i := 2) rfl (by decide)) h36).mono (fun e w hc => ?_))
            obtain ⟨A40, c41, rfl, HSo⟩ := hc
            refine ⟨.slice A40 z37.length c41, rfl, ?_⟩
            have HS39 : Hp S0 w0 w [.rd A_freq_0 (rowC (Eint .i64) l_freq_0), .box g3 [.slice A_freq_0 l_freq_0.length c_freq_0] 22, .own A20 c21 (rowC (Eint .i64) z16) 3 (Eint .i64).sz, .own A40 c41 (rowC (Eint .i64) z37) 3 (Eint .i64).sz] := (HS19.back [] HSo rfl).sel [0, 1, 2, 3] rfl
            refine F_val rfl rfl rfl (O_assign rfl rfl) ?_
            refine F_val rfl rfl rfl (O_assign rfl rfl) ?_
            refine F_nil ?_
            refine L_ret (fun a ha => (post_ret2 ha rfl rfl rfl ?_))
            obtain rfl := Option.some.inj H
            exact ⟨_, _, rfl, HS39.sel [3] rfl⟩
          · have H := of_neg H c32
            refine L_skip ?_
            refine L_seq ?_
            refine L_region ?_
            refine F_val rfl rfl rfl (O_move rfl rfl) ?_
            obtain ⟨z47, h46, H⟩ := of_bind H
            refine F_call (xs := [.tmp 43]) rfl rfl rfl rfl Try.func46 nm46 rfl rfl ((slices_Clone_int_int.calls (HS19.give [] rfl (Lent.own HS19 (Lent.nil) (i := 2) rfl rfl ((HS19.cells_own (i := 2) rfl).self))) (HS19.own_capE (i := 2) rfl (by decide)) h46).mono (fun e w hc => ?_))
            obtain ⟨A50, c51, rfl, HSo⟩ := hc
            refine ⟨.slice A50 z47.length c51, rfl, ?_⟩
            have HS49 : Hp S0 w0 w [.rd A_freq_0 (rowC (Eint .i64) l_freq_0), .box g3 [.slice A_freq_0 l_freq_0.length c_freq_0] 22, .own A20 c21 (rowC (Eint .i64) z16) 3 (Eint .i64).sz, .own A50 c51 (rowC (Eint .i64) z47) 3 (Eint .i64).sz] := (HS19.back [] HSo rfl).sel [0, 1, 2, 3] rfl
            refine F_val rfl rfl rfl (O_assign rfl rfl) ?_
            refine F_nil ?_
            refine L_seq ?_
            refine L_region ?_
            refine F_val rfl rfl rfl (O_move rfl rfl) ?_
            refine F_val rfl rfl rfl (O_makeFunc (cs := [.tmp 2]) rfl rfl) ?_
            obtain ⟨z57, h56, H⟩ := of_bind H
            refine F_call (xs := [.tmp 45, .tmp 46]) rfl rfl rfl rfl Try.func47 nm47 rfl rfl ((slices_SortStableFunc_int_int_cbuild_Limited_1.calls (HS49.give [3] rfl (Lent.box HS49 (Lent.rd HS49 (Lent.nil) (i := 0) rfl ((HS49.cells_rd (i := 0) rfl).self)) (i := 1) rfl rfl (HS49.cells_box (i := 1) rfl).self)) hc_freq_0 h56).mono (fun e w hc => ?_))
            obtain ⟨rfl, HSo, hl60⟩ := hc
            refine ⟨.tuple #[], rfl, ?_⟩
            have HS59 : Hp S0 w0 w [.rd A_freq_0 (rowC (Eint .i64) l_freq_0), .box g3 [.slice A_freq_0 l_freq_0.length c_freq_0] 22, .own A20 c21 (rowC (Eint .i64) z16) 3 (Eint .i64).sz, .own A50 c51 (rowC (Eint .i64) z57) 3 (Eint .i64).sz] := (HS49.back [3] HSo rfl).sel [0, 1, 2, 4] rfl
            have e61 : z47.length = z57.length := hl60.symm
            refine F_know (i := 8) rfl (congrArg (fun n => Value.slice A50 n c51) e61) ?_
            refine F_nil ?_
            refine L_seq ?_
            refine L_region ?_
            refine F_val rfl rfl rfl (O_assign rfl rfl) ?_
            have HS62 := (HS59.addNil 69 E_coin.sz).dzNil D_coin S0 w0.heap.size
            have HS62 : Hp S0 w0 w [.rd A_freq_0 (rowC (Eint .i64) l_freq_0), .box g3 [.slice A_freq_0 l_freq_0.length c_freq_0] 22, .own A20 c21 (rowC (Eint .i64) z16) 3 (Eint .i64).sz, .own A50 c51 (rowC (Eint .i64) z57) 3 (Eint .i64).sz, .own none 0 (rowC E_coin ([] : List DC)) 69 E_coin.sz, Dz D_coin S0 w0.heap.size NoB ([] : List DC) ([] : List Co)] := HS62
            refine F_nil ?_
            refine L_seq ?_
            refine L_seq ?_
            refine L_region ?_
            refine F_val rfl rfl rfl (O_move rfl rfl) ?_
            refine F_val rfl rfl rfl (O_len rfl rfl Try.underlying22) ?_
            refine F_val rfl rfl rfl (O_move rfl rfl) ?_
            refine F_nil ?_
            obtain ⟨yj65, Hyj65, H⟩ := of_bind H
            refine L_join (fun a w => ∃ (l164 : List Co), ∃ (A160 : Option Addr), ∃ (c161 : Nat), ∃ (ds162 : List DC), ∃ (B163 : Nat → Prop), yj65 = l164 ∧ Is Try.f28.ntmps a [(1, .int .i64 limit_1), (2, .pointer (some ⟨g3, 0, none⟩)), (6, .slice A20 z16.length c21), (9, .slice A160 l164.length c161)] ∧ Hp S0 w0 w [.rd A_freq_0 (rowC (Eint .i64) l_freq_0), .box g3 [.slice A_freq_0 l_freq_0.length c_freq_0] 22, .own A20 c21 (rowC (Eint .i64) z16) 3 (Eint .i64).sz, .own A160 c161 (rowC E_coin ds162) 69 E_coin.sz, Dz D_coin S0 w0.heap.size B163 ds162 l164]) (fun Qj65 hNj65 hOj65 => ?_) (fun a w hR => ?_)
            · skip
              have H := Hyj65
              refine L_blk (fun Qb165 hNb165 hXb165 hOb165 => ?_)
              refine L_lp (fun k a w => ∃ (l229 : List Co), ∃ (t230 : Int), ∃ (A225 : Option Addr), ∃ (c226 : Nat), ∃ (ds227 : List DC), ∃ (B228 : Nat → Prop), Is Try.f28.ntmps a [(1, .int .i64 limit_1), (2, .pointer (some ⟨g3, 0, none⟩)), (6, .slice A20 z16.length c21), (9, .slice A225 l229.length c226), (48, .slice A50 z57.length c51), (49, .int .i64 (z57.length : Int)), (50, .int .i64 t230)] ∧ Hp S0 w0 w [.rd A_freq_0 (rowC (Eint .i64) l_freq_0), .box g3 [.slice A_freq_0 l_freq_0.length c_freq_0] 22, .own A20 c21 (rowC (Eint .i64) z16) 3 (Eint .i64).sz, .own A225 c226 (rowC E_coin ds227) 69 E_coin.sz, Dz D_coin S0 w0.heap.size B228 ds227 l229, .own A50 c51 (rowC (Eint .i64) z57) 3 (Eint .i64).sz] ∧ build_Limited.l1 k l229 t230 l_freq_0 z57 = some yj65) FU (fun a ha => ⟨_, _, _, _, _, _, Is.cons ha (Is.cons ha (Is.cons ha (Is.cons ha (Is.cons ha (Is.cons ha (Is.cons ha (Is.nil ha) rfl) rfl) rfl) rfl) rfl) rfl) rfl, HS62.sel [0, 1, 2, 4, 5, 3] rfl, H⟩) (fun kp224 a w231 hI Qp224 hNp224 hOp224 => ?_)
              obtain ⟨l229, t230, A225, c226, ds227, B228, ha, HS232, HAp224⟩ := hI
              cases kp224 with
              | zero => cases (show (none : Option _) = some _ from HAp224)
              | succ kp224 =>
                have H := (build_Limited.l1.eq_2 ..).symm.trans HAp224
                refine wpLF_app ?_ ha
                refine L_seq ?_
                refine L_region ?_
                refine F_val rfl rfl rfl (O_lt rfl rfl rfl) ?_
                refine F_nil ?_
                refine L_seq ?_
                refine L_condP rfl (fun c233 => ?_) (fun c233 => ?_)
                · have H := of_pos H c233
                  refine L_skip ?_
                  refine L_seq ?_
                  refine L_blk (fun Q234 hN234 hX234 hO234 => ?_)
                  refine L_seq ?_
                  refine L_region ?_
                  obtain ⟨⟨g235, g236⟩, H⟩ := of_gd H
                  refine F_val rfl rfl rfl (O_idx rfl rfl rfl Try.underlying22 size3 g235 g236 (Cells.isA (HS232.cells_own (i := 5) rfl) (rowC_ne (E := (Eint .i64)) g235 g236 (by decide)))) ?_
                  refine F_val rfl rfl rfl (O_loadC rfl rfl flat3 (HS232.cells_own (i := 5) rfl) (int_cell g235 g236)) ?_
                  obtain ⟨x237, h238, H⟩ := of_bnd H
                  refine F_val rfl rfl rfl (O_assign' rfl rfl (congrArg (Value.int .i64) h238)) ?_
                  refine F_nil ?_
                  refine L_region ?_
                  refine F_val rfl rfl rfl (O_move rfl rfl) ?_
                  refine F_val rfl rfl rfl (O_loadB rfl rfl flat22 (HS232.cells_box (i := 1) rfl) rfl) ?_
                  refine F_val rfl rfl rfl (O_move rfl rfl) ?_
                  obtain ⟨⟨g239, g240⟩, H⟩ := of_gd H
                  refine F_val rfl rfl rfl (O_idx rfl rfl rfl Try.underlying22 size3 g239 g240 (Cells.isA (HS232.cells_rd (i := 0) rfl) (rowC_ne (E := (Eint .i64)) g239 g240 (by decide)))) ?_
                  refine F_val rfl rfl rfl (O_loadC rfl rfl flat3 (HS232.cells_rd (i := 0) rfl) (int_cell g239 g240)) ?_
                  refine F_val rfl rfl rfl (O_move rfl rfl) ?_
                  refine F_val rfl rfl rfl (O_build (vs := [(0, .int .i64 (rd l_freq_0 x237)), (1, .int .i64 x237)]) (v := .agg #[.int .i64 (rd l_freq_0 x237), .int .i64 x237, .pointer none]) rfl rfl rfl (fun w => by kernel_rfl)) ?_
                  have HS244 : Hp S0 w0 w231 [.rd A_freq_0 (rowC (Eint .i64) l_freq_0), .box g3 [.slice A_freq_0 l_freq_0.length c_freq_0] 22, .own A20 c21 (rowC (Eint .i64) z16) 3 (Eint .i64).sz, .own A225 c226 (rowC E_coin ds227) 69 E_coin.sz, Dz D_coin S0 w0.heap.size B228 ds227 l229, .own A50 c51 (rowC (Eint .i64) z57) 3 (Eint .i64).sz, Dz D_coin S0 w0.heap.size NoB [(DC.leaf (rd l_freq_0 x237) x237)] [(Co.leaf (rd l_freq_0 x237) x237)]] := HS232.coLeaf S0 w0.heap.size (rd l_freq_0 x237) x237
                  refine F_litE (E := E_coin) (e := 69) [(0, .agg #[.int .i64 (rd l_freq_0 x237), .int .i64 x237, .pointer none])] [(DC.leaf (rd l_freq_0 x237) x237)] rfl rfl rfl rfl rfl rfl rfl (by decide) (fun w => by kernel_rfl) HS244 (fun w241 A245 c246 HS242 => ?_)
                  have HS242 : Hp S0 w0 w241 [.rd A_freq_0 (rowC (Eint .i64) l_freq_0), .box g3 [.slice A_freq_0 l_freq_0.length c_freq_0] 22, .own A20 c21 (rowC (Eint .i64) z16) 3 (Eint .i64).sz, .own A225 c226 (rowC E_coin ds227) 69 E_coin.sz, Dz D_coin S0 w0.heap.size B228 ds227 l229, .own A50 c51 (rowC (Eint .i64) z57) 3 (Eint .i64).sz, Dz D_coin S0 w0.heap.size NoB [(DC.leaf (rd l_freq_0 x237) x237)] [(Co.leaf (rd l_freq_0 x237) x237)], .own A245 c246 (rowC E_coin [(DC.leaf (rd l_freq_0 x237) x237)]) 69 E_coin.sz] := HS242
                  have HS249 : Hp S0 w0 w241 [.rd A_freq_0 (rowC (Eint .i64) l_freq_0), .box g3 [.slice A_freq_0 l_freq_0.length c_freq_0] 22, .own A20 c21 (rowC (Eint .i64) z16) 3 (Eint .i64).sz, .own A225 c226 (rowC E_coin ds227) 69 E_coin.sz, Dz D_coin S0 w0.heap.size B228 ds227 l229, .own A50 c51 (rowC (Eint .i64) z57) 3 (Eint .i64).sz, Dz D_coin S0 w0.heap.size NoB [(DC.leaf (rd l_freq_0 x237) x237)] [(Co.leaf (rd l_freq_0 x237) x237)], .own A245 c246 (rowC E_coin [(DC.leaf (rd l_freq_0 x237) x237)]) 69 E_coin.sz, Dz D_coin S0 w0.heap.size NoB [(DC.leaf (rd l_freq_0 x237) x237)] [(Co.leaf (rd l_freq_0 x237) x237)]] := HS242.dzSub (i := 6) rfl dz_self (HS242.dze (i := 6) rfl)
                  obtain ⟨l252, h253, H⟩ := of_bnd H
                  obtain ⟨g254, H⟩ := of_gd H
                  refine F_appD (D := D_coin) (ds := ds227) (ds' := [(DC.leaf (rd l_freq_0 x237) x237)]) (xs := l229) (ys := [(Co.leaf (rd l_freq_0 x237) x237)]) (i := 3) rfl rfl rfl rfl Try.underlying66 info69 rfl (by decide) (by decide) rfl rfl HS249 rfl (HS249.dze (i := 4) rfl) (HS249.dze (i := 8) rfl) (HS249.cells_own (i := 7) rfl) h253 g254 (fun w250 A255 c256 HS251 => ?_)
                  have HS251 : Hp S0 w0 w250 [.rd A_freq_0 (rowC (Eint .i64) l_freq_0), .box g3 [.slice A_freq_0 l_freq_0.length c_freq_0] 22, .own A20 c21 (rowC (Eint .i64) z16) 3 (Eint .i64).sz, .own A255 c256 (rowC E_coin (ds227 ++ [(DC.leaf (rd l_freq_0 x237) x237)])) 69 E_coin.sz, Dz D_coin S0 w0.heap.size B228 ds227 l229, .own A50 c51 (rowC (Eint .i64) z57) 3 (Eint .i64).sz, Dz D_coin S0 w0.heap.size NoB [(DC.leaf (rd l_freq_0 x237) x237)] [(Co.leaf (rd l_freq_0 x237) x237)], .own A245 c246 (rowC E_coin [(DC.leaf (rd l_freq_0 x237) x237)]) 69 E_coin.sz, Dz D_coin S0 w0.heap.size NoB [(DC.leaf (rd l_freq_0 x237) x237)] [(Co.leaf (rd l_freq_0 x237) x237)]] := HS251
                  have HS257 : Hp S0 w0 w250 [.rd A_freq_0 (rowC (Eint .i64) l_freq_0), .box g3 [.slice A_freq_0 l_freq_0.length c_freq_0] 22, .own A20 c21 (rowC (Eint .i64) z16) 3 (Eint .i64).sz, .own A255 c256 (rowC E_coin (ds227 ++ [(DC.leaf (rd l_freq_0 x237) x237)])) 69 E_coin.sz, Dz D_coin S0 w0.heap.size (orB B228 NoB) (ds227 ++ [(DC.leaf (rd l_freq_0 x237) x237)]) l252, .own A50 c51 (rowC (Eint .i64) z57) 3 (Eint .i64).sz, Dz D_coin S0 w0.heap.size NoB [(DC.leaf (rd l_freq_0 x237) x237)] [(Co.leaf (rd l_freq_0 x237) x237)], .own A245 c246 (rowC E_coin [(DC.leaf (rd l_freq_0 x237) x237)]) 69 E_coin.sz, Dz D_coin S0 w0.heap.size NoB [(DC.leaf (rd l_freq_0 x237) x237)] [(Co.leaf (rd l_freq_0 x237) x237)]] := HS251.dzApp (i := 4) (j := 8) rfl rfl h253
                  refine F_val rfl rfl rfl (O_assign rfl rfl) ?_
                  refine F_nil ?_
                  refine L_endB hN234 ?_
                  have HS258 : Hp S0 w0 w250 [.rd A_freq_0 (rowC (Eint .i64) l_freq_0), .box g3 [.slice A_freq_0 l_freq_0.length c_freq_0] 22, .own A20 c21 (rowC (Eint .i64) z16) 3 (Eint .i64).sz, .own A255 c256 (rowC E_coin (ds227 ++ [(DC.leaf (rd l_freq_0 x237) x237)])) 69 E_coin.sz, Dz D_coin S0 w0.heap.size (orB B228 NoB) (ds227 ++ [(DC.leaf (rd l_freq_0 x237) x237)]) l252, .own A50 c51 (rowC (Eint .i64) z57) 3 (Eint .i64).sz] := HS257.sel [0, 1, 2, 3, 4, 5] rfl
                  refine L_region ?_
                  refine F_val rfl rfl rfl (O_add rfl rfl rfl) ?_
                  refine F_val rfl rfl rfl (O_move rfl rfl) ?_
                  refine F_nil ?_
                  refine L_nil (fun a ha => hNp224 _ a _ (Nat.lt_succ_self _) ⟨_, _, _, _, _, _, Is.cons ha (Is.cons ha (Is.cons ha (Is.cons ha (Is.cons ha (Is.cons ha (Is.cons ha (Is.nil ha) rfl) rfl) rfl) rfl) rfl) rfl) rfl, HS258.sel [0, 1, 2, 3, 4, 5] rfl, H⟩)
                · have H := of_neg H c233
                  refine L_exitB (fun a w h => hOp224 (.exit 0) a w rfl (hXb165 a w h)) ?_
                  refine L_nil (fun a ha => hNj65 a _ ⟨_, _, _, _, _, (Option.some.inj H).symm, Is.cons ha (Is.cons ha (Is.cons ha (Is.cons ha (Is.nil ha) rfl) rfl) rfl) rfl, HS232.sel [0, 1, 2, 3, 4] rfl⟩)
            · obtain ⟨l164, A160, c161, ds162, B163, ej, ha, HS260⟩ := hR
              obtain rfl := ej.symm
              refine wpLF_app ?_ ha
              refine L_seq ?_
              refine L_region ?_
              refine F_val rfl rfl rfl (O_move rfl rfl) ?_
              refine F_val rfl rfl rfl (O_assign rfl rfl) ?_
              refine F_nil ?_
              refine L_seq ?_
              refine L_seq ?_
              refine L_region ?_
              refine F_val rfl rfl rfl (O_move rfl rfl) ?_
              refine F_val rfl rfl rfl (O_sub rfl rfl rfl) ?_
              refine F_val rfl rfl rfl (O_move rfl rfl) ?_
              refine F_nil ?_
              obtain ⟨yj261, Hyj261, H⟩ := of_bind H
              refine L_join (fun a w => ∃ (l406 : List Co), ∃ (A402 : Option Addr), ∃ (c403 : Nat), ∃ (ds404 : List DC), ∃ (B405 : Nat → Prop), yj261 = l406 ∧ Is Try.f28.ntmps a [(2, .pointer (some ⟨g3, 0, none⟩)), (6, .slice A20 z16.length c21), (12, .slice A402 l406.length c403)] ∧ Hp S0 w0 w [.rd A_freq_0 (rowC (Eint .i64) l_freq_0), .box g3 [.slice A_freq_0 l_freq_0.length c_freq_0] 22, .own A20 c21 (rowC (Eint .i64) z16) 3 (Eint .i64).sz, Rdc l406.length c403 A402 (rowC E_coin ds404), Dz D_coin S0 w0.heap.size B405 ds404 l406]) (fun Qj261 hNj261 hOj261 => ?_) (fun a w hR => ?_)
              · skip
                have H := Hyj261
                refine L_blk (fun Qb407 hNb407 hXb407 hOb407 => ?_)
                have HS438 : Hp S0 w0 w [.rd A_freq_0 (rowC (Eint .i64) l_freq_0), .box g3 [.slice A_freq_0 l_freq_0.length c_freq_0] 22, .own A20 c21 (rowC (Eint .i64) z16) 3 (Eint .i64).sz, Rdc l164.length c161 A160 (rowC E_coin ds162), Dz D_coin S0 w0.heap.size B163 ds162 l164] := HS260.ownRdc (i := 3) rfl (dz_capx (HS260.dze (i := 4) rfl) (HS260.own_capE (i := 3) rfl (by decide)))
                have HS440 : Hp S0 w0 w [.rd A_freq_0 (rowC (Eint .i64) l_freq_0), .box g3 [.slice A_freq_0 l_freq_0.length c_freq_0] 22, .own A20 c21 (rowC (Eint .i64) z16) 3 (Eint .i64).sz, Rdc l164.length c161 A160 (rowC E_coin ds162), Dz D_coin S0 w0.heap.size B163 ds162 l164, Rdc l164.length c161 A160 (rowC E_coin ds162)] := HS438.rdcSub (i := 3) rfl ((HS438.cells_rdc (i := 3) rfl).self) (HS438.rdc_cap (i := 3) rfl)
                have HS442 : Hp S0 w0 w [.rd A_freq_0 (rowC (Eint .i64) l_freq_0), .box g3 [.slice A_freq_0 l_freq_0.length c_freq_0] 22, .own A20 c21 (rowC (Eint .i64) z16) 3 (Eint .i64).sz, Rdc l164.length c161 A160 (rowC E_coin ds162), Dz D_coin S0 w0.heap.size B163 ds162 l164, Rdc l164.length c161 A160 (rowC E_coin ds162), Dz D_coin S0 w0.heap.size B163 ds162 l164] := HS440.dzSub (i := 4) rfl dz_self (HS438.dze (i := 4) rfl)
                refine L_lp (fun k a w => ∃ (l514 : List Co), ∃ (t515 : Int), ∃ (A510 : Option Addr), ∃ (c511 : Nat), ∃ (ds512 : List DC), ∃ (B513 : Nat → Prop), Is Try.f28.ntmps a [(2, .pointer (some ⟨g3, 0, none⟩)), (6, .slice A20 z16.length c21), (9, .slice A160 l164.length c161), (12, .slice A510 l514.length c511), (66, .int .i64 (IntKind.i64.wrap (limit_1 - 1))), (67, .int .i64 t515)] ∧ Hp S0 w0 w [.rd A_freq_0 (rowC (Eint .i64) l_freq_0), .box g3 [.slice A_freq_0 l_freq_0.length c_freq_0] 22, .own A20 c21 (rowC (Eint .i64) z16) 3 (Eint .i64).sz, Rdc l164.length c161 A160 (rowC E_coin ds162), Dz D_coin S0 w0.heap.size B163 ds162 l164, Rdc l514.length c511 A510 (rowC E_coin ds512), Dz D_coin S0 w0.heap.size B513 ds512 l514] ∧ build_Limited.l3 k l514 t515 limit_1 l164 = some yj261) FU (fun a ha => ⟨_, _, _, _, _, _, Is.cons ha (Is.cons ha (Is.cons ha (Is.cons ha (Is.cons ha (Is.cons ha (Is.nil ha) rfl) rfl) rfl) rfl) rfl) rfl, HS442.sel [0, 1, 2, 3, 4, 5, 6] rfl, H⟩) (fun kp509 a w516 hI Qp509 hNp509 hOp509 => ?_)
                obtain ⟨l514, t515, A510, c511, ds512, B513, ha, HS517, HAp509⟩ := hI
                cases kp509 with
                | zero => cases (show (none : Option _) = some _ from HAp509)
                | succ kp509 =>
                  have H := (build_Limited.l3.eq_2 ..).symm.trans HAp509
                  refine wpLF_app ?_ ha
                  refine L_seq ?_
                  refine L_region ?_
                  refine F_val rfl rfl rfl (O_lt rfl rfl rfl) ?_
                  refine F_nil ?_
                  refine L_seq ?_
                  refine L_condP rfl (fun c518 => ?_) (fun c518 => ?_)
                  · have H := of_pos H c518
                    refine L_skip ?_
                    refine L_seq ?_
                    refine L_blk (fun Q519 hN519 hX519 hO519 => ?_)
                    refine L_region ?_
                    refine F_val rfl rfl rfl (O_move rfl rfl) ?_
                    refine F_val rfl rfl rfl (O_move rfl rfl) ?_
                    obtain ⟨z524, h523, H⟩ := of_bind H
                    refine F_call (xs := [.tmp 70]) rfl rfl rfl rfl Try.func51 nm51 rfl rfl ((build_packages.calls (HS517.give [] rfl (Lent.rdc HS517 (Lent.dz HS517 (Lent.nil) (i := 6) rfl dz_self (HS517.dze (i := 6) rfl)) (i := 5) rfl ((HS517.cells_rdc (i := 5) rfl).self))) (HS517.rdc_cap (i := 5) rfl) h523).mono (fun e w hc => ?_))
                    obtain ⟨A527, c528, ds530, B531, rfl, HSo⟩ := hc
                    refine ⟨.slice A527 z524.length c528, rfl, ?_⟩
                    have HS526 : Hp S0 w0 w [.rd A_freq_0 (rowC (Eint .i64) l_freq_0), .box g3 [.slice A_freq_0 l_freq_0.length c_freq_0] 22, .own A20 c21 (rowC (Eint .i64) z16) 3 (Eint .i64).sz, Rdc l164.length c161 A160 (rowC E_coin ds162), Dz D_coin S0 w0.heap.size B163 ds162 l164, Rdc l514.length c511 A510 (rowC E_coin ds512), Dz D_coin S0 w0.heap.size B513 ds512 l514, .own A527 c528 (rowC E_coin ds530) 69 E_coin.sz, Dz D_coin S0 w0.heap.size B531 ds530 z524] := ((HS517.backD [] HSo (Pv.backG (Pv.own (Pv.per (HSo.dz (i := 1) rfl).1 Pv.nil)) (fun b => (fun hb => Or.elim hb (fun hb => .inl hb) (fun hb => .inr ⟨_, _, nth_mem (i := 6) rfl, hb⟩))))).sel [0, 1, 2, 3, 4, 5, 6, 7, 8] rfl).dzProv (i := 8) rfl (fun b hb _ => Or.elim hb (fun hb => Or.elim hb (fun hb => (HS517.mine _ (feet_pick_le hb)).elim (hSF _) .inr) (fun hb => (HS517.dz (i := 6) rfl).1 _ hb)) (fun h => .inr (Nat.le_trans HS517.chg.size h)))
                    obtain ⟨z537, h536, H⟩ := of_bind H
                    refine F_call (xs := [.tmp 69, .tmp 71]) rfl rfl rfl rfl Try.func50 nm50 rfl rfl ((build_merged.calls (HS526.give [] rfl (Lent.rdc HS526 (Lent.dz HS526 (Lent.own HS526 (Lent.dz HS526 (Lent.nil) (i := 8) rfl dz_self (HS526.dze (i := 8) rfl)) (i := 7) rfl rfl ((HS526.cells_own (i := 7) rfl).self)) (i := 4) rfl dz_self (HS526.dze (i := 4) rfl)) (i := 3) rfl ((HS526.cells_rdc (i := 3) rfl).self))) (HS526.rdc_cap (i := 3) rfl) (dz_capx (HS526.dze (i := 8) rfl) (HS526.own_capE (i := 7) rfl (by decide))) h536).mono (fun e w hc => ?_))
                    obtain ⟨A540, c541, ds543, B544, rfl, HSo⟩ := hc
                    refine ⟨.slice A540 z537.length c541, rfl, ?_⟩
                    have HS539 : Hp S0 w0 w [.rd A_freq_0 (rowC (Eint .i64) l_freq_0), .box g3 [.slice A_freq_0 l_freq_0.length c_freq_0] 22, .own A20 c21 (rowC (Eint .i64) z16) 3 (Eint .i64).sz, Rdc l164.length c161 A160 (rowC E_coin ds162), Dz D_coin S0 w0.heap.size B163 ds162 l164, Rdc l514.length c511 A510 (rowC E_coin ds512), Dz D_coin S0 w0.heap.size B513 ds512 l514, .own A527 c528 (rowC E_coin ds530) 69 E_coin.sz, Dz D_coin S0 w0.heap.size B531 ds530 z524, .own A540 c541 (rowC E_coin ds543) 69 E_coin.sz, Dz D_coin S0 w0.heap.size B544 ds543 z537] := ((HS526.backD [] HSo (Pv.backG (Pv.own (Pv.per (HSo.dz (i := 1) rfl).1 Pv.nil)) (fun b => (fun hb => Or.elim hb (fun hb => Or.elim hb (fun hb => .inl hb) (fun hb => .inr ⟨_, _, nth_mem (i := 4) rfl, hb⟩)) (fun hb => .inr ⟨_, _, nth_mem (i := 8) rfl, hb⟩))))).sel [0, 1, 2, 3, 4, 5, 6, 7, 8, 9, 10] rfl).dzProv (i := 10) rfl (fun b hb _ => Or.elim hb (fun hb => Or.elim hb (fun hb => Or.elim hb (fun hb => (HS526.mine _ (feet_pick_le hb)).elim (hSF _) .inr) (fun hb => (HS526.dz (i := 4) rfl).1 _ hb)) (fun hb => (HS526.dz (i := 8) rfl).1 _ hb)) (fun h => .inr (Nat.le_trans HS526.chg.size h)))
                    refine F_val rfl rfl rfl (O_assign rfl rfl) ?_
                    refine F_nil ?_
                    refine L_endB hN519 ?_
                    have HS546 : Hp S0 w0 w [.rd A_freq_0 (rowC (Eint .i64) l_freq_0), .box g3 [.slice A_freq_0 l_freq_0.length c_freq_0] 22, .own A20 c21 (rowC (Eint .i64) z16) 3 (Eint .i64).sz, Rdc l164.length c161 A160 (rowC E_coin ds162), Dz D_coin S0 w0.heap.size B163 ds162 l164, Rdc l514.length c511 A510 (rowC E_coin ds512), Dz D_coin S0 w0.heap.size B513 ds512 l514, .own A540 c541 (rowC E_coin ds543) 69 E_coin.sz, Dz D_coin S0 w0.heap.size B544 ds543 z537] := HS539.sel [0, 1, 2, 3, 4, 5, 6, 9, 10] rfl
                    refine L_region ?_
                    refine F_val rfl rfl rfl (O_add rfl rfl rfl) ?_
                    refine F_val rfl rfl rfl (O_move rfl rfl) ?_
                    refine F_nil ?_
                    have HS547 : Hp S0 w0 w [.rd A_freq_0 (rowC (Eint .i64) l_freq_0), .box g3 [.slice A_freq_0 l_freq_0.length c_freq_0] 22, .own A20 c21 (rowC (Eint .i64) z16) 3 (Eint .i64).sz, Rdc l164.length c161 A160 (rowC E_coin ds162), Dz D_coin S0 w0.heap.size B163 ds162 l164, Rdc l514.length c511 A510 (rowC E_coin ds512), Dz D_coin S0 w0.heap.size B513 ds512 l514, Rdc z537.length c541 A540 (rowC E_coin ds543), Dz D_coin S0 w0.heap.size B544 ds543 z537] := HS546.ownRdc (i := 7) rfl (dz_capx (HS546.dze (i := 8) rfl) (HS546.own_capE (i := 7) rfl (by decide)))
                    refine L_nil (fun a ha => hNp509 _ a _ (Nat.lt_succ_self _) ⟨_, _, _, _, _, _, Is.cons ha (Is.cons ha (Is.cons ha (Is.cons ha (Is.cons ha (Is.cons ha (Is.nil ha) rfl) rfl) rfl) rfl) rfl) rfl, HS547.sel [0, 1, 2, 3, 4, 7, 8] rfl, H⟩)
                  · have H := of_neg H c518
                    refine L_exitB (fun a w h => hOp509 (.exit 2) a w rfl (hXb407 a w h)) ?_
                    refine L_nil (fun a ha => hNj261 a _ ⟨_, _, _, _, _, (Option.some.inj H).symm, Is.cons ha (Is.cons ha (Is.cons ha (Is.nil ha) rfl) rfl) rfl, HS517.sel [0, 1, 2, 5, 6] rfl⟩)
              · obtain ⟨l406, A402, c403, ds404, B405, ej, ha, HS549⟩ := hR
                obtain rfl := ej.symm
                refine wpLF_app ?_ ha
                refine L_seq ?_
                refine L_region ?_
                refine F_val rfl rfl rfl (O_loadB rfl rfl flat22 (HS549.cells_box (i := 1) rfl) rfl) ?_
                refine F_val rfl rfl rfl (O_len rfl rfl Try.underlying22) ?_
                obtain ⟨⟨g552, g553⟩, H⟩ := of_gd H
                obtain ⟨l554, h555, H⟩ := of_bnd H
                refine F_makeE (E := (Eint .i64)) rfl rfl rfl rfl rfl rfl Try.underlying22 info3 rfl (by decide) (by decide) g552 g553 HS549 h555 (fun w550 A556 c557 HS551 => ?_)
                have HS551 : Hp S0 w0 w550 [.rd A_freq_0 (rowC (Eint .i64) l_freq_0), .box g3 [.slice A_freq_0 l_freq_0.length c_freq_0] 22, .own A20 c21 (rowC (Eint .i64) z16) 3 (Eint .i64).sz, Rdc l406.length c403 A402 (rowC E_coin ds404), Dz D_coin S0 w0.heap.size B405 ds404 l406, .own A556 c557 (rowC (Eint .i64) l554) 3 (Eint .i64).sz] := HS551
                refine F_val rfl rfl rfl (O_assign rfl rfl) ?_
                refine F_nil ?_
                refine L_seq ?_
                refine L_seq ?_
                refine L_region ?_
                refine F_val rfl rfl rfl (O_move rfl rfl) ?_
                refine F_val rfl rfl rfl (O_move rfl rfl) ?_
                refine F_val rfl rfl rfl (O_len rfl rfl Try.underlying22) ?_
                refine F_val rfl rfl rfl (O_mul rfl rfl rfl) ?_
                refine F_val rfl rfl rfl (O_sub rfl rfl rfl) ?_
                obtain ⟨⟨g559, g560⟩, H⟩ := of_gd H
                refine F_val rfl rfl rfl (O_toE l406 rfl rfl rfl Try.underlying66 size69 g559 g560 (HS551.rdc_cap (i := 3) rfl)) ?_
                refine F_val rfl rfl rfl (O_len rfl rfl Try.underlying66) ?_
                refine F_val rfl rfl rfl (O_move rfl rfl) ?_
                refine F_nil ?_
                obtain ⟨yj561, Hyj561, H⟩ := of_bind H
                refine L_join (fun a w => ∃ (l636 : List Int), yj561 = l636 ∧ Is Try.f28.ntmps a [(13, .slice A556 l636.length c557)] ∧ Hp S0 w0 w [.rd A_freq_0 (rowC (Eint .i64) l_freq_0), .own A556 c557 (rowC (Eint .i64) l636) 3 (Eint .i64).sz]) (fun Qj561 hNj561 hOj561 => ?_) (fun a w hR => ?_)
                · skip
                  have H := Hyj561
                  refine L_blk (fun Qb637 hNb637 hXb637 hOb637 => ?_)
                  refine L_lp (fun k a w => ∃ (l685 : List Int), ∃ (t686 : Int), Is Try.f28.ntmps a [(13, .slice A556 l685.length c557), (82, .slice A402 (l406.take (IntKind.i64.wrap ((IntKind.i64.wrap (2 * (z16.length : Int))) - 2) : Int).toNat).length c403), (83, .int .i64 ((l406.take (IntKind.i64.wrap ((IntKind.i64.wrap (2 * (z16.length : Int))) - 2) : Int).toNat).length : Int)), (84, .int .i64 t686)] ∧ Hp S0 w0 w [.rd A_freq_0 (rowC (Eint .i64) l_freq_0), .own A556 c557 (rowC (Eint .i64) l685) 3 (Eint .i64).sz, Rdc l406.length c403 A402 (rowC E_coin ds404), Dz D_coin S0 w0.heap.size B405 ds404 l406] ∧ build_Limited.l5 k l685 t686 z16 l406 = some yj561) FU (fun a ha => ⟨_, _, Is.cons ha (Is.cons ha (Is.cons ha (Is.cons ha (Is.nil ha) rfl) rfl) rfl) rfl, HS551.sel [0, 5, 3, 4] rfl, H⟩) (fun kp684 a w687 hI Qp684 hNp684 hOp684 => ?_)
                  obtain ⟨l685, t686, ha, HS688, HAp684⟩ := hI
                  cases kp684 with
                  | zero => cases (show (none : Option _) = some _ from HAp684)
                  | succ kp684 =>
                    have H := (build_Limited.l5.eq_2 ..).symm.trans HAp684
                    refine wpLF_app ?_ ha
                    refine L_seq ?_
                    refine L_region ?_
                    refine F_val rfl rfl rfl (O_lt rfl rfl rfl) ?_
                    refine F_nil ?_
                    refine L_seq ?_
                    refine L_condP rfl (fun c689 => ?_) (fun c689 => ?_)
                    · have H := of_pos H c689
                      refine L_skip ?_
                      refine L_seq ?_
                      refine L_blk (fun Q690 hN690 hX690 hO690 => ?_)
                      refine L_seq ?_
                      refine L_region ?_
                      obtain ⟨⟨g691, g692⟩, H⟩ := of_gd H
                      refine F_val rfl rfl rfl (O_idx rfl rfl rfl Try.underlying66 size69 g691 g692 (Cells.isA (Cells.sub (HS688.cells_rdc (i := 2) rfl) (Cells.take (HS688.cells_rdc (i := 2) rfl) (IntKind.i64.wrap ((IntKind.i64.wrap (2 * (z16.length : Int))) - 2) : Int).toNat)) (dz_ne (D := D_coin) (dze_take (IntKind.i64.wrap ((IntKind.i64.wrap (2 * (z16.length : Int))) - 2) : Int).toNat (HS688.dze (i := 3) rfl)) g691 g692 (by decide)))) ?_
                      have HS694 : Hp S0 w0 w687 [.rd A_freq_0 (rowC (Eint .i64) l_freq_0), .own A556 c557 (rowC (Eint .i64) l685) 3 (Eint .i64).sz, Rdc l406.length c403 A402 (rowC E_coin ds404), Dz D_coin S0 w0.heap.size B405 ds404 l406, Dz D_coin S0 w0.heap.size B405 [(rdx E_coin (ds404.take (IntKind.i64.wrap ((IntKind.i64.wrap (2 * (z16.length : Int))) - 2) : Int).toNat) t686)] [(rdp (Co.leaf 0 0) (l406.take (IntKind.i64.wrap ((IntKind.i64.wrap (2 * (z16.length : Int))) - 2) : Int).toNat) t686)]] := HS688.dzOne (i := 3) rfl (dz_take (IntKind.i64.wrap ((IntKind.i64.wrap (2 * (z16.length : Int))) - 2) : Int).toNat) (dze_take (IntKind.i64.wrap ((IntKind.i64.wrap (2 * (z16.length : Int))) - 2) : Int).toNat (HS688.dze (i := 3) rfl)) g691 g692
                      refine F_val rfl rfl rfl (O_loadElD (D := D_coin) rfl rfl wide69 (Cells.sub (HS694.cells_rdc (i := 2) rfl) (Cells.take (HS694.cells_rdc (i := 2) rfl) (IntKind.i64.wrap ((IntKind.i64.wrap (2 * (z16.length : Int))) - 2) : Int).toNat)) (dze_take (IntKind.i64.wrap ((IntKind.i64.wrap (2 * (z16.length : Int))) - 2) : Int).toNat (HS694.dze (i := 3) rfl)) g691 g692 (by decide)) ?_
                      refine F_alloc (C := [.int .i64 0, .int .i64 0, .pointer none]) rfl rfl rfl rfl zero69 rfl HS694 (fun w695 g697 HS696 => ?_)
                      have HS696 : Hp S0 w0 w695 [.rd A_freq_0 (rowC (Eint .i64) l_freq_0), .own A556 c557 (rowC (Eint .i64) l685) 3 (Eint .i64).sz, Rdc l406.length c403 A402 (rowC E_coin ds404), Dz D_coin S0 w0.heap.size B405 ds404 l406, Dz D_coin S0 w0.heap.size B405 [(rdx E_coin (ds404.take (IntKind.i64.wrap ((IntKind.i64.wrap (2 * (z16.length : Int))) - 2) : Int).toNat) t686)] [(rdp (Co.leaf 0 0) (l406.take (IntKind.i64.wrap ((IntKind.i64.wrap (2 * (z16.length : Int))) - 2) : Int).toNat) t686)], .box g697 [.int .i64 0, .int .i64 0, .pointer none] 69] := HS696
                      refine F_stB 5 (E_coin.enc (rdx E_coin (ds404.take (IntKind.i64.wrap ((IntKind.i64.wrap (2 * (z16.length : Int))) - 2) : Int).toNat) t686)) rfl rfl rfl rfl rfl size69 HS696 rfl rfl rfl rfl rfl (fun w699 HS700 => ?_)
                      have HS700 : Hp S0 w0 w699 [.rd A_freq_0 (rowC (Eint .i64) l_freq_0), .own A556 c557 (rowC (Eint .i64) l685) 3 (Eint .i64).sz, Rdc l406.length c403 A402 (rowC E_coin ds404), Dz D_coin S0 w0.heap.size B405 ds404 l406, Dz D_coin S0 w0.heap.size B405 [(rdx E_coin (ds404.take (IntKind.i64.wrap ((IntKind.i64.wrap (2 * (z16.length : Int))) - 2) : Int).toNat) t686)] [(rdp (Co.leaf 0 0) (l406.take (IntKind.i64.wrap ((IntKind.i64.wrap (2 * (z16.length : Int))) - 2) : Int).toNat) t686)], .box g697 (E_coin.enc (rdx E_coin (ds404.take (IntKind.i64.wrap ((IntKind.i64.wrap (2 * (z16.length : Int))) - 2) : Int).toNat) t686)) 69] := HS700
                      refine F_nil ?_
                      refine L_region ?_
                      refine F_val rfl rfl rfl (O_loadWB' (k := 0) (vs := E_coin.enc (rdx E_coin (ds404.take (IntKind.i64.wrap ((IntKind.i64.wrap (2 * (z16.length : Int))) - 2) : Int).toNat) t686)) rfl rfl wide69 (HS700.cells_box (i := 5) rfl) rfl rfl (List.cons_ne_nil _ _)) ?_
                      refine F_val rfl rfl rfl (O_move rfl rfl) ?_
                      obtain ⟨z705, h704, H⟩ := of_bind H
                      refine F_call (xs := [.tmp 88, .tmp 89]) rfl rfl rfl rfl Try.func52 nm52 rfl rfl ((build_coin_into.calls (HS700.give [1] rfl (Lent.dz HS700 (Lent.nil) (i := 4) rfl dz_self (HS700.dze (i := 4) rfl))) h704).mono (fun e w hc => ?_))
                      obtain ⟨rfl, HSo, hl708⟩ := hc
                      refine ⟨.tuple #[], rfl, ?_⟩
                      have HS707 : Hp S0 w0 w [.rd A_freq_0 (rowC (Eint .i64) l_freq_0), .own A556 c557 (rowC (Eint .i64) z705) 3 (Eint .i64).sz, Rdc l406.length c403 A402 (rowC E_coin ds404), Dz D_coin S0 w0.heap.size B405 ds404 l406, Dz D_coin S0 w0.heap.size B405 [(rdx E_coin (ds404.take (IntKind.i64.wrap ((IntKind.i64.wrap (2 * (z16.length : Int))) - 2) : Int).toNat) t686)] [(rdp (Co.leaf 0 0) (l406.take (IntKind.i64.wrap ((IntKind.i64.wrap (2 * (z16.length : Int))) - 2) : Int).toNat) t686)], .box g697 (E_coin.enc (rdx E_coin (ds404.take (IntKind.i64.wrap ((IntKind.i64.wrap (2 * (z16.length : Int))) - 2) : Int).toNat) t686)) 69] := (HS700.back [1] HSo rfl).sel [0, 6, 2, 3, 4, 5] rfl
                      have e709 : l685.length = z705.length := hl708.symm
                      refine F_know (i := 13) rfl (congrArg (fun n => Value.slice A556 n c557) e709) ?_
                      refine F_nil ?_
                      refine L_endB hN690 ?_
                      have HS710 : Hp S0 w0 w [.rd A_freq_0 (rowC (Eint .i64) l_freq_0), .own A556 c557 (rowC (Eint .i64) z705) 3 (Eint .i64).sz, Rdc l406.length c403 A402 (rowC E_coin ds404), Dz D_coin S0 w0.heap.size B405 ds404 l406] := HS707.sel [0, 1, 2, 3] rfl
                      refine L_region ?_
                      refine F_val rfl rfl rfl (O_add rfl rfl rfl) ?_
                      refine F_val rfl rfl rfl (O_move rfl rfl) ?_
                      refine F_nil ?_
                      refine L_nil (fun a ha => hNp684 _ a _ (Nat.lt_succ_self _) ⟨_, _, Is.cons ha (Is.cons ha (Is.cons ha (Is.cons ha (Is.nil ha) rfl) rfl) rfl) rfl, HS710.sel [0, 1, 2, 3] rfl, H⟩)
                    · have H := of_neg H c689
                      refine L_exitB (fun a w h => hOp684 (.exit 4) a w rfl (hXb637 a w h)) ?_
                      refine L_nil (fun a ha => hNj561 a _ ⟨_, (Option.some.inj H).symm, Is.cons ha (Is.nil ha) rfl, HS688.sel [0, 1] rfl⟩)
                · obtain ⟨l636, ej, ha, HS712⟩ := hR
                  obtain rfl := ej.symm
                  refine wpLF_app ?_ ha
                  refine L_seq ?_
                  refine L_region ?_
                  refine F_val rfl rfl rfl (O_move rfl rfl) ?_
                  refine F_val rfl rfl rfl (O_assign rfl rfl) ?_
                  refine F_val rfl rfl rfl (O_assign rfl rfl) ?_
                  refine F_nil ?_
                  refine L_ret (fun a ha => (post_ret2 ha rfl rfl rfl ?_))
                  obtain rfl := Option.some.inj H
                  exact ⟨_, _, rfl, HS712.sel [1] rfl⟩

/-! function 26: valise/valiselaw6.kraft -/
theorem valiselaw6_kraft.calls {S0 : Nat → Prop} {w0 : World} {A_freq_0 : Option Addr} {c_freq_0 : Nat} {A_lens_1 : Option Addr} {c_lens_1 : Nat} {l_freq_0 : List Int} {l_lens_1 : List Int} {limit_2 : Int} {r : Int} (HS0 : Hp S0 w0 w0 [.rd A_freq_0 (rowC (Eint .i64) l_freq_0), .rd A_lens_1 (rowC (Eint .i64) l_lens_1)]) (hc_freq_0 : l_freq_0.length ≤ c_freq_0) (hc_lens_1 : l_lens_1.length ≤ c_lens_1) (h : valiselaw6_kraft.f l_freq_0 l_lens_1 limit_2 = some r) :
    Calls Try.prog 26 ([.slice A_freq_0 l_freq_0.length c_freq_0, .slice A_lens_1 l_lens_1.length c_lens_1, .int .i64 limit_2] : List Value).toArray w0 (fun e w => e = .returned (.int .i64 r) ∧ Hp S0 w0 w []) := by
  have H : ((if (l_lens_1.length : Int) ≠ (l_freq_0.length : Int) then (some (-1)) else ((valiselaw6_kraft.l1 FU 0 0 l_freq_0 l_lens_1 limit_2).bind fun (yj2 : Sum (Int) (Int)) => onR yj2 (fun r => some r) fun sum_83 => some sum_83)) : Option (Int)) = some r := h
  refine calls_start Try.func26 rfl rfl ?_
  refine L_seq ?_
  refine L_region ?_
  refine F_val rfl rfl rfl (O_assign rfl rfl) ?_
  refine F_nil ?_
  refine L_seq ?_
  refine L_seq ?_
  refine L_region ?_
  refine F_val rfl rfl rfl (O_move rfl rfl) ?_
  refine F_val rfl rfl rfl (O_len rfl rfl Try.underlying22) ?_
  refine F_val rfl rfl rfl (O_move rfl rfl) ?_
  refine F_val rfl rfl rfl (O_len rfl rfl Try.underlying22) ?_
  refine F_val rfl rfl rfl (O_ne rfl rfl rfl) ?_
  refine F_nil ?_
  refine L_condP rfl (fun c1 => ?_) (fun c1 => ?_)
  · have H := of_pos H c1
    refine L_seq ?_
    refine L_region ?_
    refine F_val rfl rfl rfl (O_assign rfl rfl) ?_
    refine F_nil ?_
    refine L_ret (fun a ha => (post_ret1 ha rfl rfl ?_))
    obtain rfl := Option.some.inj H
    exact ⟨rfl, HS0.sel [] rfl⟩
  · have H := of_neg H c1
    refine L_skip ?_
    refine L_seq ?_
    refine L_region ?_
    refine F_val rfl rfl rfl (O_assign rfl rfl) ?_
    refine F_nil ?_
    refine L_seq ?_
    refine L_seq ?_
    refine L_region ?_
    refine F_val rfl rfl rfl (O_assign rfl rfl) ?_
    refine F_nil ?_
    obtain ⟨yj2, Hyj2, H⟩ := of_bind H
    refine L_join (fun a w => ∃ (sum_83 : Int), yj2 = Sum.inr sum_83 ∧ Is Try.f26.ntmps a [(7, .int .i64 sum_83)] ∧ Hp S0 w0 w [.rd A_freq_0 (rowC (Eint .i64) l_freq_0), .rd A_lens_1 (rowC (Eint .i64) l_lens_1)]) (fun Qj2 hNj2 hOj2 => ?_) (fun a w hR => ?_)
    · have HOj2 := H
      have H := Hyj2
      refine L_blk (fun Qb84 hNb84 hXb84 hOb84 => ?_)
      refine L_lp (fun k a w => ∃ (sum_136 : Int), ∃ (s_137 : Int), Is Try.f26.ntmps a [(0, .slice A_freq_0 l_freq_0.length c_freq_0), (1, .slice A_lens_1 l_lens_1.length c_lens_1), (2, .int .i64 limit_2), (7, .int .i64 sum_136), (8, .int .i64 s_137)] ∧ Hp S0 w0 w [.rd A_freq_0 (rowC (Eint .i64) l_freq_0), .rd A_lens_1 (rowC (Eint .i64) l_lens_1)] ∧ valiselaw6_kraft.l1 k sum_136 s_137 l_freq_0 l_lens_1 limit_2 = some yj2) FU (fun a ha => ⟨_, _, Is.cons ha (Is.cons ha (Is.cons ha (Is.cons ha (Is.cons ha (Is.nil ha) rfl) rfl) rfl) rfl) rfl, HS0.sel [0, 1] rfl, H⟩) (fun kp135 a w138 hI Qp135 hNp135 hOp135 => ?_)
      obtain ⟨sum_136, s_137, ha, HS139, HAp135⟩ := hI
      cases kp135 with
      | zero => cases (show (none : Option _) = some _ from HAp135)
      | succ kp135 =>
        have H := (valiselaw6_kraft.l1.eq_2 ..).symm.trans HAp135
        refine wpLF_app ?_ ha
        refine L_seq ?_
        refine L_seq ?_
        refine L_region ?_
        refine F_val rfl rfl rfl (O_move rfl rfl) ?_
        refine F_val rfl rfl rfl (O_move rfl rfl) ?_
        refine F_val rfl rfl rfl (O_len rfl rfl Try.underlying22) ?_
        refine F_val rfl rfl rfl (O_lt rfl rfl rfl) ?_
        refine F_nil ?_
        refine L_condP rfl (fun c140 => ?_) (fun c140 => ?_)
        · have H := of_pos H c140
          refine L_skip ?_
          refine L_seq ?_
          refine L_blk (fun Q141 hN141 hX141 hO141 => ?_)
          refine L_seq ?_
          refine L_seq ?_
          refine L_region ?_
          refine F_val rfl rfl rfl (O_move rfl rfl) ?_
          refine F_val rfl rfl rfl (O_move rfl rfl) ?_
          obtain ⟨⟨g142, g143⟩, H⟩ := of_gd H
          refine F_val rfl rfl rfl (O_idx rfl rfl rfl Try.underlying22 size3 g142 g143 (Cells.isA (HS139.cells_rd (i := 0) rfl) (rowC_ne (E := (Eint .i64)) g142 g143 (by decide)))) ?_
          refine F_val rfl rfl rfl (O_loadC rfl rfl flat3 (HS139.cells_rd (i := 0) rfl) (int_cell g142 g143)) ?_
          refine F_val rfl rfl rfl (O_eq rfl rfl rfl) ?_
          refine F_nil ?_
          refine L_condP rfl (fun c144 => ?_) (fun c144 => ?_)
          · have H := of_pos H c144
            refine L_exitB hX141 ?_
            refine L_region ?_
            refine F_val rfl rfl rfl (O_move rfl rfl) ?_
            refine F_val rfl rfl rfl (O_add rfl rfl rfl) ?_
            obtain ⟨x145, h146, H⟩ := of_bnd H
            refine F_val rfl rfl rfl (O_assign' rfl rfl (congrArg (Value.int .i64) h146)) ?_
            refine F_nil ?_
            refine L_nil (fun a ha => hNp135 _ a _ (Nat.lt_succ_self _) ⟨_, _, Is.cons ha (Is.cons ha (Is.cons ha (Is.cons ha (Is.cons ha (Is.nil ha) rfl) rfl) rfl) rfl) rfl, HS139.sel [0, 1] rfl, H⟩)
          · have H := of_neg H c144
            refine L_skip ?_
            refine L_seq ?_
            refine L_seq ?_
            refine L_region ?_
            refine F_val rfl rfl rfl (O_move rfl rfl) ?_
            refine F_val rfl rfl rfl (O_move rfl rfl) ?_
            obtain ⟨⟨g147, g148⟩, H⟩ := of_gd H
            refine F_val rfl rfl rfl (O_idx rfl rfl rfl Try.underlying22 size3 g147 g148 (Cells.isA (HS139.cells_rd (i := 1) rfl) (rowC_ne (E := (Eint .i64)) g147 g148 (by decide)))) ?_
            refine F_val rfl rfl rfl (O_loadC rfl rfl flat3 (HS139.cells_rd (i := 1) rfl) (int_cell g147 g148)) ?_
            refine F_val rfl rfl rfl (O_lt rfl rfl rfl) ?_
            refine F_val rfl rfl rfl (O_move rfl rfl) ?_
            refine F_grp 7 [(37, .bool (decide ((rd l_lens_1 s_137 < 1) ∨ (limit_2 < rd l_lens_1 s_137)))), (0, .slice A_freq_0 l_freq_0.length c_freq_0), (1, .slice A_lens_1 l_lens_1.length c_lens_1), (2, .int .i64 limit_2), (7, .int .i64 sum_136), (8, .int .i64 s_137)] ?_ ?_
            · rcases Decidable.em (rd l_lens_1 s_137 < 1) with c152 | c152
              · refine F_know (i := 30) rfl (dec_t c152) ?_
                refine F_gskip rfl rfl rfl rfl rfl rfl rfl ?_
                refine F_gskip rfl rfl rfl rfl rfl rfl rfl ?_
                refine F_gskip rfl rfl rfl rfl rfl rfl rfl ?_
                refine F_gskip rfl rfl rfl rfl rfl rfl rfl ?_
                refine F_gskip rfl rfl rfl rfl rfl rfl rfl ?_
                refine F_gskip rfl rfl rfl rfl rfl rfl rfl ?_
                refine F_val rfl rfl rfl (O_pickT rfl rfl rfl) ?_
                refine F_know (i := 37) rfl (dec_or_t (q := limit_2 < rd l_lens_1 s_137) c152) ?_
                exact F_grpE (fun a ha => Is.cons ha (Is.cons ha (Is.cons ha (Is.cons ha (Is.cons ha (Is.cons ha (Is.nil ha) rfl) rfl) rfl) rfl) rfl) rfl)
              · refine F_know (i := 30) rfl (dec_f c152) ?_
                refine F_gval rfl rfl rfl rfl rfl rfl (O_move rfl rfl) ?_
                refine F_gval rfl rfl rfl rfl rfl rfl (O_move rfl rfl) ?_
                refine F_gval rfl rfl rfl rfl rfl rfl (O_idx rfl rfl rfl Try.underlying22 size3 g147 g148 (Cells.isA (HS139.cells_rd (i := 1) rfl) (rowC_ne (E := (Eint .i64)) g147 g148 (by decide)))) ?_
                refine F_gval rfl rfl rfl rfl rfl rfl (O_loadC rfl rfl flat3 (HS139.cells_rd (i := 1) rfl) (int_cell g147 g148)) ?_
                refine F_gval rfl rfl rfl rfl rfl rfl (O_move rfl rfl) ?_
                refine F_gval rfl rfl rfl rfl rfl rfl (O_gt rfl rfl rfl) ?_
                refine F_val rfl rfl rfl (O_pickF rfl rfl rfl) ?_
                refine F_know (i := 37) rfl (dec_or_f (q := limit_2 < rd l_lens_1 s_137) c152) ?_
                exact F_grpE (fun a ha => Is.cons ha (Is.cons ha (Is.cons ha (Is.cons ha (Is.cons ha (Is.cons ha (Is.nil ha) rfl) rfl) rfl) rfl) rfl) rfl)
            · skip
              refine F_val rfl rfl rfl (O_move rfl rfl) ?_
              refine F_grp 6 [(44, .bool (decide (((rd l_lens_1 s_137 < 1) ∨ (limit_2 < rd l_lens_1 s_137)) ∨ (60 < rd l_lens_1 s_137)))), (0, .slice A_freq_0 l_freq_0.length c_freq_0), (1, .slice A_lens_1 l_lens_1.length c_lens_1), (2, .int .i64 limit_2), (7, .int .i64 sum_136), (8, .int .i64 s_137)] ?_ ?_
              · rcases Decidable.em ((rd l_lens_1 s_137 < 1) ∨ (limit_2 < rd l_lens_1 s_137)) with c156 | c156
                · refine F_know (i := 38) rfl (dec_t c156) ?_
                  refine F_gskip rfl rfl rfl rfl rfl rfl rfl ?_
                  refine F_gskip rfl rfl rfl rfl rfl rfl rfl ?_
                  refine F_gskip rfl rfl rfl rfl rfl rfl rfl ?_
                  refine F_gskip rfl rfl rfl rfl rfl rfl rfl ?_
                  refine F_gskip rfl rfl rfl rfl rfl rfl rfl ?_
                  refine F_val rfl rfl rfl (O_pickT rfl rfl rfl) ?_
                  refine F_know (i := 44) rfl (dec_or_t (q := 60 < rd l_lens_1 s_137) c156) ?_
                  exact F_grpE (fun a ha => Is.cons ha (Is.cons ha (Is.cons ha (Is.cons ha (Is.cons ha (Is.cons ha (Is.nil ha) rfl) rfl) rfl) rfl) rfl) rfl)
                · refine F_know (i := 38) rfl (dec_f c156) ?_
                  refine F_gval rfl rfl rfl rfl rfl rfl (O_move rfl rfl) ?_
                  refine F_gval rfl rfl rfl rfl rfl rfl (O_move rfl rfl) ?_
                  refine F_gval rfl rfl rfl rfl rfl rfl (O_idx rfl rfl rfl Try.underlying22 size3 g147 g148 (Cells.isA (HS139.cells_rd (i := 1) rfl) (rowC_ne (E := (Eint .i64)) g147 g148 (by decide)))) ?_
                  refine F_gval rfl rfl rfl rfl rfl rfl (O_loadC rfl rfl flat3 (HS139.cells_rd (i := 1) rfl) (int_cell g147 g148)) ?_
                  refine F_gval rfl rfl rfl rfl rfl rfl (O_gt rfl rfl rfl) ?_
                  refine F_val rfl rfl rfl (O_pickF rfl rfl rfl) ?_
                  refine F_know (i := 44) rfl (dec_or_f (q := 60 < rd l_lens_1 s_137) c156) ?_
                  exact F_grpE (fun a ha => Is.cons ha (Is.cons ha (Is.cons ha (Is.cons ha (Is.cons ha (Is.cons ha (Is.nil ha) rfl) rfl) rfl) rfl) rfl) rfl)
              · skip
                refine F_nil ?_
                refine L_condP rfl (fun c157 => ?_) (fun c157 => ?_)
                · have H := of_pos H c157
                  refine L_seq ?_
                  refine L_region ?_
                  refine F_val rfl rfl rfl (O_assign rfl rfl) ?_
                  refine F_nil ?_
                  refine L_ret (fun a ha => (hO141 .ret a _ rfl (hOp135 .ret a _ rfl (hOb84 .ret a _ rfl (hOj2 .ret a _ rfl (post_ret1 ha rfl rfl ?_))))))
                  obtain rfl := Option.some.inj H
                  obtain rfl := Option.some.inj (show (some (-1) : Option (Int)) = some _ from HOj2)
                  exact ⟨rfl, HS139.sel [] rfl⟩
                · have H := of_neg H c157
                  refine L_skip ?_
                  refine L_seq ?_
                  refine L_region ?_
                  refine F_val rfl rfl rfl (O_move rfl rfl) ?_
                  refine F_val rfl rfl rfl (O_move rfl rfl) ?_
                  refine F_val rfl rfl rfl (O_move rfl rfl) ?_
                  refine F_val rfl rfl rfl (O_idx rfl rfl rfl Try.underlying22 size3 g147 g148 (Cells.isA (HS139.cells_rd (i := 1) rfl) (rowC_ne (E := (Eint .i64)) g147 g148 (by decide)))) ?_
                  refine F_val rfl rfl rfl (O_loadC rfl rfl flat3 (HS139.cells_rd (i := 1) rfl) (int_cell g147 g148)) ?_
                  refine F_val rfl rfl rfl (O_sub rfl rfl rfl) ?_
                  refine F_val rfl rfl rfl (O_conv rfl rfl ⟨_, Try.underlying3⟩ Try.underlying43) ?_
                  obtain ⟨g158, H⟩ := of_gd H
                  refine F_val rfl rfl rfl (O_shl rfl rfl rfl g158) ?_
                  refine F_val rfl rfl rfl (O_add rfl rfl rfl) ?_
                  obtain ⟨x159, h160, H⟩ := of_bnd H
                  refine F_val rfl rfl rfl (O_assign' rfl rfl (congrArg (Value.int .i64) h160)) ?_
                  refine F_nil ?_
                  refine L_seq ?_
                  refine L_region ?_
                  refine F_val rfl rfl rfl (O_move rfl rfl) ?_
                  refine F_val rfl rfl rfl (O_gt rfl rfl rfl) ?_
                  refine F_nil ?_
                  refine L_condP rfl (fun c161 => ?_) (fun c161 => ?_)
                  · have H := of_pos H c161
                    refine L_seq ?_
                    refine L_region ?_
                    refine F_val rfl rfl rfl (O_assign rfl rfl) ?_
                    refine F_nil ?_
                    refine L_ret (fun a ha => (hO141 .ret a _ rfl (hOp135 .ret a _ rfl (hOb84 .ret a _ rfl (hOj2 .ret a _ rfl (post_ret1 ha rfl rfl ?_))))))
                    obtain rfl := Option.some.inj H
                    obtain rfl := Option.some.inj (show (some (-1) : Option (Int)) = some _ from HOj2)
                    exact ⟨rfl, HS139.sel [] rfl⟩
                  · have H := of_neg H c161
                    refine L_skip ?_
                    refine L_endB hN141 ?_
                    refine L_region ?_
                    refine F_val rfl rfl rfl (O_move rfl rfl) ?_
                    refine F_val rfl rfl rfl (O_add rfl rfl rfl) ?_
                    obtain ⟨x162, h163, H⟩ := of_bnd H
                    refine F_val rfl rfl rfl (O_assign' rfl rfl (congrArg (Value.int .i64) h163)) ?_
                    refine F_nil ?_
                    refine L_nil (fun a ha => hNp135 _ a _ (Nat.lt_succ_self _) ⟨_, _, Is.cons ha (Is.cons ha (Is.cons ha (Is.cons ha (Is.cons ha (Is.nil ha) rfl) rfl) rfl) rfl) rfl, HS139.sel [0, 1] rfl, H⟩)
        · have H := of_neg H c140
          refine L_exitB (fun a w h => hOp135 (.exit 0) a w rfl (hXb84 a w h)) ?_
          refine L_nil (fun a ha => hNj2 a _ ⟨_, (Option.some.inj H).symm, Is.cons ha (Is.nil ha) rfl, HS139.sel [0, 1] rfl⟩)
    · obtain ⟨sum_83, rfl, ha, HS165⟩ := hR
      refine wpLF_app ?_ ha
      have H := (onR_inr _ _ _).symm.trans H
      refine L_seq ?_
      refine L_region ?_
      refine F_val rfl rfl rfl (O_move rfl rfl) ?_
      refine F_val rfl rfl rfl (O_assign rfl rfl) ?_
      refine F_nil ?_
      refine L_ret (fun a ha => (post_ret1 ha rfl rfl ?_))
      obtain rfl := Option.some.inj H
      exact ⟨rfl, HS165.sel [] rfl⟩

/-! function 25: valise/valiselaw6.good -/
theorem valiselaw6_good.calls {S0 : Nat → Prop} {w0 : World} {A_freq_0 : Option Addr} {c_freq_0 : Nat} {A_lens_1 : Option Addr} {c_lens_1 : Nat} {l_freq_0 : List Int} {l_lens_1 : List Int} {limit_2 : Int} {r : Bool} (HS0 : Hp S0 w0 w0 [.rd A_freq_0 (rowC (Eint .i64) l_freq_0), .rd A_lens_1 (rowC (Eint .i64) l_lens_1)]) (hc_freq_0 : l_freq_0.length ≤ c_freq_0) (hc_lens_1 : l_lens_1.length ≤ c_lens_1) (h : valiselaw6_good.f l_freq_0 l_lens_1 limit_2 = some r) :
    Calls Try.prog 25 ([.slice A_freq_0 l_freq_0.length c_freq_0, .slice A_lens_1 l_lens_1.length c_lens_1, .int .i64 limit_2] : List Value).toArray w0 (fun e w => e = .returned (.bool r) ∧ Hp S0 w0 w []) := by
  have H : ((if (l_lens_1.length : Int) ≠ (l_freq_0.length : Int) then (some false) else ((valiselaw6_uses.f l_freq_0).bind fun z4 => (valiselaw6_good.l1 FU 0 l_freq_0 l_lens_1 z4).bind fun (yj8 : Sum (Bool) (Unit)) => onR yj8 (fun r => some r) fun () => (if z4 < 2 then (some true) else ((valiselaw6_kraft.f l_freq_0 l_lens_1 limit_2).bind fun z216 => some (decide (z216 = 1152921504606846976)))).bind fun b209 => some b209)) : Option (Bool)) = some r := h
  refine calls_start Try.func25 rfl rfl ?_
  refine L_seq ?_
  refine L_region ?_
  refine F_val rfl rfl rfl (O_assign rfl rfl) ?_
  refine F_nil ?_
  refine L_seq ?_
  refine L_seq ?_
  refine L_region ?_
  refine F_val rfl rfl rfl (O_move rfl rfl) ?_
  refine F_val rfl rfl rfl (O_len rfl rfl Try.underlying22) ?_
  refine F_val rfl rfl rfl (O_move rfl rfl) ?_
  refine F_val rfl rfl rfl (O_len rfl rfl Try.underlying22) ?_
  refine F_val rfl rfl rfl (O_ne rfl rfl rfl) ?_
  refine F_nil ?_
  refine L_condP rfl (fun c1 => ?_) (fun c1 => ?_)
  · have H := of_pos H c1
    refine L_seq ?_
    refine L_region ?_
    refine F_val rfl rfl rfl (O_assign rfl rfl) ?_
    refine F_nil ?_
    refine L_ret (fun a ha => (post_ret1 ha rfl rfl ?_))
    obtain rfl := Option.some.inj H
    exact ⟨rfl, HS0.sel [] rfl⟩
  · have H := of_neg H c1
    refine L_skip ?_
    refine L_seq ?_
    refine L_region ?_
    refine F_val rfl rfl rfl (O_move rfl rfl) ?_
    obtain ⟨z4, h3, H⟩ := of_bind H
    refine F_qcall (v := .int .i64 z4) (xs := [.tmp 14]) rfl rfl rfl rfl Try.func30 nm30 rfl rfl ((valiselaw6_uses.calls (HS0.give [] rfl (Lent.rd HS0 (Lent.nil) (i := 0) rfl ((HS0.cells_rd (i := 0) rfl).self))) hc_freq_0 h3).mono (fun e w hc => ?_)) (fun w5 hw6 => ?_)
    · obtain ⟨rfl, h⟩ := hc
      exact ⟨rfl, h.chg0⟩
    have HS7 := HS0.keep hw6
    refine F_val rfl rfl rfl (O_assign rfl rfl) ?_
    refine F_nil ?_
    refine L_seq ?_
    refine L_seq ?_
    refine L_region ?_
    refine F_val rfl rfl rfl (O_assign rfl rfl) ?_
    refine F_nil ?_
    obtain ⟨yj8, Hyj8, H⟩ := of_bind H
    refine L_join (fun a w => yj8 = Sum.inr () ∧ Is Try.f25.ntmps a [(0, .slice A_freq_0 l_freq_0.length c_freq_0), (1, .slice A_lens_1 l_lens_1.length c_lens_1), (2, .int .i64 limit_2), (7, .int .i64 z4)] ∧ Hp S0 w0 w [.rd A_freq_0 (rowC (Eint .i64) l_freq_0), .rd A_lens_1 (rowC (Eint .i64) l_lens_1)]) (fun Qj8 hNj8 hOj8 => ?_) (fun a w hR => ?_)
    · have HOj8 := H
      have H := Hyj8
      refine L_blk (fun Qb105 hNb105 hXb105 hOb105 => ?_)
      refine L_lp (fun k a w => ∃ (s_168 : Int), Is Try.f25.ntmps a [(0, .slice A_freq_0 l_freq_0.length c_freq_0), (1, .slice A_lens_1 l_lens_1.length c_lens_1), (2, .int .i64 limit_2), (7, .int .i64 z4), (8, .int .i64 s_168)] ∧ Hp S0 w0 w [.rd A_freq_0 (rowC (Eint .i64) l_freq_0), .rd A_lens_1 (rowC (Eint .i64) l_lens_1)] ∧ valiselaw6_good.l1 k s_168 l_freq_0 l_lens_1 z4 = some yj8) FU (fun a ha => ⟨_, Is.cons ha (Is.cons ha (Is.cons ha (Is.cons ha (Is.cons ha (Is.nil ha) rfl) rfl) rfl) rfl) rfl, HS7.sel [0, 1] rfl, H⟩) (fun kp167 a w169 hI Qp167 hNp167 hOp167 => ?_)
      obtain ⟨s_168, ha, HS170, HAp167⟩ := hI
      cases kp167 with
      | zero => cases (show (none : Option _) = some _ from HAp167)
      | succ kp167 =>
        have H := (valiselaw6_good.l1.eq_2 ..).symm.trans HAp167
        refine wpLF_app ?_ ha
        refine L_seq ?_
        refine L_seq ?_
        refine L_region ?_
        refine F_val rfl rfl rfl (O_move rfl rfl) ?_
        refine F_val rfl rfl rfl (O_move rfl rfl) ?_
        refine F_val rfl rfl rfl (O_len rfl rfl Try.underlying22) ?_
        refine F_val rfl rfl rfl (O_lt rfl rfl rfl) ?_
        refine F_nil ?_
        refine L_condP rfl (fun c171 => ?_) (fun c171 => ?_)
        · have H := of_pos H c171
          refine L_skip ?_
          refine L_seq ?_
          refine L_blk (fun Q172 hN172 hX172 hO172 => ?_)
          refine L_seq ?_
          refine L_seq ?_
          refine L_region ?_
          refine F_val rfl rfl rfl (O_move rfl rfl) ?_
          refine F_val rfl rfl rfl (O_move rfl rfl) ?_
          obtain ⟨⟨g173, g174⟩, H⟩ := of_gd H
          refine F_val rfl rfl rfl (O_idx rfl rfl rfl Try.underlying22 size3 g173 g174 (Cells.isA (HS170.cells_rd (i := 0) rfl) (rowC_ne (E := (Eint .i64)) g173 g174 (by decide)))) ?_
          refine F_val rfl rfl rfl (O_loadC rfl rfl flat3 (HS170.cells_rd (i := 0) rfl) (int_cell g173 g174)) ?_
          refine F_val rfl rfl rfl (O_eq rfl rfl rfl) ?_
          refine F_val rfl rfl rfl (O_move rfl rfl) ?_
          obtain ⟨b177, Hb177, H⟩ := of_bind H
          refine F_grp 6 [(33, .bool b177), (0, .slice A_freq_0 l_freq_0.length c_freq_0), (1, .slice A_lens_1 l_lens_1.length c_lens_1), (2, .int .i64 limit_2), (7, .int .i64 z4), (8, .int .i64 s_168)] ?_ ?_
          · rcases Decidable.em (rd l_freq_0 s_168 = 0) with c181 | c181
            · refine F_know (i := 27) rfl (dec_t c181) ?_
              have H := of_pos Hb177 c181
              refine F_gval rfl rfl rfl rfl rfl rfl (O_move rfl rfl) ?_
              refine F_gval rfl rfl rfl rfl rfl rfl (O_move rfl rfl) ?_
              obtain ⟨⟨g182, g183⟩, H⟩ := of_gd H
              refine F_gval rfl rfl rfl rfl rfl rfl (O_idx rfl rfl rfl Try.underlying22 size3 g182 g183 (Cells.isA (HS170.cells_rd (i := 1) rfl) (rowC_ne (E := (Eint .i64)) g182 g183 (by decide)))) ?_
              refine F_gval rfl rfl rfl rfl rfl rfl (O_loadC rfl rfl flat3 (HS170.cells_rd (i := 1) rfl) (int_cell g182 g183)) ?_
              refine F_gval rfl rfl rfl rfl rfl rfl (O_ne rfl rfl rfl) ?_
              refine F_val rfl rfl rfl (O_pickT rfl rfl rfl) ?_
              refine F_know (i := 33) rfl (congrArg Value.bool (Option.some.inj H)) ?_
              exact F_grpE (fun a ha => Is.cons ha (Is.cons ha (Is.cons ha (Is.cons ha (Is.cons ha (Is.cons ha (Is.nil ha) rfl) rfl) rfl) rfl) rfl) rfl)
            · refine F_know (i := 27) rfl (dec_f c181) ?_
              have H := of_neg Hb177 c181
              refine F_gskip rfl rfl rfl rfl rfl rfl rfl ?_
              refine F_gskip rfl rfl rfl rfl rfl rfl rfl ?_
              refine F_gskip rfl rfl rfl rfl rfl rfl rfl ?_
              refine F_gskip rfl rfl rfl rfl rfl rfl rfl ?_
              refine F_gskip rfl rfl rfl rfl rfl rfl rfl ?_
              refine F_val rfl rfl rfl (O_pickF rfl rfl rfl) ?_
              refine F_know (i := 33) rfl (congrArg Value.bool (Option.some.inj H)) ?_
              exact F_grpE (fun a ha => Is.cons ha (Is.cons ha (Is.cons ha (Is.cons ha (Is.cons ha (Is.cons ha (Is.nil ha) rfl) rfl) rfl) rfl) rfl) rfl)
          · skip
            refine F_nil ?_
            refine L_cond rfl (fun c184 => ?_) (fun c184 => ?_)
            · have H := of_pos H c184
              refine L_seq ?_
              refine L_region ?_
              refine F_val rfl rfl rfl (O_assign rfl rfl) ?_
              refine F_nil ?_
              refine L_ret (fun a ha => (hO172 .ret a _ rfl (hOp167 .ret a _ rfl (hOb105 .ret a _ rfl (hOj8 .ret a _ rfl (post_ret1 ha rfl rfl ?_))))))
              obtain rfl := Option.some.inj H
              obtain rfl := Option.some.inj (show (some false : Option (Bool)) = some _ from HOj8)
              exact ⟨rfl, HS170.sel [] rfl⟩
            · have H := of_neg H (by rw [c184]; exact Bool.false_ne_true)
              refine L_skip ?_
              refine L_seq ?_
              refine L_region ?_
              refine F_val rfl rfl rfl (O_move rfl rfl) ?_
              refine F_val rfl rfl rfl (O_move rfl rfl) ?_
              refine F_val rfl rfl rfl (O_idx rfl rfl rfl Try.underlying22 size3 g173 g174 (Cells.isA (HS170.cells_rd (i := 0) rfl) (rowC_ne (E := (Eint .i64)) g173 g174 (by decide)))) ?_
              refine F_val rfl rfl rfl (O_loadC rfl rfl flat3 (HS170.cells_rd (i := 0) rfl) (int_cell g173 g174)) ?_
              refine F_val rfl rfl rfl (O_gt rfl rfl rfl) ?_
              refine F_val rfl rfl rfl (O_move rfl rfl) ?_
              refine F_grp 3 [(42, .bool (decide ((0 < rd l_freq_0 s_168) ∧ (z4 = 1)))), (0, .slice A_freq_0 l_freq_0.length c_freq_0), (1, .slice A_lens_1 l_lens_1.length c_lens_1), (2, .int .i64 limit_2), (7, .int .i64 z4), (8, .int .i64 s_168)] ?_ ?_
              · rcases Decidable.em (0 < rd l_freq_0 s_168) with c188 | c188
                · refine F_know (i := 39) rfl (dec_t c188) ?_
                  refine F_gval rfl rfl rfl rfl rfl rfl (O_move rfl rfl) ?_
                  refine F_gval rfl rfl rfl rfl rfl rfl (O_eq rfl rfl rfl) ?_
                  refine F_val rfl rfl rfl (O_pickT rfl rfl rfl) ?_
                  refine F_know (i := 42) rfl (dec_and_t (q := z4 = 1) c188) ?_
                  exact F_grpE (fun a ha => Is.cons ha (Is.cons ha (Is.cons ha (Is.cons ha (Is.cons ha (Is.cons ha (Is.nil ha) rfl) rfl) rfl) rfl) rfl) rfl)
                · refine F_know (i := 39) rfl (dec_f c188) ?_
                  refine F_gskip rfl rfl rfl rfl rfl rfl rfl ?_
                  refine F_gskip rfl rfl rfl rfl rfl rfl rfl ?_
                  refine F_val rfl rfl rfl (O_pickF rfl rfl rfl) ?_
                  refine F_know (i := 42) rfl (dec_and_f (q := z4 = 1) c188) ?_
                  exact F_grpE (fun a ha => Is.cons ha (Is.cons ha (Is.cons ha (Is.cons ha (Is.cons ha (Is.cons ha (Is.nil ha) rfl) rfl) rfl) rfl) rfl) rfl)
              · skip
                refine F_val rfl rfl rfl (O_move rfl rfl) ?_
                obtain ⟨b191, Hb191, H⟩ := of_bind H
                refine F_grp 6 [(49, .bool b191), (0, .slice A_freq_0 l_freq_0.length c_freq_0), (1, .slice A_lens_1 l_lens_1.length c_lens_1), (2, .int .i64 limit_2), (7, .int .i64 z4), (8, .int .i64 s_168)] ?_ ?_
                · rcases Decidable.em ((0 < rd l_freq_0 s_168) ∧ (z4 = 1)) with c195 | c195
                  · refine F_know (i := 43) rfl (dec_t c195) ?_
                    have H := of_pos Hb191 c195
                    refine F_gval rfl rfl rfl rfl rfl rfl (O_move rfl rfl) ?_
                    refine F_gval rfl rfl rfl rfl rfl rfl (O_move rfl rfl) ?_
                    obtain ⟨⟨g196, g197⟩, H⟩ := of_gd H
                    refine F_gval rfl rfl rfl rfl rfl rfl (O_idx rfl rfl rfl Try.underlying22 size3 g196 g197 (Cells.isA (HS170.cells_rd (i := 1) rfl) (rowC_ne (E := (Eint .i64)) g196 g197 (by decide)))) ?_
                    refine F_gval rfl rfl rfl rfl rfl rfl (O_loadC rfl rfl flat3 (HS170.cells_rd (i := 1) rfl) (int_cell g196 g197)) ?_
                    refine F_gval rfl rfl rfl rfl rfl rfl (O_ne rfl rfl rfl) ?_
                    refine F_val rfl rfl rfl (O_pickT rfl rfl rfl) ?_
                    refine F_know (i := 49) rfl (congrArg Value.bool (Option.some.inj H)) ?_
                    exact F_grpE (fun a ha => Is.cons ha (Is.cons ha (Is.cons ha (Is.cons ha (Is.cons ha (Is.cons ha (Is.nil ha) rfl) rfl) rfl) rfl) rfl) rfl)
                  · refine F_know (i := 43) rfl (dec_f c195) ?_
                    have H := of_neg Hb191 c195
                    refine F_gskip rfl rfl rfl rfl rfl rfl rfl ?_
                    refine F_gskip rfl rfl rfl rfl rfl rfl rfl ?_
                    refine F_gskip rfl rfl rfl rfl rfl rfl rfl ?_
                    refine F_gskip rfl rfl rfl rfl rfl rfl rfl ?_
                    refine F_gskip rfl rfl rfl rfl rfl rfl rfl ?_
                    refine F_val rfl rfl rfl (O_pickF rfl rfl rfl) ?_
                    refine F_know (i := 49) rfl (congrArg Value.bool (Option.some.inj H)) ?_
                    exact F_grpE (fun a ha => Is.cons ha (Is.cons ha (Is.cons ha (Is.cons ha (Is.cons ha (Is.cons ha (Is.nil ha) rfl) rfl) rfl) rfl) rfl) rfl)
                · skip
                  refine F_nil ?_
                  refine L_cond rfl (fun c198 => ?_) (fun c198 => ?_)
                  · have H := of_pos H c198
                    refine L_seq ?_
                    refine L_region ?_
                    refine F_val rfl rfl rfl (O_assign rfl rfl) ?_
                    refine F_nil ?_
                    refine L_ret (fun a ha => (hO172 .ret a _ rfl (hOp167 .ret a _ rfl (hOb105 .ret a _ rfl (hOj8 .ret a _ rfl (post_ret1 ha rfl rfl ?_))))))
                    obtain rfl := Option.some.inj H
                    obtain rfl := Option.some.inj (show (some false : Option (Bool)) = some _ from HOj8)
                    exact ⟨rfl, HS170.sel [] rfl⟩
                  · have H := of_neg H (by rw [c198]; exact Bool.false_ne_true)
                    refine L_skip ?_
                    refine L_endB hN172 ?_
                    refine L_region ?_
                    refine F_val rfl rfl rfl (O_move rfl rfl) ?_
                    refine F_val rfl rfl rfl (O_add rfl rfl rfl) ?_
                    obtain ⟨x199, h200, H⟩ := of_bnd H
                    refine F_val rfl rfl rfl (O_assign' rfl rfl (congrArg (Value.int .i64) h200)) ?_
                    refine F_nil ?_
                    refine L_nil (fun a ha => hNp167 _ a _ (Nat.lt_succ_self _) ⟨_, Is.cons ha (Is.cons ha (Is.cons ha (Is.cons ha (Is.cons ha (Is.nil ha) rfl) rfl) rfl) rfl) rfl, HS170.sel [0, 1] rfl, H⟩)
        · have H := of_neg H c171
          refine L_exitB (fun a w h => hOp167 (.exit 0) a w rfl (hXb105 a w h)) ?_
          refine L_nil (fun a ha => hNj8 a _ ⟨(Option.some.inj H).symm, Is.cons ha (Is.cons ha (Is.cons ha (Is.cons ha (Is.nil ha) rfl) rfl) rfl) rfl, HS170.sel [0, 1] rfl⟩)
    · obtain ⟨rfl, ha, HS202⟩ := hR
      refine wpLF_app ?_ ha
      have H := (onR_inr _ _ _).symm.trans H
      refine L_seq ?_
      refine L_region ?_
      refine F_val rfl rfl rfl (O_move rfl rfl) ?_
      refine F_val rfl rfl rfl (O_lt rfl rfl rfl) ?_
      refine F_val rfl rfl rfl (O_move rfl rfl) ?_
      obtain ⟨b209, Hb209, H⟩ := of_bind H
      refine F_grpQ 6 [(58, .bool b209)] ?_ (fun w210 hw211 => ?_)
      · rcases Decidable.em (z4 < 2) with c213 | c213
        · refine F_know (i := 52) rfl (dec_t c213) ?_
          have H := of_pos Hb209 c213
          refine F_gskip rfl rfl rfl rfl rfl rfl rfl ?_
          refine F_gskip rfl rfl rfl rfl rfl rfl rfl ?_
          refine F_gskip rfl rfl rfl rfl rfl rfl rfl ?_
          refine F_gskip rfl rfl rfl rfl rfl rfl rfl ?_
          refine F_gskip rfl rfl rfl rfl rfl rfl rfl ?_
          refine F_val rfl rfl rfl (O_pickT rfl rfl rfl) ?_
          refine F_know (i := 58) rfl (congrArg Value.bool (Option.some.inj H)) ?_
          exact F_grpQE (Chg.refl NoB _) (fun a ha => Is.cons ha (Is.nil ha) rfl)
        · refine F_know (i := 52) rfl (dec_f c213) ?_
          have H := of_neg Hb209 c213
          refine F_gval rfl rfl rfl rfl rfl rfl (O_move rfl rfl) ?_
          refine F_gval rfl rfl rfl rfl rfl rfl (O_move rfl rfl) ?_
          refine F_gval rfl rfl rfl rfl rfl rfl (O_move rfl rfl) ?_
          obtain ⟨z216, h215, H⟩ := of_bind H
          refine F_gqcall (v := .int .i64 z216) (xs := [.tmp 53, .tmp 54, .tmp 55]) rfl rfl rfl rfl rfl rfl rfl Try.func26 nm26 rfl rfl ((valiselaw6_kraft.calls (HS202.give [] rfl (Lent.rd HS202 (Lent.rd HS202 (Lent.nil) (i := 1) rfl ((HS202.cells_rd (i := 1) rfl).self)) (i := 0) rfl ((HS202.cells_rd (i := 0) rfl).self))) hc_freq_0 hc_lens_1 h215).mono (fun e w hc => ?_)) (fun w217 hw218 => ?_)
          · obtain ⟨rfl, h⟩ := hc
            exact ⟨rfl, h.chg0⟩
          have HS219 := HS202.keep hw218
          refine F_gval rfl rfl rfl rfl rfl rfl (O_eq rfl rfl rfl) ?_
          refine F_val rfl rfl rfl (O_pickF rfl rfl rfl) ?_
          refine F_know (i := 58) rfl (congrArg Value.bool (Option.some.inj H)) ?_
          exact F_grpQE ((Chg.refl NoB _).trans hw218) (fun a ha => Is.cons ha (Is.nil ha) rfl)
      · have HS212 := HS202.keep hw211
        refine F_val rfl rfl rfl (O_assign rfl rfl) ?_
        refine F_nil ?_
        refine L_ret (fun a ha => (post_ret1 ha rfl rfl ?_))
        obtain rfl := Option.some.inj H
        exact ⟨rfl, HS212.sel [] rfl⟩

/-! function 16: valise/build.Cost -/
theorem build_Cost.calls {S0 : Nat → Prop} {w0 : World} {A_freq_0 : Option Addr} {c_freq_0 : Nat} {A_lens_1 : Option Addr} {c_lens_1 : Nat} {l_freq_0 : List Int} {l_lens_1 : List Int} {r : Int × Int} (HS0 : Hp S0 w0 w0 [.rd A_freq_0 (rowC (Eint .i64) l_freq_0), .rd A_lens_1 (rowC (Eint .i64) l_lens_1)]) (hc_freq_0 : l_freq_0.length ≤ c_freq_0) (hc_lens_1 : l_lens_1.length ≤ c_lens_1) (h : build_Cost.f l_freq_0 l_lens_1 = some r) :
    Calls Try.prog 16 ([.slice A_freq_0 l_freq_0.length c_freq_0, .slice A_lens_1 l_lens_1.length c_lens_1] : List Value).toArray w0 (fun e w => e = .returned (.tuple #[.int .i64 r.1, .int .i64 r.2]) ∧ Hp S0 w0 w []) := by
  have H : ((if (288 < (l_freq_0.length : Int)) ∨ ((l_lens_1.length : Int) ≠ (l_freq_0.length : Int)) then (some (0, 1)) else ((build_Cost.l1 FU 0 l_lens_1).bind fun (yj6 : Sum (Int × Int) (Unit)) => onR yj6 (fun r => some r) fun () => (build_used.f l_freq_0).bind fun (z91, z92) => if z92 ≠ 0 then (some (0, z92)) else ((build_Cost.l3 FU 0 0 l_freq_0 l_lens_1).bind fun sum_138 => some (sum_138, 0)))) : Option (Int × Int)) = some r := h
  refine calls_start Try.func16 rfl rfl ?_
  refine L_seq ?_
  refine L_region ?_
  refine F_val rfl rfl rfl (O_assign rfl rfl) ?_
  refine F_val rfl rfl rfl (O_assign rfl rfl) ?_
  refine F_nil ?_
  refine L_seq ?_
  refine L_seq ?_
  refine L_region ?_
  refine F_val rfl rfl rfl (O_move rfl rfl) ?_
  refine F_val rfl rfl rfl (O_len rfl rfl Try.underlying22) ?_
  refine F_val rfl rfl rfl (O_gt rfl rfl rfl) ?_
  refine F_val rfl rfl rfl (O_move rfl rfl) ?_
  refine F_grp 6 [(22, .bool (decide ((288 < (l_freq_0.length : Int)) ∨ ((l_lens_1.length : Int) ≠ (l_freq_0.length : Int))))), (0, .slice A_freq_0 l_freq_0.length c_freq_0), (1, .slice A_lens_1 l_lens_1.length c_lens_1)] ?_ ?_
  · rcases Decidable.em (288 < (l_freq_0.length : Int)) with c4 | c4
    · refine F_know (i := 16) rfl (dec_t c4) ?_
      refine F_gskip rfl rfl rfl rfl rfl rfl rfl ?_
      refine F_gskip rfl rfl rfl rfl rfl rfl rfl ?_
      refine F_gskip rfl rfl rfl rfl rfl rfl rfl ?_
      refine F_gskip rfl rfl rfl rfl rfl rfl rfl ?_
      refine F_gskip rfl rfl rfl rfl rfl rfl rfl ?_
      refine F_val rfl rfl rfl (O_pickT rfl rfl rfl) ?_
      refine F_know (i := 22) rfl (dec_or_t (q := (l_lens_1.length : Int) ≠ (l_freq_0.length : Int)) c4) ?_
      exact F_grpE (fun a ha => Is.cons ha (Is.cons ha (Is.cons ha (Is.nil ha) rfl) rfl) rfl)
    · refine F_know (i := 16) rfl (dec_f c4) ?_
      refine F_gval rfl rfl rfl rfl rfl rfl (O_move rfl rfl) ?_
      refine F_gval rfl rfl rfl rfl rfl rfl (O_len rfl rfl Try.underlying22) ?_
      refine F_gval rfl rfl rfl rfl rfl rfl (O_move rfl rfl) ?_
      refine F_gval rfl rfl rfl rfl rfl rfl (O_len rfl rfl Try.underlying22) ?_
      refine F_gval rfl rfl rfl rfl rfl rfl (O_ne rfl rfl rfl) ?_
      refine F_val rfl rfl rfl (O_pickF rfl rfl rfl) ?_
      refine F_know (i := 22) rfl (dec_or_f (q := (l_lens_1.length : Int) ≠ (l_freq_0.length : Int)) c4) ?_
      exact F_grpE (fun a ha => Is.cons ha (Is.cons ha (Is.cons ha (Is.nil ha) rfl) rfl) rfl)
  · skip
    refine F_nil ?_
    refine L_condP rfl (fun c5 => ?_) (fun c5 => ?_)
    · have H := of_pos H c5
      refine L_seq ?_
      refine L_region ?_
      refine F_val rfl rfl rfl (O_assign rfl rfl) ?_
      refine F_val rfl rfl rfl (O_assign rfl rfl) ?_
      refine F_nil ?_
      refine L_ret (fun a ha => (post_ret2 ha rfl rfl rfl ?_))
      obtain rfl := Option.some.inj H
      exact ⟨rfl, HS0.sel [] rfl⟩
    · have H := of_neg H c5
      refine L_skip ?_
      refine L_seq ?_
      refine L_seq ?_
      refine L_region ?_
      refine F_val rfl rfl rfl (O_move rfl rfl) ?_
      refine F_val rfl rfl rfl (O_len rfl rfl Try.underlying22) ?_
      refine F_val rfl rfl rfl (O_move rfl rfl) ?_
      refine F_nil ?_
      obtain ⟨yj6, Hyj6, H⟩ := of_bind H
      refine L_join (fun a w => yj6 = Sum.inr () ∧ Is Try.f16.ntmps a [(0, .slice A_freq_0 l_freq_0.length c_freq_0), (1, .slice A_lens_1 l_lens_1.length c_lens_1)] ∧ Hp S0 w0 w [.rd A_freq_0 (rowC (Eint .i64) l_freq_0), .rd A_lens_1 (rowC (Eint .i64) l_lens_1)]) (fun Qj6 hNj6 hOj6 => ?_) (fun a w hR => ?_)
      · have HOj6 := H
        have H := Hyj6
        refine L_blk (fun Qb46 hNb46 hXb46 hOb46 => ?_)
        refine L_lp (fun k a w => ∃ (t71 : Int), Is Try.f16.ntmps a [(0, .slice A_freq_0 l_freq_0.length c_freq_0), (1, .slice A_lens_1 l_lens_1.length c_lens_1), (23, .slice A_lens_1 l_lens_1.length c_lens_1), (24, .int .i64 (l_lens_1.length : Int)), (25, .int .i64 t71)] ∧ Hp S0 w0 w [.rd A_freq_0 (rowC (Eint .i64) l_freq_0), .rd A_lens_1 (rowC (Eint .i64) l_lens_1)] ∧ build_Cost.l1 k t71 l_lens_1 = some yj6) FU (fun a ha => ⟨_, Is.cons ha (Is.cons ha (Is.cons ha (Is.cons ha (Is.cons ha (Is.nil ha) rfl) rfl) rfl) rfl) rfl, HS0.sel [0, 1] rfl, H⟩) (fun kp70 a w72 hI Qp70 hNp70 hOp70 => ?_)
        obtain ⟨t71, ha, HS73, HAp70⟩ := hI
        cases kp70 with
        | zero => cases (show (none : Option _) = some _ from HAp70)
        | succ kp70 =>
          have H := (build_Cost.l1.eq_2 ..).symm.trans HAp70
          refine wpLF_app ?_ ha
          refine L_seq ?_
          refine L_region ?_
          refine F_val rfl rfl rfl (O_lt rfl rfl rfl) ?_
          refine F_nil ?_
          refine L_seq ?_
          refine L_condP rfl (fun c74 => ?_) (fun c74 => ?_)
          · have H := of_pos H c74
            refine L_skip ?_
            refine L_seq ?_
            refine L_blk (fun Q75 hN75 hX75 hO75 => ?_)
            refine L_seq ?_
            refine L_region ?_
            obtain ⟨⟨g76, g77⟩, H⟩ := of_gd H
            refine F_val rfl rfl rfl (O_idx rfl rfl rfl Try.underlying22 size3 g76 g77 (Cells.isA (HS73.cells_rd (i := 1) rfl) (rowC_ne (E := (Eint .i64)) g76 g77 (by decide)))) ?_
            refine F_val rfl rfl rfl (O_loadC rfl rfl flat3 (HS73.cells_rd (i := 1) rfl) (int_cell g76 g77)) ?_
            obtain ⟨x78, h79, H⟩ := of_bnd H
            refine F_val rfl rfl rfl (O_assign' rfl rfl (congrArg (Value.int .i64) h79)) ?_
            refine F_nil ?_
            refine L_seq ?_
            refine L_region ?_
            refine F_val rfl rfl rfl (O_move rfl rfl) ?_
            refine F_val rfl rfl rfl (O_lt rfl rfl rfl) ?_
            refine F_val rfl rfl rfl (O_move rfl rfl) ?_
            refine F_grp 3 [(34, .bool (decide ((x78 < 0) ∨ (288 < x78)))), (0, .slice A_freq_0 l_freq_0.length c_freq_0), (1, .slice A_lens_1 l_lens_1.length c_lens_1), (23, .slice A_lens_1 l_lens_1.length c_lens_1), (24, .int .i64 (l_lens_1.length : Int)), (25, .int .i64 t71)] ?_ ?_
            · rcases Decidable.em (x78 < 0) with c83 | c83
              · refine F_know (i := 31) rfl (dec_t c83) ?_
                refine F_gskip rfl rfl rfl rfl rfl rfl rfl ?_
                refine F_gskip rfl rfl rfl rfl rfl rfl rfl ?_
                refine F_val rfl rfl rfl (O_pickT rfl rfl rfl) ?_
                refine F_know (i := 34) rfl (dec_or_t (q := 288 < x78) c83) ?_
                exact F_grpE (fun a ha => Is.cons ha (Is.cons ha (Is.cons ha (Is.cons ha (Is.cons ha (Is.cons ha (Is.nil ha) rfl) rfl) rfl) rfl) rfl) rfl)
              · refine F_know (i := 31) rfl (dec_f c83) ?_
                refine F_gval rfl rfl rfl rfl rfl rfl (O_move rfl rfl) ?_
                refine F_gval rfl rfl rfl rfl rfl rfl (O_gt rfl rfl rfl) ?_
                refine F_val rfl rfl rfl (O_pickF rfl rfl rfl) ?_
                refine F_know (i := 34) rfl (dec_or_f (q := 288 < x78) c83) ?_
                exact F_grpE (fun a ha => Is.cons ha (Is.cons ha (Is.cons ha (Is.cons ha (Is.cons ha (Is.cons ha (Is.nil ha) rfl) rfl) rfl) rfl) rfl) rfl)
            · skip
              refine F_nil ?_
              refine L_condP rfl (fun c84 => ?_) (fun c84 => ?_)
              · have H := of_pos H c84
                refine L_seq ?_
                refine L_region ?_
                refine F_val rfl rfl rfl (O_assign rfl rfl) ?_
                refine F_val rfl rfl rfl (O_assign rfl rfl) ?_
                refine F_nil ?_
                refine L_ret (fun a ha => (hO75 .ret a _ rfl (hOp70 .ret a _ rfl (hOb46 .ret a _ rfl (hOj6 .ret a _ rfl (post_ret2 ha rfl rfl rfl ?_))))))
                obtain rfl := Option.some.inj H
                obtain rfl := Option.some.inj (show (some (0, 1) : Option (Int × Int)) = some _ from HOj6)
                exact ⟨rfl, HS73.sel [] rfl⟩
              · have H := of_neg H c84
                refine L_skip ?_
                refine L_endB hN75 ?_
                refine L_region ?_
                refine F_val rfl rfl rfl (O_add rfl rfl rfl) ?_
                refine F_val rfl rfl rfl (O_move rfl rfl) ?_
                refine F_nil ?_
                refine L_nil (fun a ha => hNp70 _ a _ (Nat.lt_succ_self _) ⟨_, Is.cons ha (Is.cons ha (Is.cons ha (Is.cons ha (Is.cons ha (Is.nil ha) rfl) rfl) rfl) rfl) rfl, HS73.sel [0, 1] rfl, H⟩)
          · have H := of_neg H c74
            refine L_exitB (fun a w h => hOp70 (.exit 0) a w rfl (hXb46 a w h)) ?_
            refine L_nil (fun a ha => hNj6 a _ ⟨(Option.some.inj H).symm, Is.cons ha (Is.cons ha (Is.nil ha) rfl) rfl, HS73.sel [0, 1] rfl⟩)
      · obtain ⟨rfl, ha, HS86⟩ := hR
        refine wpLF_app ?_ ha
        have H := (onR_inr _ _ _).symm.trans H
        refine L_seq ?_
        refine L_seq ?_
        refine L_region ?_
        refine F_val rfl rfl rfl (O_move rfl rfl) ?_
        obtain ⟨⟨z91, z92⟩, h90, H⟩ := of_bind H
        refine F_call (xs := [.tmp 37]) rfl rfl rfl rfl Try.func35 nm35 rfl rfl ((build_used.calls (HS86.give [] rfl (Lent.rd HS86 (Lent.nil) (i := 0) rfl ((HS86.cells_rd (i := 0) rfl).self))) hc_freq_0 h90).mono (fun e w hc => ?_))
        obtain ⟨A95, c96, rfl, HSo⟩ := hc
        refine ⟨.tuple #[.slice A95 z91.length c96, .int .i64 z92], rfl, ?_⟩
        have HS94 : Hp S0 w0 w [.rd A_freq_0 (rowC (Eint .i64) l_freq_0), .rd A_lens_1 (rowC (Eint .i64) l_lens_1), .own A95 c96 (rowC (Eint .i64) z91) 3 (Eint .i64).sz] := (HS86.back [] HSo rfl).sel [0, 1, 2] rfl
        refine F_val rfl rfl rfl (O_move rfl rfl) ?_
        refine F_val rfl rfl rfl (O_extract (v := .slice A95 z91.length c96) rfl rfl rfl) ?_
        refine F_val rfl rfl rfl (O_extract (v := .int .i64 z92) rfl rfl rfl) ?_
        refine F_val rfl rfl rfl (O_assign rfl rfl) ?_
        refine F_val rfl rfl rfl (O_assign rfl rfl) ?_
        refine F_nil ?_
        refine L_seq ?_
        refine L_region ?_
        refine F_val rfl rfl rfl (O_move rfl rfl) ?_
        refine F_val rfl rfl rfl (O_ne rfl rfl rfl) ?_
        refine F_nil ?_
        refine L_condP rfl (fun c98 => ?_) (fun c98 => ?_)
        · have H := of_pos H c98
          refine L_seq ?_
          refine L_region ?_
          refine F_val rfl rfl rfl (O_move rfl rfl) ?_
          refine F_val rfl rfl rfl (O_assign rfl rfl) ?_
          refine F_val rfl rfl rfl (O_assign rfl rfl) ?_
          refine F_nil ?_
          refine L_ret (fun a ha => (post_ret2 ha rfl rfl rfl ?_))
          obtain rfl := Option.some.inj H
          exact ⟨rfl, HS94.sel [] rfl⟩
        · have H := of_neg H c98
          refine L_skip ?_
          refine L_seq ?_
          refine L_region ?_
          refine F_val rfl rfl rfl (O_assign rfl rfl) ?_
          refine F_nil ?_
          refine L_seq ?_
          refine L_seq ?_
          refine L_region ?_
          refine F_val rfl rfl rfl (O_move rfl rfl) ?_
          refine F_val rfl rfl rfl (O_len rfl rfl Try.underlying22) ?_
          refine F_val rfl rfl rfl (O_move rfl rfl) ?_
          refine F_nil ?_
          obtain ⟨yj99, Hyj99, H⟩ := of_bind H
          refine L_join (fun a w => ∃ (sum_138 : Int), yj99 = sum_138 ∧ Is Try.f16.ntmps a [(10, .int .i64 sum_138)] ∧ Hp S0 w0 w [.rd A_freq_0 (rowC (Eint .i64) l_freq_0), .rd A_lens_1 (rowC (Eint .i64) l_lens_1)]) (fun Qj99 hNj99 hOj99 => ?_) (fun a w hR => ?_)
          · skip
            have H := Hyj99
            refine L_blk (fun Qb139 hNb139 hXb139 hOb139 => ?_)
            refine L_lp (fun k a w => ∃ (sum_163 : Int), ∃ (t164 : Int), Is Try.f16.ntmps a [(1, .slice A_lens_1 l_lens_1.length c_lens_1), (10, .int .i64 sum_163), (44, .slice A_freq_0 l_freq_0.length c_freq_0), (45, .int .i64 (l_freq_0.length : Int)), (46, .int .i64 t164)] ∧ Hp S0 w0 w [.rd A_freq_0 (rowC (Eint .i64) l_freq_0), .rd A_lens_1 (rowC (Eint .i64) l_lens_1)] ∧ build_Cost.l3 k sum_163 t164 l_freq_0 l_lens_1 = some yj99) FU (fun a ha => ⟨_, _, Is.cons ha (Is.cons ha (Is.cons ha (Is.cons ha (Is.cons ha (Is.nil ha) rfl) rfl) rfl) rfl) rfl, HS94.sel [0, 1] rfl, H⟩) (fun kp162 a w165 hI Qp162 hNp162 hOp162 => ?_)
            obtain ⟨sum_163, t164, ha, HS166, HAp162⟩ := hI
            cases kp162 with
            | zero => cases (show (none : Option _) = some _ from HAp162)
            | succ kp162 =>
              have H := (build_Cost.l3.eq_2 ..).symm.trans HAp162
              refine wpLF_app ?_ ha
              refine L_seq ?_
              refine L_region ?_
              refine F_val rfl rfl rfl (O_lt rfl rfl rfl) ?_
              refine F_nil ?_
              refine L_seq ?_
              refine L_condP rfl (fun c167 => ?_) (fun c167 => ?_)
              · have H := of_pos H c167
                refine L_skip ?_
                refine L_seq ?_
                refine L_blk (fun Q168 hN168 hX168 hO168 => ?_)
                refine L_seq ?_
                refine L_region ?_
                refine F_val rfl rfl rfl (O_move rfl rfl) ?_
                obtain ⟨⟨g169, g170⟩, H⟩ := of_gd H
                refine F_val rfl rfl rfl (O_idx rfl rfl rfl Try.underlying22 size3 g169 g170 (Cells.isA (HS166.cells_rd (i := 0) rfl) (rowC_ne (E := (Eint .i64)) g169 g170 (by decide)))) ?_
                refine F_val rfl rfl rfl (O_loadC rfl rfl flat3 (HS166.cells_rd (i := 0) rfl) (int_cell g169 g170)) ?_
                refine F_val rfl rfl rfl (O_assign rfl rfl) ?_
                obtain ⟨x171, h172, H⟩ := of_bnd H
                refine F_val rfl rfl rfl (O_assign' rfl rfl (congrArg (Value.int .i64) h172)) ?_
                refine F_nil ?_
                refine L_region ?_
                refine F_val rfl rfl rfl (O_move rfl rfl) ?_
                refine F_val rfl rfl rfl (O_move rfl rfl) ?_
                refine F_val rfl rfl rfl (O_move rfl rfl) ?_
                refine F_val rfl rfl rfl (O_move rfl rfl) ?_
                obtain ⟨⟨g173, g174⟩, H⟩ := of_gd H
                refine F_val rfl rfl rfl (O_idx rfl rfl rfl Try.underlying22 size3 g173 g174 (Cells.isA (HS166.cells_rd (i := 1) rfl) (rowC_ne (E := (Eint .i64)) g173 g174 (by decide)))) ?_
                refine F_val rfl rfl rfl (O_loadC rfl rfl flat3 (HS166.cells_rd (i := 1) rfl) (int_cell g173 g174)) ?_
                refine F_val rfl rfl rfl (O_mul rfl rfl rfl) ?_
                refine F_val rfl rfl rfl (O_add rfl rfl rfl) ?_
                obtain ⟨x175, h176, H⟩ := of_bnd H
                refine F_val rfl rfl rfl (O_assign' rfl rfl (congrArg (Value.int .i64) h176)) ?_
                refine F_nil ?_
                refine L_endB hN168 ?_
                refine L_region ?_
                refine F_val rfl rfl rfl (O_add rfl rfl rfl) ?_
                refine F_val rfl rfl rfl (O_move rfl rfl) ?_
                refine F_nil ?_
                refine L_nil (fun a ha => hNp162 _ a _ (Nat.lt_succ_self _) ⟨_, _, Is.cons ha (Is.cons ha (Is.cons ha (Is.cons ha (Is.cons ha (Is.nil ha) rfl) rfl) rfl) rfl) rfl, HS166.sel [0, 1] rfl, H⟩)
              · have H := of_neg H c167
                refine L_exitB (fun a w h => hOp162 (.exit 2) a w rfl (hXb139 a w h)) ?_
                refine L_nil (fun a ha => hNj99 a _ ⟨_, (Option.some.inj H).symm, Is.cons ha (Is.nil ha) rfl, HS166.sel [0, 1] rfl⟩)
          · obtain ⟨sum_138, ej, ha, HS178⟩ := hR
            obtain rfl := ej.symm
            refine wpLF_app ?_ ha
            refine L_seq ?_
            refine L_region ?_
            refine F_val rfl rfl rfl (O_move rfl rfl) ?_
            refine F_val rfl rfl rfl (O_assign rfl rfl) ?_
            refine F_val rfl rfl rfl (O_assign rfl rfl) ?_
            refine F_nil ?_
            refine L_ret (fun a ha => (post_ret2 ha rfl rfl rfl ?_))
            obtain rfl := Option.some.inj H
            exact ⟨rfl, HS178.sel [] rfl⟩

/-! function 57: valise/bits.NewWriter -/
theorem bits_NewWriter.calls {S0 : Nat → Prop} {w0 : World} {r : (List Int × Int)} (HS0 : Hp S0 w0 w0 []) (h : bits_NewWriter.f = some r) :
    Calls Try.prog 57 ([] : List Value).toArray w0 (fun e w => ∃ (g1 : Nat), ∃ (A1_0 : Option Addr), ∃ (c1_0 : Nat), e = .returned (.pointer (some ⟨g1, 0, none⟩)) ∧ Hp S0 w0 w [.box g1 [.slice A1_0 r.1.length c1_0, .int .i64 r.2] 101, .own A1_0 c1_0 (rowC (Eint .u8) r.1) 5 (Eint .u8).sz]) := by
  have H : ((some (([] : List Int), 0)) : Option ((List Int × Int))) = some r := h
  refine calls_start Try.func57 rfl rfl ?_
  refine L_seq ?_
  refine L_region ?_
  refine F_val rfl rfl rfl (O_assign rfl rfl) ?_
  refine F_nil ?_
  refine L_seq ?_
  refine L_region ?_
  refine F_val rfl rfl rfl (O_build (vs := []) (v := .agg #[.slice none 0 0, .int .i64 0]) rfl rfl rfl (fun w => by kernel_rfl)) ?_
  have HS5 := HS0.addNil 5 (Eint .u8).sz
  have HS5 : Hp S0 w0 w0 [.own none 0 (rowC (Eint .u8) ([] : List Int)) 5 (Eint .u8).sz] := HS5
  refine F_box (C := [.slice none ([] : List Int).length 0, .int .i64 0]) rfl rfl rfl rfl rfl rfl HS5 (fun w1 g3 HS2 => ?_)
  have HS2 : Hp S0 w0 w1 [.own none 0 (rowC (Eint .u8) ([] : List Int)) 5 (Eint .u8).sz, .box g3 ([.slice none ([] : List Int).length 0, .int .i64 0]) 101] := HS2
  refine F_val rfl rfl rfl (O_assign rfl rfl) ?_
  refine F_nil ?_
  refine L_ret (fun a ha => (post_ret1 ha rfl rfl ?_))
  obtain rfl := Option.some.inj H
  exact ⟨_, _, _, rfl, HS2.sel [1, 0] rfl⟩

/-! function 71: valise/code.count -/
theorem code_count.calls {S0 : Nat → Prop} {w0 : World} {A_lens_0 : Option Addr} {c_lens_0 : Nat} {l_lens_0 : List Int} {r : List Int × Int} (HS0 : Hp S0 w0 w0 [.rd A_lens_0 (rowC (Eint .i64) l_lens_0)]) (hc_lens_0 : l_lens_0.length ≤ c_lens_0) (h : code_count.f l_lens_0 = some r) :
    Calls Try.prog 71 ([.slice A_lens_0 l_lens_0.length c_lens_0] : List Value).toArray w0 (fun e w => e = .returned (.tuple #[.agg (rowC (Eint .i64) r.1).toArray, .int .i64 r.2]) ∧ Hp S0 w0 w []) := by
  have H : ((if 288 < (l_lens_0.length : Int) then (some ((List.replicate 16 (0 : Int)), 1)) else ((code_count.l1 FU (List.replicate 16 (0 : Int)) 0 l_lens_0).bind fun (yj12 : Sum (List Int × Int) (List Int)) => onR yj12 (fun r => some r) fun y83 => gd (y83.length = 16) (bnd (y83.set (0 : Int).toNat 0) fun l158 => some (l158, 0)))) : Option (List Int × Int)) = some r := h
  refine calls_start Try.func71 rfl rfl ?_
  refine L_seq ?_
  refine L_region ?_
  refine F_alloc (C := rowC (Eint .i64) (List.replicate 16 (0 : Int))) rfl rfl rfl rfl zero103 rfl HS0 (fun w1 g3 HS2 => ?_)
  have HS2 : Hp S0 w0 w1 [.rd A_lens_0 (rowC (Eint .i64) l_lens_0), .box g3 (rowC (Eint .i64) (List.replicate 16 (0 : Int))) 103] := HS2
  refine F_val rfl rfl rfl (O_assign rfl rfl) ?_
  refine F_nil ?_
  refine L_seq ?_
  refine L_region ?_
  refine F_alloc (C := rowC (Eint .i64) (List.replicate 16 (0 : Int))) rfl rfl rfl rfl zero103 rfl HS2 (fun w5 g7 HS6 => ?_)
  have HS6 : Hp S0 w0 w5 [.rd A_lens_0 (rowC (Eint .i64) l_lens_0), .box g3 (rowC (Eint .i64) (List.replicate 16 (0 : Int))) 103, .box g7 (rowC (Eint .i64) (List.replicate 16 (0 : Int))) 103] := HS6
  refine F_nil ?_
  refine L_seq ?_
  refine L_seq ?_
  refine L_region ?_
  refine F_val rfl rfl rfl (O_move rfl rfl) ?_
  refine F_val rfl rfl rfl (O_len rfl rfl Try.underlying22) ?_
  refine F_val rfl rfl rfl (O_gt rfl rfl rfl) ?_
  refine F_nil ?_
  refine L_condP rfl (fun c9 => ?_) (fun c9 => ?_)
  · have H := of_pos H c9
    refine L_seq ?_
    refine L_region ?_
    refine F_val rfl rfl rfl (O_loadSg [] (rowC (Eint .i64) (List.replicate 16 (0 : Int))) [] rfl rfl wide103 (HS6.cells_box (i := 2) rfl) (by simp only [List.append_assoc, List.cons_append, List.nil_append, List.append_nil]) rfl (row_len List.length_replicate) (by decide)) ?_
    refine F_stSg 1 (rowC (Eint .i64) (List.replicate 16 (0 : Int))) [] (rowC (Eint .i64) (List.replicate 16 (0 : Int))) (rowC (Eint .i64) (List.replicate 16 (0 : Int))) [] rfl rfl rfl rfl rfl size103 HS6 rfl rfl ones_row (by simp only [List.append_assoc, List.cons_append, List.nil_append, List.append_nil]) (by simp only [List.append_assoc, List.cons_append, List.nil_append, List.append_nil]) rfl (row_len List.length_replicate) (row_len List.length_replicate) (fun w10 HS11 => ?_)
    have HS11 : Hp S0 w0 w10 [.rd A_lens_0 (rowC (Eint .i64) l_lens_0), .box g3 (rowC (Eint .i64) (List.replicate 16 (0 : Int))) 103, .box g7 (rowC (Eint .i64) (List.replicate 16 (0 : Int))) 103] := HS11
    refine F_val rfl rfl rfl (O_assign rfl rfl) ?_
    refine F_nil ?_
    refine L_ret (fun a ha => (post_retc2 ha rfl rfl wide103 (HS11.cells_box (i := 1) rfl) (row_len List.length_replicate) (by decide) rfl ?_))
    obtain rfl := Option.some.inj H
    exact ⟨rfl, HS11.sel [] rfl⟩
  · have H := of_neg H c9
    refine L_skip ?_
    refine L_seq ?_
    refine L_seq ?_
    refine L_region ?_
    refine F_val rfl rfl rfl (O_move rfl rfl) ?_
    refine F_val rfl rfl rfl (O_len rfl rfl Try.underlying22) ?_
    refine F_val rfl rfl rfl (O_move rfl rfl) ?_
    refine F_nil ?_
    obtain ⟨yj12, Hyj12, H⟩ := of_bind H
    refine L_join (fun a w => ∃ (y83 : List Int), yj12 = Sum.inr y83 ∧ Is Try.f71.ntmps a [(2, .pointer (some ⟨g3, 0, none⟩)), (4, .pointer (some ⟨g7, 0, none⟩))] ∧ Hp S0 w0 w [.rd A_lens_0 (rowC (Eint .i64) l_lens_0), .box g3 (rowC (Eint .i64) (List.replicate 16 (0 : Int))) 103, .box g7 (rowC (Eint .i64) y83) 103]) (fun Qj12 hNj12 hOj12 => ?_) (fun a w hR => ?_)
    · have HOj12 := H
      have H := Hyj12
      refine L_blk (fun Qb84 hNb84 hXb84 hOb84 => ?_)
      refine L_lp (fun k a w => ∃ (y129 : List Int), ∃ (t130 : Int), Is Try.f71.ntmps a [(2, .pointer (some ⟨g3, 0, none⟩)), (4, .pointer (some ⟨g7, 0, none⟩)), (11, .slice A_lens_0 l_lens_0.length c_lens_0), (12, .int .i64 (l_lens_0.length : Int)), (13, .int .i64 t130)] ∧ Hp S0 w0 w [.rd A_lens_0 (rowC (Eint .i64) l_lens_0), .box g3 (rowC (Eint .i64) (List.replicate 16 (0 : Int))) 103, .box g7 (rowC (Eint .i64) y129) 103] ∧ code_count.l1 k y129 t130 l_lens_0 = some yj12) FU (fun a ha => ⟨_, _, Is.cons ha (Is.cons ha (Is.cons ha (Is.cons ha (Is.cons ha (Is.nil ha) rfl) rfl) rfl) rfl) rfl, HS6.sel [0, 1, 2] rfl, H⟩) (fun kp128 a w131 hI Qp128 hNp128 hOp128 => ?_)
      obtain ⟨y129, t130, ha, HS132, HAp128⟩ := hI
      cases kp128 with
      | zero => cases (show (none : Option _) = some _ from HAp128)
      | succ kp128 =>
        have H := (code_count.l1.eq_2 ..).symm.trans HAp128
        refine wpLF_app ?_ ha
        refine L_seq ?_
        refine L_region ?_
        refine F_val rfl rfl rfl (O_lt rfl rfl rfl) ?_
        refine F_nil ?_
        refine L_seq ?_
        refine L_condP rfl (fun c133 => ?_) (fun c133 => ?_)
        · have H := of_pos H c133
          refine L_skip ?_
          refine L_seq ?_
          refine L_blk (fun Q134 hN134 hX134 hO134 => ?_)
          refine L_seq ?_
          refine L_region ?_
          obtain ⟨⟨g135, g136⟩, H⟩ := of_gd H
          refine F_val rfl rfl rfl (O_idx rfl rfl rfl Try.underlying22 size3 g135 g136 (Cells.isA (HS132.cells_rd (i := 0) rfl) (rowC_ne (E := (Eint .i64)) g135 g136 (by decide)))) ?_
          refine F_val rfl rfl rfl (O_loadC rfl rfl flat3 (HS132.cells_rd (i := 0) rfl) (int_cell g135 g136)) ?_
          obtain ⟨x137, h138, H⟩ := of_bnd H
          refine F_val rfl rfl rfl (O_assign' rfl rfl (congrArg (Value.int .i64) h138)) ?_
          refine F_nil ?_
          refine L_seq ?_
          refine L_seq ?_
          refine L_region ?_
          refine F_val rfl rfl rfl (O_move rfl rfl) ?_
          refine F_val rfl rfl rfl (O_lt rfl rfl rfl) ?_
          refine F_val rfl rfl rfl (O_move rfl rfl) ?_
          refine F_grp 3 [(22, .bool (decide ((x137 < 0) ∨ (15 < x137)))), (2, .pointer (some ⟨g3, 0, none⟩)), (4, .pointer (some ⟨g7, 0, none⟩)), (6, .int .i64 x137), (11, .slice A_lens_0 l_lens_0.length c_lens_0), (12, .int .i64 (l_lens_0.length : Int)), (13, .int .i64 t130)] ?_ ?_
          · rcases Decidable.em (x137 < 0) with c142 | c142
            · refine F_know (i := 19) rfl (dec_t c142) ?_
              refine F_gskip rfl rfl rfl rfl rfl rfl rfl ?_
              refine F_gskip rfl rfl rfl rfl rfl rfl rfl ?_
              refine F_val rfl rfl rfl (O_pickT rfl rfl rfl) ?_
              refine F_know (i := 22) rfl (dec_or_t (q := 15 < x137) c142) ?_
              exact F_grpE (fun a ha => Is.cons ha (Is.cons ha (Is.cons ha (Is.cons ha (Is.cons ha (Is.cons ha (Is.cons ha (Is.nil ha) rfl) rfl) rfl) rfl) rfl) rfl) rfl)
            · refine F_know (i := 19) rfl (dec_f c142) ?_
              refine F_gval rfl rfl rfl rfl rfl rfl (O_move rfl rfl) ?_
              refine F_gval rfl rfl rfl rfl rfl rfl (O_gt rfl rfl rfl) ?_
              refine F_val rfl rfl rfl (O_pickF rfl rfl rfl) ?_
              refine F_know (i := 22) rfl (dec_or_f (q := 15 < x137) c142) ?_
              exact F_grpE (fun a ha => Is.cons ha (Is.cons ha (Is.cons ha (Is.cons ha (Is.cons ha (Is.cons ha (Is.cons ha (Is.nil ha) rfl) rfl) rfl) rfl) rfl) rfl) rfl)
          · skip
            refine F_nil ?_
            refine L_condP rfl (fun c143 => ?_) (fun c143 => ?_)
            · have H := of_pos H c143
              refine L_seq ?_
              refine L_region ?_
              refine F_val rfl rfl rfl (O_build (vs := []) (v := .agg (rowC (Eint .i64) (List.replicate 16 (0 : Int))).toArray) rfl rfl rfl zarr103) ?_
              refine F_stSg 1 (rowC (Eint .i64) (List.replicate 16 (0 : Int))) [] (rowC (Eint .i64) (List.replicate 16 (0 : Int))) (rowC (Eint .i64) (List.replicate 16 (0 : Int))) [] rfl rfl rfl rfl rfl size103 HS132 rfl rfl ones_row (by simp only [List.append_assoc, List.cons_append, List.nil_append, List.append_nil]) (by simp only [List.append_assoc, List.cons_append, List.nil_append, List.append_nil]) rfl (row_len List.length_replicate) (row_len List.length_replicate) (fun w144 HS145 => ?_)
              have HS145 : Hp S0 w0 w144 [.rd A_lens_0 (rowC (Eint .i64) l_lens_0), .box g3 (rowC (Eint .i64) (List.replicate 16 (0 : Int))) 103, .box g7 (rowC (Eint .i64) y129) 103] := HS145
              refine F_val rfl rfl rfl (O_assign rfl rfl) ?_
              refine F_nil ?_
              refine L_ret (fun a ha => (hO134 .ret a _ rfl (hOp128 .ret a _ rfl (hOb84 .ret a _ rfl (hOj12 .ret a _ rfl (post_retc2 ha rfl rfl wide103 (HS145.cells_box (i := 1) rfl) (row_len List.length_replicate) (by decide) rfl ?_))))))
              obtain rfl := Option.some.inj H
              obtain rfl := Option.some.inj (show (some ((List.replicate 16 (0 : Int)), 50) : Option (List Int × Int)) = some _ from HOj12)
              exact ⟨rfl, HS145.sel [] rfl⟩
            · have H := of_neg H c143
              refine L_skip ?_
              refine L_region ?_
              refine F_val rfl rfl rfl (O_move rfl rfl) ?_
              obtain ⟨⟨g146, g147⟩, H⟩ := of_gd H
              refine F_val rfl rfl rfl (O_idxA rfl rfl rfl Try.underlying103 size3 g146 g147) ?_
              obtain ⟨g148, H⟩ := of_gd H
              refine F_val rfl rfl rfl (O_loadB rfl rfl flat3 (HS132.cells_box (i := 2) rfl) (at0 (int_cell g146 (arr_lt g148 g147)))) ?_
              refine F_val rfl rfl rfl (O_add rfl rfl rfl) ?_
              refine F_val rfl rfl rfl (O_idxA rfl rfl rfl Try.underlying103 size3 g146 g147) ?_
              obtain ⟨l151, h152, H⟩ := of_bnd H
              refine F_stAr (E := (Eint .i64)) (xs := y129) (q := x137) (a := IntKind.i64.wrap ((rd y129 x137) + 1)) (off := 0) 2 (rowC (Eint .i64) l151) [] [] rfl rfl rfl rfl rfl size3 HS132 rfl rfl (by simp only [List.append_assoc, List.cons_append, List.nil_append, List.append_nil]) rfl g146 (arr_lt g148 g147) h152 (by simp only [List.append_assoc, List.cons_append, List.nil_append, List.append_nil]) (fun w149 HS150 => ?_)
              have hl153 : l151.length = 16 := by rw [← h152, List.length_set]; exact g148
              have HS150 : Hp S0 w0 w149 [.rd A_lens_0 (rowC (Eint .i64) l_lens_0), .box g3 (rowC (Eint .i64) (List.replicate 16 (0 : Int))) 103, .box g7 (rowC (Eint .i64) l151) 103] := HS150
              refine F_nil ?_
              refine L_endB hN134 ?_
              refine L_region ?_
              refine F_val rfl rfl rfl (O_add rfl rfl rfl) ?_
              refine F_val rfl rfl rfl (O_move rfl rfl) ?_
              refine F_nil ?_
              refine L_nil (fun a ha => hNp128 _ a _ (Nat.lt_succ_self _) ⟨_, _, Is.cons ha (Is.cons ha (Is.cons ha (Is.cons ha (Is.cons ha (Is.nil ha) rfl) rfl) rfl) rfl) rfl, HS150.sel [0, 1, 2] rfl, H⟩)
        · have H := of_neg H c133
          refine L_exitB (fun a w h => hOp128 (.exit 0) a w rfl (hXb84 a w h)) ?_
          refine L_nil (fun a ha => hNj12 a _ ⟨_, (Option.some.inj H).symm, Is.cons ha (Is.cons ha (Is.nil ha) rfl) rfl, HS132.sel [0, 1, 2] rfl⟩)
    · obtain ⟨y83, rfl, ha, HS155⟩ := hR
      refine wpLF_app ?_ ha
      have H := (onR_inr _ _ _).symm.trans H
      refine L_seq ?_
      refine L_region ?_
      refine F_val rfl rfl rfl (O_idxA rfl rfl rfl Try.underlying103 size3 (by decide) (by decide)) ?_
      obtain ⟨g160, H⟩ := of_gd H
      obtain ⟨l158, h159, H⟩ := of_bnd H
      refine F_stAr (E := (Eint .i64)) (xs := y83) (q := 0) (a := 0) (off := 0) 2 (rowC (Eint .i64) l158) [] [] rfl rfl rfl rfl rfl size3 HS155 rfl rfl (by simp only [List.append_assoc, List.cons_append, List.nil_append, List.append_nil]) rfl (by decide) (arr_lt g160 (by decide)) h159 (by simp only [List.append_assoc, List.cons_append, List.nil_append, List.append_nil]) (fun w156 HS157 => ?_)
      have hl161 : l158.length = 16 := by rw [← h159, List.length_set]; exact g160
      have HS157 : Hp S0 w0 w156 [.rd A_lens_0 (rowC (Eint .i64) l_lens_0), .box g3 (rowC (Eint .i64) (List.replicate 16 (0 : Int))) 103, .box g7 (rowC (Eint .i64) l158) 103] := HS157
      refine F_nil ?_
      refine L_seq ?_
      refine L_region ?_
      refine F_val rfl rfl rfl (O_loadSg [] (rowC (Eint .i64) l158) [] rfl rfl wide103 (HS157.cells_box (i := 2) rfl) (by simp only [List.append_assoc, List.cons_append, List.nil_append, List.append_nil]) rfl (row_len hl161) (by decide)) ?_
      refine F_stSg 1 (rowC (Eint .i64) l158) [] (rowC (Eint .i64) (List.replicate 16 (0 : Int))) (rowC (Eint .i64) l158) [] rfl rfl rfl rfl rfl size103 HS157 rfl rfl ones_row (by simp only [List.append_assoc, List.cons_append, List.nil_append, List.append_nil]) (by simp only [List.append_assoc, List.cons_append, List.nil_append, List.append_nil]) rfl (row_len List.length_replicate) (row_len hl161) (fun w162 HS163 => ?_)
      have HS163 : Hp S0 w0 w162 [.rd A_lens_0 (rowC (Eint .i64) l_lens_0), .box g3 (rowC (Eint .i64) l158) 103, .box g7 (rowC (Eint .i64) l158) 103] := HS163
      refine F_val rfl rfl rfl (O_assign rfl rfl) ?_
      refine F_nil ?_
      refine L_ret (fun a ha => (post_retc2 ha rfl rfl wide103 (HS163.cells_box (i := 1) rfl) (row_len hl161) (by decide) rfl ?_))
      obtain rfl := Option.some.inj H
      exact ⟨rfl, HS163.sel [] rfl⟩

/-! function 73: valise/code.shape -/
theorem code_shape.calls {S0 : Nat → Prop} {w0 : World} {l_n_0 : List Int} {r : Int} (HS0 : Hp S0 w0 w0 []) (h : code_shape.f l_n_0 = some r) :
    Calls Try.prog 73 ([.agg (rowC (Eint .i64) l_n_0).toArray] : List Value).toArray w0 (fun e w => e = .returned (.int .i64 r) ∧ Hp S0 w0 w []) := by
  have H : (((code_shape.l1 FU 0 0 1 l_n_0).bind fun (words_49, used_50) => if words_49 = 0 then (some 0) else ((if words_49 = 1 then (gd (l_n_0.length = 16) (some (decide (rd l_n_0 1 = 1)))) else (some false)).bind fun b99 => if b99 = true then (some 1) else (if 32768 < used_50 then (some 3) else (if used_50 = 32768 then (some 4) else (some 2))))) : Option (Int)) = some r := h
  refine calls_start Try.func73 rfl rfl ?_
  refine L_seq ?_
  refine L_region ?_
  refine F_box (C := rowC (Eint .i64) l_n_0) rfl rfl rfl rfl rfl rfl HS0 (fun w1 g3 HS2 => ?_)
  have HS2 : Hp S0 w0 w1 [.box g3 (rowC (Eint .i64) l_n_0) 103] := HS2
  refine F_val rfl rfl rfl (O_assign rfl rfl) ?_
  refine F_nil ?_
  refine L_seq ?_
  refine L_region ?_
  refine F_val rfl rfl rfl (O_assign rfl rfl) ?_
  refine F_val rfl rfl rfl (O_assign rfl rfl) ?_
  refine F_nil ?_
  refine L_seq ?_
  refine L_seq ?_
  refine L_region ?_
  refine F_val rfl rfl rfl (O_assign rfl rfl) ?_
  refine F_nil ?_
  obtain ⟨yj5, Hyj5, H⟩ := of_bind H
  refine L_join (fun a w => ∃ (words_49 : Int), ∃ (used_50 : Int), yj5 = (words_49, used_50) ∧ Is Try.f73.ntmps a [(1, .pointer (some ⟨g3, 0, none⟩)), (3, .int .i64 words_49), (4, .int .i64 used_50)] ∧ Hp S0 w0 w [.box g3 (rowC (Eint .i64) l_n_0) 103]) (fun Qj5 hNj5 hOj5 => ?_) (fun a w hR => ?_)
  · skip
    have H := Hyj5
    refine L_blk (fun Qb51 hNb51 hXb51 hOb51 => ?_)
    refine L_lp (fun k a w => ∃ (words_77 : Int), ∃ (used_78 : Int), ∃ (l_79 : Int), Is Try.f73.ntmps a [(1, .pointer (some ⟨g3, 0, none⟩)), (3, .int .i64 words_77), (4, .int .i64 used_78), (5, .int .i64 l_79)] ∧ Hp S0 w0 w [.box g3 (rowC (Eint .i64) l_n_0) 103] ∧ code_shape.l1 k words_77 used_78 l_79 l_n_0 = some yj5) FU (fun a ha => ⟨_, _, _, Is.cons ha (Is.cons ha (Is.cons ha (Is.cons ha (Is.nil ha) rfl) rfl) rfl) rfl, HS2.sel [0] rfl, H⟩) (fun kp76 a w80 hI Qp76 hNp76 hOp76 => ?_)
    obtain ⟨words_77, used_78, l_79, ha, HS81, HAp76⟩ := hI
    cases kp76 with
    | zero => cases (show (none : Option _) = some _ from HAp76)
    | succ kp76 =>
      have H := (code_shape.l1.eq_2 ..).symm.trans HAp76
      refine wpLF_app ?_ ha
      refine L_seq ?_
      refine L_seq ?_
      refine L_region ?_
      refine F_val rfl rfl rfl (O_move rfl rfl) ?_
      refine F_val rfl rfl rfl (O_le rfl rfl rfl) ?_
      refine F_nil ?_
      refine L_condP rfl (fun c82 => ?_) (fun c82 => ?_)
      · have H := of_pos H c82
        refine L_skip ?_
        refine L_seq ?_
        refine L_blk (fun Q83 hN83 hX83 hO83 => ?_)
        refine L_seq ?_
        refine L_region ?_
        refine F_val rfl rfl rfl (O_move rfl rfl) ?_
        refine F_val rfl rfl rfl (O_move rfl rfl) ?_
        obtain ⟨⟨g84, g85⟩, H⟩ := of_gd H
        refine F_val rfl rfl rfl (O_idxA rfl rfl rfl Try.underlying103 size3 g84 g85) ?_
        obtain ⟨g86, H⟩ := of_gd H
        refine F_val rfl rfl rfl (O_loadB rfl rfl flat3 (HS81.cells_box (i := 0) rfl) (at0 (int_cell g84 (arr_lt g86 g85)))) ?_
        refine F_val rfl rfl rfl (O_add rfl rfl rfl) ?_
        obtain ⟨x87, h88, H⟩ := of_bnd H
        refine F_val rfl rfl rfl (O_assign' rfl rfl (congrArg (Value.int .i64) h88)) ?_
        refine F_nil ?_
        refine L_region ?_
        refine F_val rfl rfl rfl (O_move rfl rfl) ?_
        refine F_val rfl rfl rfl (O_move rfl rfl) ?_
        refine F_val rfl rfl rfl (O_idxA rfl rfl rfl Try.underlying103 size3 g84 g85) ?_
        refine F_val rfl rfl rfl (O_loadB rfl rfl flat3 (HS81.cells_box (i := 0) rfl) (at0 (int_cell g84 (arr_lt g86 g85)))) ?_
        refine F_val rfl rfl rfl (O_move rfl rfl) ?_
        refine F_val rfl rfl rfl (O_sub rfl rfl rfl) ?_
        obtain ⟨g89, H⟩ := of_gd H
        refine F_val rfl rfl rfl (O_shl rfl rfl rfl g89) ?_
        refine F_val rfl rfl rfl (O_add rfl rfl rfl) ?_
        obtain ⟨x90, h91, H⟩ := of_bnd H
        refine F_val rfl rfl rfl (O_assign' rfl rfl (congrArg (Value.int .i64) h91)) ?_
        refine F_nil ?_
        refine L_endB hN83 ?_
        refine L_region ?_
        refine F_val rfl rfl rfl (O_move rfl rfl) ?_
        refine F_val rfl rfl rfl (O_add rfl rfl rfl) ?_
        obtain ⟨x92, h93, H⟩ := of_bnd H
        refine F_val rfl rfl rfl (O_assign' rfl rfl (congrArg (Value.int .i64) h93)) ?_
        refine F_nil ?_
        refine L_nil (fun a ha => hNp76 _ a _ (Nat.lt_succ_self _) ⟨_, _, _, Is.cons ha (Is.cons ha (Is.cons ha (Is.cons ha (Is.nil ha) rfl) rfl) rfl) rfl, HS81.sel [0] rfl, H⟩)
      · have H := of_neg H c82
        refine L_exitB (fun a w h => hOp76 (.exit 0) a w rfl (hXb51 a w h)) ?_
        refine L_nil (fun a ha => hNj5 a _ ⟨_, _, (Option.some.inj H).symm, Is.cons ha (Is.cons ha (Is.cons ha (Is.nil ha) rfl) rfl) rfl, HS81.sel [0] rfl⟩)
  · obtain ⟨words_49, used_50, rfl, ha, HS95⟩ := hR
    refine wpLF_app ?_ ha
    refine L_seq ?_
    refine L_blk (fun Q96 hN96 hX96 hO96 => ?_)
    refine L_seq ?_
    refine L_region ?_
    refine F_val rfl rfl rfl (O_move rfl rfl) ?_
    refine F_val rfl rfl rfl (O_eq rfl rfl rfl) ?_
    refine F_val rfl rfl rfl (O_assign rfl rfl) ?_
    refine F_nil ?_
    refine L_condP rfl (fun c97 => ?_) (fun c97 => ?_)
    · have H := of_pos H c97
      refine L_seq ?_
      refine L_region ?_
      refine F_val rfl rfl rfl (O_assign rfl rfl) ?_
      refine F_nil ?_
      refine L_ret (fun a ha => (hO96 .ret a _ rfl (post_ret1 ha rfl rfl ?_)))
      obtain rfl := Option.some.inj H
      exact ⟨rfl, HS95.sel [] rfl⟩
    · have H := of_neg H c97
      refine L_seq ?_
      refine L_region ?_
      refine F_val rfl rfl rfl (O_move rfl rfl) ?_
      refine F_val rfl rfl rfl (O_eq rfl rfl rfl) ?_
      refine F_val rfl rfl rfl (O_move rfl rfl) ?_
      obtain ⟨b99, Hb99, H⟩ := of_bind H
      refine F_grp 4 [(33, .bool b99), (4, .int .i64 used_50)] ?_ ?_
      · rcases Decidable.em (words_49 = 1) with c103 | c103
        · refine F_know (i := 29) rfl (dec_t c103) ?_
          have H := of_pos Hb99 c103
          refine F_gval rfl rfl rfl rfl rfl rfl (O_idxA rfl rfl rfl Try.underlying103 size3 (by decide) (by decide)) ?_
          obtain ⟨g104, H⟩ := of_gd H
          refine F_gval rfl rfl rfl rfl rfl rfl (O_loadB rfl rfl flat3 (HS95.cells_box (i := 0) rfl) (at0 (int_cell (by decide) (arr_lt g104 (by decide))))) ?_
          refine F_gval rfl rfl rfl rfl rfl rfl (O_eq rfl rfl rfl) ?_
          refine F_val rfl rfl rfl (O_pickT rfl rfl rfl) ?_
          refine F_know (i := 33) rfl (congrArg Value.bool (Option.some.inj H)) ?_
          exact F_grpE (fun a ha => Is.cons ha (Is.cons ha (Is.nil ha) rfl) rfl)
        · refine F_know (i := 29) rfl (dec_f c103) ?_
          have H := of_neg Hb99 c103
          refine F_gskip rfl rfl rfl rfl rfl rfl rfl ?_
          refine F_gskip rfl rfl rfl rfl rfl rfl rfl ?_
          refine F_gskip rfl rfl rfl rfl rfl rfl rfl ?_
          refine F_val rfl rfl rfl (O_pickF rfl rfl rfl) ?_
          refine F_know (i := 33) rfl (congrArg Value.bool (Option.some.inj H)) ?_
          exact F_grpE (fun a ha => Is.cons ha (Is.cons ha (Is.nil ha) rfl) rfl)
      · skip
        refine F_val rfl rfl rfl (O_assign rfl rfl) ?_
        refine F_nil ?_
        refine L_cond rfl (fun c105 => ?_) (fun c105 => ?_)
        · have H := of_pos H c105
          refine L_seq ?_
          refine L_region ?_
          refine F_val rfl rfl rfl (O_assign rfl rfl) ?_
          refine F_nil ?_
          refine L_ret (fun a ha => (hO96 .ret a _ rfl (post_ret1 ha rfl rfl ?_)))
          obtain rfl := Option.some.inj H
          exact ⟨rfl, HS95.sel [] rfl⟩
        · have H := of_neg H (by rw [c105]; exact Bool.false_ne_true)
          refine L_seq ?_
          refine L_region ?_
          refine F_val rfl rfl rfl (O_move rfl rfl) ?_
          refine F_val rfl rfl rfl (O_gt rfl rfl rfl) ?_
          refine F_val rfl rfl rfl (O_assign rfl rfl) ?_
          refine F_nil ?_
          refine L_condP rfl (fun c106 => ?_) (fun c106 => ?_)
          · have H := of_pos H c106
            refine L_seq ?_
            refine L_region ?_
            refine F_val rfl rfl rfl (O_assign rfl rfl) ?_
            refine F_nil ?_
            refine L_ret (fun a ha => (hO96 .ret a _ rfl (post_ret1 ha rfl rfl ?_)))
            obtain rfl := Option.some.inj H
            exact ⟨rfl, HS95.sel [] rfl⟩
          · have H := of_neg H c106
            refine L_seq ?_
            refine L_region ?_
            refine F_val rfl rfl rfl (O_move rfl rfl) ?_
            refine F_val rfl rfl rfl (O_eq rfl rfl rfl) ?_
            refine F_val rfl rfl rfl (O_assign rfl rfl) ?_
            refine F_nil ?_
            refine L_condP rfl (fun c107 => ?_) (fun c107 => ?_)
            · have H := of_pos H c107
              refine L_seq ?_
              refine L_region ?_
              refine F_val rfl rfl rfl (O_assign rfl rfl) ?_
              refine F_nil ?_
              refine L_ret (fun a ha => (hO96 .ret a _ rfl (post_ret1 ha rfl rfl ?_)))
              obtain rfl := Option.some.inj H
              exact ⟨rfl, HS95.sel [] rfl⟩
            · have H := of_neg H c107
              refine L_skip ?_
              refine L_endB hN96 ?_
              refine L_seq ?_
              refine L_region ?_
              refine F_val rfl rfl rfl (O_assign rfl rfl) ?_
              refine F_nil ?_
              refine L_ret (fun a ha => (post_ret1 ha rfl rfl ?_))
              obtain rfl := Option.some.inj H
              exact ⟨rfl, HS95.sel [] rfl⟩

/-! function 72: valise/code.refused -/
theorem code_refused.calls {S0 : Nat → Prop} {w0 : World} {s_0 : Int} {r : Int} (HS0 : Hp S0 w0 w0 []) (h : code_refused.f s_0 = some r) :
    Calls Try.prog 72 ([.int .i64 s_0] : List Value).toArray w0 (fun e w => e = .returned (.int .i64 r) ∧ Hp S0 w0 w []) := by
  have H : ((if s_0 = 2 then (some 52) else (if s_0 = 3 then (some 51) else (some 0))) : Option (Int)) = some r := h
  refine calls_start Try.func72 rfl rfl ?_
  refine L_seq ?_
  refine L_region ?_
  refine F_val rfl rfl rfl (O_assign rfl rfl) ?_
  refine F_nil ?_
  refine L_seq ?_
  refine L_seq ?_
  refine L_region ?_
  refine F_val rfl rfl rfl (O_move rfl rfl) ?_
  refine F_nil ?_
  refine L_blk (fun Q1 hN1 hX1 hO1 => ?_)
  refine L_seq ?_
  refine L_region ?_
  refine F_val rfl rfl rfl (O_eq rfl rfl rfl) ?_
  refine F_val rfl rfl rfl (O_assign rfl rfl) ?_
  refine F_nil ?_
  refine L_condP rfl (fun c2 => ?_) (fun c2 => ?_)
  · have H := of_pos H c2
    refine L_seq ?_
    refine L_region ?_
    refine F_val rfl rfl rfl (O_assign rfl rfl) ?_
    refine F_nil ?_
    refine L_ret (fun a ha => (hO1 .ret a _ rfl (post_ret1 ha rfl rfl ?_)))
    obtain rfl := Option.some.inj H
    exact ⟨rfl, HS0.sel [] rfl⟩
  · have H := of_neg H c2
    refine L_seq ?_
    refine L_region ?_
    refine F_val rfl rfl rfl (O_eq rfl rfl rfl) ?_
    refine F_val rfl rfl rfl (O_assign rfl rfl) ?_
    refine F_nil ?_
    refine L_condP rfl (fun c3 => ?_) (fun c3 => ?_)
    · have H := of_pos H c3
      refine L_seq ?_
      refine L_region ?_
      refine F_val rfl rfl rfl (O_assign rfl rfl) ?_
      refine F_nil ?_
      refine L_ret (fun a ha => (hO1 .ret a _ rfl (post_ret1 ha rfl rfl ?_)))
      obtain rfl := Option.some.inj H
      exact ⟨rfl, HS0.sel [] rfl⟩
    · have H := of_neg H c3
      refine L_skip ?_
      refine L_endB hN1 ?_
      refine L_seq ?_
      refine L_region ?_
      refine F_val rfl rfl rfl (O_assign rfl rfl) ?_
      refine F_nil ?_
      refine L_ret (fun a ha => (post_ret1 ha rfl rfl ?_))
      obtain rfl := Option.some.inj H
      exact ⟨rfl, HS0.sel [] rfl⟩

/-! function 83: valise/code.first -/
theorem code_first.calls {S0 : Nat → Prop} {w0 : World} {l_n_0 : List Int} {r : List Int} (HS0 : Hp S0 w0 w0 []) (h : code_first.f l_n_0 = some r) :
    Calls Try.prog 83 ([.agg (rowC (Eint .i64) l_n_0).toArray] : List Value).toArray w0 (fun e w => e = .returned (.agg (rowC (Eint .i64) r).toArray) ∧ Hp S0 w0 w []) := by
  have H : (((code_first.l1 FU (List.replicate 16 (0 : Int)) 0 1 l_n_0).bind fun y71 => gd (y71.length = 16) (some y71)) : Option (List Int)) = some r := h
  refine calls_start Try.func83 rfl rfl ?_
  refine L_seq ?_
  refine L_region ?_
  refine F_box (C := rowC (Eint .i64) l_n_0) rfl rfl rfl rfl rfl rfl HS0 (fun w1 g3 HS2 => ?_)
  have HS2 : Hp S0 w0 w1 [.box g3 (rowC (Eint .i64) l_n_0) 103] := HS2
  refine F_alloc (C := rowC (Eint .i64) (List.replicate 16 (0 : Int))) rfl rfl rfl rfl zero103 rfl HS2 (fun w5 g7 HS6 => ?_)
  have HS6 : Hp S0 w0 w5 [.box g3 (rowC (Eint .i64) l_n_0) 103, .box g7 (rowC (Eint .i64) (List.replicate 16 (0 : Int))) 103] := HS6
  refine F_nil ?_
  refine L_seq ?_
  refine L_region ?_
  refine F_alloc (C := rowC (Eint .i64) (List.replicate 16 (0 : Int))) rfl rfl rfl rfl zero103 rfl HS6 (fun w9 g11 HS10 => ?_)
  have HS10 : Hp S0 w0 w9 [.box g3 (rowC (Eint .i64) l_n_0) 103, .box g7 (rowC (Eint .i64) (List.replicate 16 (0 : Int))) 103, .box g11 (rowC (Eint .i64) (List.replicate 16 (0 : Int))) 103] := HS10
  refine F_nil ?_
  refine L_seq ?_
  refine L_region ?_
  refine F_val rfl rfl rfl (O_assign rfl rfl) ?_
  refine F_nil ?_
  refine L_seq ?_
  refine L_seq ?_
  refine L_region ?_
  refine F_val rfl rfl rfl (O_assign rfl rfl) ?_
  refine F_nil ?_
  obtain ⟨yj13, Hyj13, H⟩ := of_bind H
  refine L_join (fun a w => ∃ (y71 : List Int), yj13 = y71 ∧ Is Try.f83.ntmps a [(2, .pointer (some ⟨g7, 0, none⟩)), (3, .pointer (some ⟨g11, 0, none⟩))] ∧ Hp S0 w0 w [.box g7 (rowC (Eint .i64) (List.replicate 16 (0 : Int))) 103, .box g11 (rowC (Eint .i64) y71) 103]) (fun Qj13 hNj13 hOj13 => ?_) (fun a w hR => ?_)
  · skip
    have H := Hyj13
    refine L_blk (fun Qb72 hNb72 hXb72 hOb72 => ?_)
    refine L_lp (fun k a w => ∃ (y107 : List Int), ∃ (word_108 : Int), ∃ (l_109 : Int), Is Try.f83.ntmps a [(1, .pointer (some ⟨g3, 0, none⟩)), (2, .pointer (some ⟨g7, 0, none⟩)), (3, .pointer (some ⟨g11, 0, none⟩)), (4, .int .i64 word_108), (5, .int .i64 l_109)] ∧ Hp S0 w0 w [.box g3 (rowC (Eint .i64) l_n_0) 103, .box g7 (rowC (Eint .i64) (List.replicate 16 (0 : Int))) 103, .box g11 (rowC (Eint .i64) y107) 103] ∧ code_first.l1 k y107 word_108 l_109 l_n_0 = some yj13) FU (fun a ha => ⟨_, _, _, Is.cons ha (Is.cons ha (Is.cons ha (Is.cons ha (Is.cons ha (Is.nil ha) rfl) rfl) rfl) rfl) rfl, HS10.sel [0, 1, 2] rfl, H⟩) (fun kp106 a w110 hI Qp106 hNp106 hOp106 => ?_)
    obtain ⟨y107, word_108, l_109, ha, HS111, HAp106⟩ := hI
    cases kp106 with
    | zero => cases (show (none : Option _) = some _ from HAp106)
    | succ kp106 =>
      have H := (code_first.l1.eq_2 ..).symm.trans HAp106
      refine wpLF_app ?_ ha
      refine L_seq ?_
      refine L_seq ?_
      refine L_region ?_
      refine F_val rfl rfl rfl (O_move rfl rfl) ?_
      refine F_val rfl rfl rfl (O_le rfl rfl rfl) ?_
      refine F_nil ?_
      refine L_condP rfl (fun c112 => ?_) (fun c112 => ?_)
      · have H := of_pos H c112
        refine L_skip ?_
        refine L_seq ?_
        refine L_blk (fun Q113 hN113 hX113 hO113 => ?_)
        refine L_seq ?_
        refine L_region ?_
        refine F_val rfl rfl rfl (O_move rfl rfl) ?_
        refine F_val rfl rfl rfl (O_move rfl rfl) ?_
        refine F_val rfl rfl rfl (O_sub rfl rfl rfl) ?_
        obtain ⟨⟨g114, g115⟩, H⟩ := of_gd H
        refine F_val rfl rfl rfl (O_idxA rfl rfl rfl Try.underlying103 size3 g114 g115) ?_
        obtain ⟨g116, H⟩ := of_gd H
        refine F_val rfl rfl rfl (O_loadB rfl rfl flat3 (HS111.cells_box (i := 0) rfl) (at0 (int_cell g114 (arr_lt g116 g115)))) ?_
        refine F_val rfl rfl rfl (O_add rfl rfl rfl) ?_
        refine F_val rfl rfl rfl (O_shl rfl rfl rfl (by decide)) ?_
        obtain ⟨x117, h118, H⟩ := of_bnd H
        refine F_val rfl rfl rfl (O_assign' rfl rfl (congrArg (Value.int .i64) h118)) ?_
        refine F_nil ?_
        refine L_region ?_
        refine F_val rfl rfl rfl (O_move rfl rfl) ?_
        refine F_val rfl rfl rfl (O_move rfl rfl) ?_
        obtain ⟨⟨g119, g120⟩, H⟩ := of_gd H
        refine F_val rfl rfl rfl (O_idxA rfl rfl rfl Try.underlying103 size3 g119 g120) ?_
        obtain ⟨g125, H⟩ := of_gd H
        obtain ⟨l123, h124, H⟩ := of_bnd H
        refine F_stAr (E := (Eint .i64)) (xs := y107) (q := l_109) (a := x117) (off := 0) 2 (rowC (Eint .i64) l123) [] [] rfl rfl rfl rfl rfl size3 HS111 rfl rfl (by simp only [List.append_assoc, List.cons_append, List.nil_append, List.append_nil]) rfl g119 (arr_lt g125 g120) h124 (by simp only [List.append_assoc, List.cons_append, List.nil_append, List.append_nil]) (fun w121 HS122 => ?_)
        have hl126 : l123.length = 16 := by rw [← h124, List.length_set]; exact g125
        have HS122 : Hp S0 w0 w121 [.box g3 (rowC (Eint .i64) l_n_0) 103, .box g7 (rowC (Eint .i64) (List.replicate 16 (0 : Int))) 103, .box g11 (rowC (Eint .i64) l123) 103] := HS122
        refine F_nil ?_
        refine L_endB hN113 ?_
        refine L_region ?_
        refine F_val rfl rfl rfl (O_move rfl rfl) ?_
        refine F_val rfl rfl rfl (O_add rfl rfl rfl) ?_
        obtain ⟨x127, h128, H⟩ := of_bnd H
        refine F_val rfl rfl rfl (O_assign' rfl rfl (congrArg (Value.int .i64) h128)) ?_
        refine F_nil ?_
        refine L_nil (fun a ha => hNp106 _ a _ (Nat.lt_succ_self _) ⟨_, _, _, Is.cons ha (Is.cons ha (Is.cons ha (Is.cons ha (Is.cons ha (Is.nil ha) rfl) rfl) rfl) rfl) rfl, HS122.sel [0, 1, 2] rfl, H⟩)
      · have H := of_neg H c112
        refine L_exitB (fun a w h => hOp106 (.exit 0) a w rfl (hXb72 a w h)) ?_
        refine L_nil (fun a ha => hNj13 a _ ⟨_, (Option.some.inj H).symm, Is.cons ha (Is.cons ha (Is.nil ha) rfl) rfl, HS111.sel [1, 2] rfl⟩)
  · obtain ⟨y71, ej, ha, HS130⟩ := hR
    obtain rfl := ej.symm
    refine wpLF_app ?_ ha
    refine L_seq ?_
    refine L_region ?_
    obtain ⟨g131, H⟩ := of_gd H
    refine F_val rfl rfl rfl (O_loadSg [] (rowC (Eint .i64) y71) [] rfl rfl wide103 (HS130.cells_box (i := 1) rfl) (by simp only [List.append_assoc, List.cons_append, List.nil_append, List.append_nil]) rfl (row_len g131) (by decide)) ?_
    refine F_stSg 0 (rowC (Eint .i64) y71) [] (rowC (Eint .i64) (List.replicate 16 (0 : Int))) (rowC (Eint .i64) y71) [] rfl rfl rfl rfl rfl size103 HS130 rfl rfl ones_row (by simp only [List.append_assoc, List.cons_append, List.nil_append, List.append_nil]) (by simp only [List.append_assoc, List.cons_append, List.nil_append, List.append_nil]) rfl (row_len List.length_replicate) (row_len g131) (fun w132 HS133 => ?_)
    have HS133 : Hp S0 w0 w132 [.box g7 (rowC (Eint .i64) y71) 103, .box g11 (rowC (Eint .i64) y71) 103] := HS133
    refine F_nil ?_
    refine L_ret (fun a ha => (post_retc1 ha rfl rfl wide103 (HS133.cells_box (i := 0) rfl) (row_len g131) (by decide) ?_))
    obtain rfl := Option.some.inj H
    exact ⟨rfl, HS133.sel [] rfl⟩

/-! function 84: valise/code.words -/
theorem code_words.calls {S0 : Nat → Prop} {w0 : World} {A_lens_0 : Option Addr} {c_lens_0 : Nat} {l_lens_0 : List Int} {l_next_1 : List Int} {r : List Int} (HS0 : Hp S0 w0 w0 [.rd A_lens_0 (rowC (Eint .i64) l_lens_0)]) (hc_lens_0 : l_lens_0.length ≤ c_lens_0) (h : code_words.f l_lens_0 l_next_1 = some r) :
    Calls Try.prog 84 ([.slice A_lens_0 l_lens_0.length c_lens_0, .agg (rowC (Eint .i64) l_next_1).toArray] : List Value).toArray w0 (fun e w => ∃ (A1 : Option Addr), ∃ (c1 : Nat), e = .returned (.slice A1 r.length c1) ∧ Hp S0 w0 w [.own A1 c1 (rowC (Eint .i64) r) 3 (Eint .i64).sz]) := by
  have H : ((gd ((0 : Int) ≤ (l_lens_0.length : Int) ∧ (l_lens_0.length : Int) * 8 ≤ 281474976710656) (bnd (List.replicate ((l_lens_0.length : Int) : Int).toNat (0 : Int)) fun l9 => (code_words.l1 FU l9 l_next_1 0 l_lens_0).bind fun l154 => some l154)) : Option (List Int)) = some r := h
  refine calls_start Try.func84 rfl rfl ?_
  refine L_seq ?_
  refine L_region ?_
  refine F_box (C := rowC (Eint .i64) l_next_1) rfl rfl rfl rfl rfl rfl HS0 (fun w1 g3 HS2 => ?_)
  have HS2 : Hp S0 w0 w1 [.rd A_lens_0 (rowC (Eint .i64) l_lens_0), .box g3 (rowC (Eint .i64) l_next_1) 103] := HS2
  refine F_val rfl rfl rfl (O_assign rfl rfl) ?_
  refine F_nil ?_
  refine L_seq ?_
  refine L_region ?_
  refine F_val rfl rfl rfl (O_move rfl rfl) ?_
  refine F_val rfl rfl rfl (O_len rfl rfl Try.underlying22) ?_
  obtain ⟨⟨g7, g8⟩, H⟩ := of_gd H
  obtain ⟨l9, h10, H⟩ := of_bnd H
  refine F_makeE (E := (Eint .i64)) rfl rfl rfl rfl rfl rfl Try.underlying22 info3 rfl (by decide) (by decide) g7 g8 HS2 h10 (fun w5 A11 c12 HS6 => ?_)
  have HS6 : Hp S0 w0 w5 [.rd A_lens_0 (rowC (Eint .i64) l_lens_0), .box g3 (rowC (Eint .i64) l_next_1) 103, .own A11 c12 (rowC (Eint .i64) l9) 3 (Eint .i64).sz] := HS6
  refine F_val rfl rfl rfl (O_assign rfl rfl) ?_
  refine F_nil ?_
  refine L_seq ?_
  refine L_seq ?_
  refine L_region ?_
  refine F_val rfl rfl rfl (O_move rfl rfl) ?_
  refine F_val rfl rfl rfl (O_len rfl rfl Try.underlying22) ?_
  refine F_val rfl rfl rfl (O_move rfl rfl) ?_
  refine F_nil ?_
  obtain ⟨yj14, Hyj14, H⟩ := of_bind H
  refine L_join (fun a w => ∃ (l154 : List Int), yj14 = l154 ∧ Is Try.f84.ntmps a [(5, .slice A11 l154.length c12)] ∧ Hp S0 w0 w [.rd A_lens_0 (rowC (Eint .i64) l_lens_0), .own A11 c12 (rowC (Eint .i64) l154) 3 (Eint .i64).sz]) (fun Qj14 hNj14 hOj14 => ?_) (fun a w hR => ?_)
  · skip
    have H := Hyj14
    refine L_blk (fun Qb155 hNb155 hXb155 hOb155 => ?_)
    refine L_lp (fun k a w => ∃ (l246 : List Int), ∃ (y247 : List Int), ∃ (t248 : Int), Is Try.f84.ntmps a [(3, .pointer (some ⟨g3, 0, none⟩)), (5, .slice A11 l246.length c12), (11, .slice A_lens_0 l_lens_0.length c_lens_0), (12, .int .i64 (l_lens_0.length : Int)), (13, .int .i64 t248)] ∧ Hp S0 w0 w [.rd A_lens_0 (rowC (Eint .i64) l_lens_0), .box g3 (rowC (Eint .i64) y247) 103, .own A11 c12 (rowC (Eint .i64) l246) 3 (Eint .i64).sz] ∧ code_words.l1 k l246 y247 t248 l_lens_0 = some yj14) FU (fun a ha => ⟨_, _, _, Is.cons ha (Is.cons ha (Is.cons ha (Is.cons ha (Is.cons ha (Is.nil ha) rfl) rfl) rfl) rfl) rfl, HS6.sel [0, 1, 2] rfl, H⟩) (fun kp245 a w249 hI Qp245 hNp245 hOp245 => ?_)
    obtain ⟨l246, y247, t248, ha, HS250, HAp245⟩ := hI
    cases kp245 with
    | zero => cases (show (none : Option _) = some _ from HAp245)
    | succ kp245 =>
      have H := (code_words.l1.eq_2 ..).symm.trans HAp245
      refine wpLF_app ?_ ha
      refine L_seq ?_
      refine L_region ?_
      refine F_val rfl rfl rfl (O_lt rfl rfl rfl) ?_
      refine F_nil ?_
      refine L_seq ?_
      refine L_condP rfl (fun c251 => ?_) (fun c251 => ?_)
      · have H := of_pos H c251
        refine L_skip ?_
        refine L_seq ?_
        refine L_blk (fun Q252 hN252 hX252 hO252 => ?_)
        refine L_seq ?_
        refine L_region ?_
        refine F_val rfl rfl rfl (O_move rfl rfl) ?_
        obtain ⟨⟨g253, g254⟩, H⟩ := of_gd H
        refine F_val rfl rfl rfl (O_idx rfl rfl rfl Try.underlying22 size3 g253 g254 (Cells.isA (HS250.cells_rd (i := 0) rfl) (rowC_ne (E := (Eint .i64)) g253 g254 (by decide)))) ?_
        refine F_val rfl rfl rfl (O_loadC rfl rfl flat3 (HS250.cells_rd (i := 0) rfl) (int_cell g253 g254)) ?_
        refine F_val rfl rfl rfl (O_assign rfl rfl) ?_
        obtain ⟨x255, h256, H⟩ := of_bnd H
        refine F_val rfl rfl rfl (O_assign' rfl rfl (congrArg (Value.int .i64) h256)) ?_
        refine F_nil ?_
        refine L_seq ?_
        refine L_region ?_
        refine F_val rfl rfl rfl (O_move rfl rfl) ?_
        refine F_val rfl rfl rfl (O_gt rfl rfl rfl) ?_
        refine F_nil ?_
        obtain ⟨yj257, Hyj257, H⟩ := of_bind H
        refine L_join (fun a w => ∃ (l274 : List Int), ∃ (y275 : List Int), yj257 = (l274, y275) ∧ Is Try.f84.ntmps a [(3, .pointer (some ⟨g3, 0, none⟩)), (5, .slice A11 l274.length c12), (11, .slice A_lens_0 l_lens_0.length c_lens_0), (12, .int .i64 (l_lens_0.length : Int)), (13, .int .i64 t248)] ∧ Hp S0 w0 w [.rd A_lens_0 (rowC (Eint .i64) l_lens_0), .box g3 (rowC (Eint .i64) y275) 103, .own A11 c12 (rowC (Eint .i64) l274) 3 (Eint .i64).sz]) (fun Qj257 hNj257 hOj257 => ?_) (fun a w hR => ?_)
        · skip
          have H := Hyj257
          refine L_condP rfl (fun c276 => ?_) (fun c276 => ?_)
          · have H := of_pos H c276
            refine L_seq ?_
            refine L_region ?_
            refine F_val rfl rfl rfl (O_move rfl rfl) ?_
            refine F_val rfl rfl rfl (O_move rfl rfl) ?_
            refine F_val rfl rfl rfl (O_move rfl rfl) ?_
            obtain ⟨⟨g277, g278⟩, H⟩ := of_gd H
            refine F_val rfl rfl rfl (O_idxA rfl rfl rfl Try.underlying103 size3 g277 g278) ?_
            obtain ⟨g279, H⟩ := of_gd H
            refine F_val rfl rfl rfl (O_loadB rfl rfl flat3 (HS250.cells_box (i := 1) rfl) (at0 (int_cell g277 (arr_lt g279 g278)))) ?_
            obtain ⟨⟨g280, g281⟩, H⟩ := of_gd H
            refine F_val rfl rfl rfl (O_idx rfl rfl rfl Try.underlying22 size3 g280 g281 (Cells.isA (HS250.cells_own (i := 2) rfl) (rowC_ne (E := (Eint .i64)) g280 g281 (by decide)))) ?_
            obtain ⟨l284, h285, H⟩ := of_bnd H
            refine F_setE (E := (Eint .i64)) (i := 2) (a := rd y247 x255) (q := t248) rfl rfl rfl rfl rfl rfl size3 HS250 rfl (by decide) g280 g281 h285 (fun w282 HS283 => ?_)
            have e286 : l246.length = l284.length := by rw [← h285, List.length_set]
            refine F_know (i := 5) rfl (congrArg (fun n => Value.slice A11 n c12) e286) ?_
            have HS283 : Hp S0 w0 w282 [.rd A_lens_0 (rowC (Eint .i64) l_lens_0), .box g3 (rowC (Eint .i64) y247) 103, .own A11 c12 (rowC (Eint .i64) l284) 3 (Eint .i64).sz] := HS283
            refine F_nil ?_
            refine L_region ?_
            refine F_val rfl rfl rfl (O_move rfl rfl) ?_
            refine F_val rfl rfl rfl (O_idxA rfl rfl rfl Try.underlying103 size3 g277 g278) ?_
            refine F_val rfl rfl rfl (O_loadB rfl rfl flat3 (HS283.cells_box (i := 1) rfl) (at0 (int_cell g277 (arr_lt g279 g278)))) ?_
            refine F_val rfl rfl rfl (O_add rfl rfl rfl) ?_
            refine F_val rfl rfl rfl (O_idxA rfl rfl rfl Try.underlying103 size3 g277 g278) ?_
            obtain ⟨l289, h290, H⟩ := of_bnd H
            refine F_stAr (E := (Eint .i64)) (xs := y247) (q := x255) (a := IntKind.i64.wrap ((rd y247 x255) + 1)) (off := 0) 1 (rowC (Eint .i64) l289) [] [] rfl rfl rfl rfl rfl size3 HS283 rfl rfl (by simp only [List.append_assoc, List.cons_append, List.nil_append, List.append_nil]) rfl g277 (arr_lt g279 g278) h290 (by simp only [List.append_assoc, List.cons_append, List.nil_append, List.append_nil]) (fun w287 HS288 => ?_)
            have hl291 : l289.length = 16 := by rw [← h290, List.length_set]; exact g279
            have HS288 : Hp S0 w0 w287 [.rd A_lens_0 (rowC (Eint .i64) l_lens_0), .box g3 (rowC (Eint .i64) l289) 103, .own A11 c12 (rowC (Eint .i64) l284) 3 (Eint .i64).sz] := HS288
            refine F_nil ?_
            refine L_nil (fun a ha => hNj257 a _ ⟨_, _, (Option.some.inj H).symm, Is.cons ha (Is.cons ha (Is.cons ha (Is.cons ha (Is.cons ha (Is.nil ha) rfl) rfl) rfl) rfl) rfl, HS288.sel [0, 1, 2] rfl⟩)
          · have H := of_neg H c276
            refine L_skip ?_
            refine L_nil (fun a ha => hNj257 a _ ⟨_, _, (Option.some.inj H).symm, Is.cons ha (Is.cons ha (Is.cons ha (Is.cons ha (Is.cons ha (Is.nil ha) rfl) rfl) rfl) rfl) rfl, HS250.sel [0, 1, 2] rfl⟩)
        · obtain ⟨l274, y275, rfl, ha, HS293⟩ := hR
          refine wpLF_app ?_ ha
          refine L_endB hN252 ?_
          refine L_region ?_
          refine F_val rfl rfl rfl (O_add rfl rfl rfl) ?_
          refine F_val rfl rfl rfl (O_move rfl rfl) ?_
          refine F_nil ?_
          refine L_nil (fun a ha => hNp245 _ a _ (Nat.lt_succ_self _) ⟨_, _, _, Is.cons ha (Is.cons ha (Is.cons ha (Is.cons ha (Is.cons ha (Is.nil ha) rfl) rfl) rfl) rfl) rfl, HS293.sel [0, 1, 2] rfl, H⟩)
      · have H := of_neg H c251
        refine L_exitB (fun a w h => hOp245 (.exit 0) a w rfl (hXb155 a w h)) ?_
        refine L_nil (fun a ha => hNj14 a _ ⟨_, (Option.some.inj H).symm, Is.cons ha (Is.nil ha) rfl, HS250.sel [0, 2] rfl⟩)
  · obtain ⟨l154, ej, ha, HS295⟩ := hR
    obtain rfl := ej.symm
    refine wpLF_app ?_ ha
    refine L_seq ?_
    refine L_region ?_
    refine F_val rfl rfl rfl (O_move rfl rfl) ?_
    refine F_val rfl rfl rfl (O_assign rfl rfl) ?_
    refine F_nil ?_
    refine L_ret (fun a ha => (post_ret1 ha rfl rfl ?_))
    obtain rfl := Option.some.inj H
    exact ⟨_, _, rfl, HS295.sel [1] rfl⟩

/-! function 74: valise/code.makeTable -/
theorem code_makeTable.calls {S0 : Nat → Prop} {w0 : World} {A_lens_0 : Option Addr} {c_lens_0 : Nat} {l_lens_0 : List Int} {l_counts_1 : List Int} {r : (List Int × List Int × List Int × List Int)} (HS0 : Hp S0 w0 w0 [.rd A_lens_0 (rowC (Eint .i64) l_lens_0)]) (hc_lens_0 : l_lens_0.length ≤ c_lens_0) (h : code_makeTable.f l_lens_0 l_counts_1 = some r) :
    Calls Try.prog 74 ([.slice A_lens_0 l_lens_0.length c_lens_0, .agg (rowC (Eint .i64) l_counts_1).toArray] : List Value).toArray w0 (fun e w => ∃ (A1_0 : Option Addr), ∃ (c1_0 : Nat), ∃ (A1_1 : Option Addr), ∃ (c1_1 : Nat), e = .returned (.agg (([.slice A1_0 r.1.length c1_0, .slice A1_1 r.2.1.length c1_1] : List Value) ++ rowC (Eint .i64) r.2.2.1 ++ rowC (Eint .i64) r.2.2.2).toArray) ∧ Hp S0 w0 w [.own A1_0 c1_0 (rowC (Eint .i64) r.1) 3 (Eint .i64).sz, .own A1_1 c1_1 (rowC (Eint .i64) r.2.1) 3 (Eint .i64).sz]) := by
  have H : ((gd (l_counts_1.length = 16) ((code_first.f l_counts_1).bind fun z14 => gd (z14.length = 16) (bnd (([] : List Int) ++ l_lens_0) fun l53 => gd ((l53.length : Int) * 8 ≤ 140737488355328) ((code_words.f l_lens_0 z14).bind fun z62 => some (l53, z62, l_counts_1, z14))))) : Option ((List Int × List Int × List Int × List Int))) = some r := h
  refine calls_start Try.func74 rfl rfl ?_
  refine L_seq ?_
  refine L_region ?_
  refine F_box (C := rowC (Eint .i64) l_counts_1) rfl rfl rfl rfl rfl rfl HS0 (fun w1 g3 HS2 => ?_)
  have HS2 : Hp S0 w0 w1 [.rd A_lens_0 (rowC (Eint .i64) l_lens_0), .box g3 (rowC (Eint .i64) l_counts_1) 103] := HS2
  refine F_alloc (C := ([.slice none 0 0, .slice none 0 0] : List Value) ++ rowC (Eint .i64) (List.replicate 16 (0 : Int)) ++ rowC (Eint .i64) (List.replicate 16 (0 : Int))) rfl rfl rfl rfl zero109 rfl HS2 (fun w5 g7 HS6 => ?_)
  have HS6 : Hp S0 w0 w5 [.rd A_lens_0 (rowC (Eint .i64) l_lens_0), .box g3 (rowC (Eint .i64) l_counts_1) 103, .box g7 (([.slice none 0 0, .slice none 0 0] : List Value) ++ rowC (Eint .i64) (List.replicate 16 (0 : Int)) ++ rowC (Eint .i64) (List.replicate 16 (0 : Int))) 109] := HS6
  refine F_nil ?_
  refine L_seq ?_
  refine L_region ?_
  obtain ⟨g9, H⟩ := of_gd H
  refine F_val rfl rfl rfl (O_loadSg [] (rowC (Eint .i64) l_counts_1) [] rfl rfl wide103 (HS6.cells_box (i := 1) rfl) (by simp only [List.append_assoc, List.cons_append, List.nil_append, List.append_nil]) rfl (row_len g9) (by decide)) ?_
  obtain ⟨z14, h13, H⟩ := of_bind H
  refine F_call (xs := [.tmp 6]) rfl rfl rfl rfl Try.func83 nm83 rfl rfl ((code_first.calls (HS6.give [] rfl (Lent.nil)) h13).mono (fun e w hc => ?_))
  obtain ⟨rfl, HSo⟩ := hc
  refine ⟨.agg (rowC (Eint .i64) z14).toArray, rfl, ?_⟩
  have HS16 : Hp S0 w0 w [.rd A_lens_0 (rowC (Eint .i64) l_lens_0), .box g3 (rowC (Eint .i64) l_counts_1) 103, .box g7 (([.slice none 0 0, .slice none 0 0] : List Value) ++ rowC (Eint .i64) (List.replicate 16 (0 : Int)) ++ rowC (Eint .i64) (List.replicate 16 (0 : Int))) 109] := (HS6.back [] HSo rfl).sel [0, 1, 2] rfl
  refine F_alloc (C := rowC (Eint .i64) (List.replicate 16 (0 : Int))) rfl rfl rfl rfl zero103 rfl HS16 (fun w17 g19 HS18 => ?_)
  have HS18 : Hp S0 w0 w17 [.rd A_lens_0 (rowC (Eint .i64) l_lens_0), .box g3 (rowC (Eint .i64) l_counts_1) 103, .box g7 (([.slice none 0 0, .slice none 0 0] : List Value) ++ rowC (Eint .i64) (List.replicate 16 (0 : Int)) ++ rowC (Eint .i64) (List.replicate 16 (0 : Int))) 109, .box g19 (rowC (Eint .i64) (List.replicate 16 (0 : Int))) 103] := HS18
  obtain ⟨g23, H⟩ := of_gd H
  refine F_stSg 3 (rowC (Eint .i64) z14) [] (rowC (Eint .i64) (List.replicate 16 (0 : Int))) (rowC (Eint .i64) z14) [] rfl rfl rfl rfl rfl size103 HS18 rfl rfl ones_row (by simp only [List.append_assoc, List.cons_append, List.nil_append, List.append_nil]) (by simp only [List.append_assoc, List.cons_append, List.nil_append, List.append_nil]) rfl (row_len List.length_replicate) (row_len g23) (fun w21 HS22 => ?_)
  have HS22 : Hp S0 w0 w21 [.rd A_lens_0 (rowC (Eint .i64) l_lens_0), .box g3 (rowC (Eint .i64) l_counts_1) 103, .box g7 (([.slice none 0 0, .slice none 0 0] : List Value) ++ rowC (Eint .i64) (List.replicate 16 (0 : Int)) ++ rowC (Eint .i64) (List.replicate 16 (0 : Int))) 109, .box g19 (rowC (Eint .i64) z14) 103] := HS22
  refine F_nil ?_
  refine L_seq ?_
  refine L_heldS 8 1 [8] mix rfl (fun w45 hw46 => ?_)
  have HS47 := HS22.keep hw46
  refine ⟨HS47.turns [], ?_⟩
  have HR48 : Hp (HS47.ft []) w45 w45 [.rd A_lens_0 (rowC (Eint .i64) l_lens_0), .rd (some ⟨g3, 0, none⟩) (rowC (Eint .i64) l_counts_1), .rd (some ⟨g7, 0, none⟩) (([.slice none 0 0, .slice none 0 0] : List Value) ++ rowC (Eint .i64) (List.replicate 16 (0 : Int)) ++ rowC (Eint .i64) (List.replicate 16 (0 : Int))), .rd (some ⟨g19, 0, none⟩) (rowC (Eint .i64) z14)] := HS47.give [] rfl (Lent.rd HS47 (Lent.box HS47 (Lent.box HS47 (Lent.box HS47 (Lent.nil) (i := 3) rfl rfl (HS47.cells_box (i := 3) rfl).self) (i := 2) rfl rfl (HS47.cells_box (i := 2) rfl).self) (i := 1) rfl rfl (HS47.cells_box (i := 1) rfl).self) (i := 0) rfl (HS47.cells_rd (i := 0) rfl).self)
  refine H_val (i := 0) rfl (by kernel_rfl) (by kernel_rfl) (by kernel_rfl) (by kernel_rfl) rfl rfl rfl (Chg.refl _ _) (fun wq hq => O_move rfl rfl) ?_
  refine H_val (i := 2) rfl (by kernel_rfl) (by kernel_rfl) (by kernel_rfl) (by kernel_rfl) rfl rfl rfl (Chg.refl _ _) (fun wq hq => O_move rfl rfl) ?_
  refine H_val (i := 3) rfl (by kernel_rfl) (by kernel_rfl) (by kernel_rfl) (by kernel_rfl) rfl rfl rfl (Chg.refl _ _) (fun wq hq => O_loadSg [] (rowC (Eint .i64) z14) [] rfl rfl wide103 ((HS47.keepT [] hq).cells_box (i := 3) rfl) (by simp only [List.append_assoc, List.cons_append, List.nil_append, List.append_nil]) rfl (row_len g23) (by decide)) ?_
  refine H_val (i := 5) rfl (by kernel_rfl) (by kernel_rfl) (by kernel_rfl) (by kernel_rfl) rfl rfl rfl (Chg.refl _ _) (fun wq hq => O_loadSg [] (rowC (Eint .i64) l_counts_1) [] rfl rfl wide103 ((HS47.keepT [] hq).cells_box (i := 1) rfl) (by simp only [List.append_assoc, List.cons_append, List.nil_append, List.append_nil]) rfl (row_len g9) (by decide)) ?_
  refine H_val (i := 6) rfl (by kernel_rfl) (by kernel_rfl) (by kernel_rfl) (by kernel_rfl) rfl rfl rfl (Chg.refl _ _) (fun wq hq => O_loadSg [] (rowC (Eint .i64) z14) [] rfl rfl wide103 ((HS47.keepT [] hq).cells_box (i := 3) rfl) (by simp only [List.append_assoc, List.cons_append, List.nil_append, List.append_nil]) rfl (row_len g23) (by decide)) ?_
  refine H_one (i := 1) rfl (by kernel_rfl) (by kernel_rfl) ?_
  have HS51 := HR48.addNil 3 (Eint .i64).sz
  have HS51 : Hp (HS47.ft []) w45 w45 [.rd A_lens_0 (rowC (Eint .i64) l_lens_0), .rd (some ⟨g3, 0, none⟩) (rowC (Eint .i64) l_counts_1), .rd (some ⟨g7, 0, none⟩) (([.slice none 0 0, .slice none 0 0] : List Value) ++ rowC (Eint .i64) (List.replicate 16 (0 : Int)) ++ rowC (Eint .i64) (List.replicate 16 (0 : Int))), .rd (some ⟨g19, 0, none⟩) (rowC (Eint .i64) z14), .own none 0 (rowC (Eint .i64) ([] : List Int)) 3 (Eint .i64).sz] := HS51
  obtain ⟨l53, h54, H⟩ := of_bnd H
  obtain ⟨g55, H⟩ := of_gd H
  refine F_appE (E := (Eint .i64)) (xs := ([] : List Int)) (ys := l_lens_0) (i := 4) rfl rfl rfl rfl Try.underlying22 info3 rfl (by decide) (by decide) rfl rfl HS51 rfl (HS51.cells_rd (i := 0) rfl) h54 g55 (fun w49 A56 c57 HS50 => ?_)
  have HS50 : Hp (HS47.ft []) w45 w49 [.rd A_lens_0 (rowC (Eint .i64) l_lens_0), .rd (some ⟨g3, 0, none⟩) (rowC (Eint .i64) l_counts_1), .rd (some ⟨g7, 0, none⟩) (([.slice none 0 0, .slice none 0 0] : List Value) ++ rowC (Eint .i64) (List.replicate 16 (0 : Int)) ++ rowC (Eint .i64) (List.replicate 16 (0 : Int))), .rd (some ⟨g19, 0, none⟩) (rowC (Eint .i64) z14), .own A56 c57 (rowC (Eint .i64) l53) 3 (Eint .i64).sz] := HS50
  refine H_next HS50.chg ?_
  refine H_one (i := 4) rfl (by kernel_rfl) (by kernel_rfl) ?_
  obtain ⟨z62, h61, H⟩ := of_bind H
  refine F_call (xs := [.tmp 10, .tmp 11]) rfl rfl rfl rfl Try.func84 nm84 rfl rfl ((code_words.calls (HS50.give [] rfl (Lent.rd HS50 (Lent.nil) (i := 0) rfl ((HS50.cells_rd (i := 0) rfl).self))) hc_lens_0 h61).mono (fun e w hc => ?_))
  obtain ⟨A65, c66, rfl, HSo⟩ := hc
  refine ⟨.slice A65 z62.length c66, rfl, ?_⟩
  have HS64 : Hp (HS47.ft []) w45 w [.rd A_lens_0 (rowC (Eint .i64) l_lens_0), .rd (some ⟨g3, 0, none⟩) (rowC (Eint .i64) l_counts_1), .rd (some ⟨g7, 0, none⟩) (([.slice none 0 0, .slice none 0 0] : List Value) ++ rowC (Eint .i64) (List.replicate 16 (0 : Int)) ++ rowC (Eint .i64) (List.replicate 16 (0 : Int))), .rd (some ⟨g19, 0, none⟩) (rowC (Eint .i64) z14), .own A56 c57 (rowC (Eint .i64) l53) 3 (Eint .i64).sz, .own A65 c66 (rowC (Eint .i64) z62) 3 (Eint .i64).sz] := (HS50.back [] HSo rfl).sel [0, 1, 2, 3, 4, 5] rfl
  refine H_next HS64.chg ?_
  refine H_val (i := 7) rfl (by kernel_rfl) (by kernel_rfl) (by kernel_rfl) (by kernel_rfl) rfl rfl rfl HS64.chg (fun wq hq => O_buildS (C := ([.slice A56 l53.length c57, .slice A65 z62.length c66] : List Value) ++ rowC (Eint .i64) l_counts_1 ++ rowC (Eint .i64) z14) [(0, .slice A56 l53.length c57), (1, .slice A65 z62.length c66), (2, .agg (rowC (Eint .i64) l_counts_1).toArray), (3, .agg (rowC (Eint .i64) z14).toArray)] rfl rfl rfl struct109 (Fills.cons [] [.slice none 0 0] [.slice A56 l53.length c57] [.slice none 0 0, .int .i64 0, .int .i64 0, .int .i64 0, .int .i64 0, .int .i64 0, .int .i64 0, .int .i64 0, .int .i64 0, .int .i64 0, .int .i64 0, .int .i64 0, .int .i64 0, .int .i64 0, .int .i64 0, .int .i64 0, .int .i64 0, .int .i64 0, .int .i64 0, .int .i64 0, .int .i64 0, .int .i64 0, .int .i64 0, .int .i64 0, .int .i64 0, .int .i64 0, .int .i64 0, .int .i64 0, .int .i64 0, .int .i64 0, .int .i64 0, .int .i64 0, .int .i64 0] [.slice A56 l53.length c57, .slice none 0 0, .int .i64 0, .int .i64 0, .int .i64 0, .int .i64 0, .int .i64 0, .int .i64 0, .int .i64 0, .int .i64 0, .int .i64 0, .int .i64 0, .int .i64 0, .int .i64 0, .int .i64 0, .int .i64 0, .int .i64 0, .int .i64 0, .int .i64 0, .int .i64 0, .int .i64 0, .int .i64 0, .int .i64 0, .int .i64 0, .int .i64 0, .int .i64 0, .int .i64 0, .int .i64 0, .int .i64 0, .int .i64 0, .int .i64 0, .int .i64 0, .int .i64 0, .int .i64 0] rfl (by simp only [List.append_assoc, List.cons_append, List.nil_append, List.append_nil]) rfl rfl rfl rfl (by simp only [List.append_assoc, List.cons_append, List.nil_append, List.append_nil]) (Fills.cons [.slice A56 l53.length c57] [.slice none 0 0] [.slice A65 z62.length c66] [.int .i64 0, .int .i64 0, .int .i64 0, .int .i64 0, .int .i64 0, .int .i64 0, .int .i64 0, .int .i64 0, .int .i64 0, .int .i64 0, .int .i64 0, .int .i64 0, .int .i64 0, .int .i64 0, .int .i64 0, .int .i64 0, .int .i64 0, .int .i64 0, .int .i64 0, .int .i64 0, .int .i64 0, .int .i64 0, .int .i64 0, .int .i64 0, .int .i64 0, .int .i64 0, .int .i64 0, .int .i64 0, .int .i64 0, .int .i64 0, .int .i64 0, .int .i64 0] [.slice A56 l53.length c57, .slice A65 z62.length c66, .int .i64 0, .int .i64 0, .int .i64 0, .int .i64 0, .int .i64 0, .int .i64 0, .int .i64 0, .int .i64 0, .int .i64 0, .int .i64 0, .int .i64 0, .int .i64 0, .int .i64 0, .int .i64 0, .int .i64 0, .int .i64 0, .int .i64 0, .int .i64 0, .int .i64 0, .int .i64 0, .int .i64 0, .int .i64 0, .int .i64 0, .int .i64 0, .int .i64 0, .int .i64 0, .int .i64 0, .int .i64 0, .int .i64 0, .int .i64 0, .int .i64 0, .int .i64 0] rfl (by simp only [List.append_assoc, List.cons_append, List.nil_append, List.append_nil]) rfl rfl rfl rfl (by simp only [List.append_assoc, List.cons_append, List.nil_append, List.append_nil]) (Fills.cons [.slice A56 l53.length c57, .slice A65 z62.length c66] [.int .i64 0, .int .i64 0, .int .i64 0, .int .i64 0, .int .i64 0, .int .i64 0, .int .i64 0, .int .i64 0, .int .i64 0, .int .i64 0, .int .i64 0, .int .i64 0, .int .i64 0, .int .i64 0, .int .i64 0, .int .i64 0] (rowC (Eint .i64) l_counts_1) [.int .i64 0, .int .i64 0, .int .i64 0, .int .i64 0, .int .i64 0, .int .i64 0, .int .i64 0, .int .i64 0, .int .i64 0, .int .i64 0, .int .i64 0, .int .i64 0, .int .i64 0, .int .i64 0, .int .i64 0, .int .i64 0] (([.slice A56 l53.length c57, .slice A65 z62.length c66] : List Value) ++ rowC (Eint .i64) l_counts_1 ++ ([.int .i64 0, .int .i64 0, .int .i64 0, .int .i64 0, .int .i64 0, .int .i64 0, .int .i64 0, .int .i64 0, .int .i64 0, .int .i64 0, .int .i64 0, .int .i64 0, .int .i64 0, .int .i64 0, .int .i64 0, .int .i64 0] : List Value)) rfl (by simp only [List.append_assoc, List.cons_append, List.nil_append, List.append_nil]) rfl rfl rfl (row_len g9) (by simp only [List.append_assoc, List.cons_append, List.nil_append, List.append_nil]) (Fills.cons (([.slice A56 l53.length c57, .slice A65 z62.length c66] : List Value) ++ rowC (Eint .i64) l_counts_1) [.int .i64 0, .int .i64 0, .int .i64 0, .int .i64 0, .int .i64 0, .int .i64 0, .int .i64 0, .int .i64 0, .int .i64 0, .int .i64 0, .int .i64 0, .int .i64 0, .int .i64 0, .int .i64 0, .int .i64 0, .int .i64 0] (rowC (Eint .i64) z14) [] (([.slice A56 l53.length c57, .slice A65 z62.length c66] : List Value) ++ rowC (Eint .i64) l_counts_1 ++ rowC (Eint .i64) z14) rfl (by simp only [List.append_assoc, List.cons_append, List.nil_append, List.append_nil]) (app_len rfl (row_len g9) rfl) rfl rfl (row_len g23) (by simp only [List.append_assoc, List.cons_append, List.nil_append, List.append_nil]) (Fills.nil _)))))) ?_
  refine H_end (by kernel_rfl) ?_
  have HS68 : Hp S0 w0 w [.rd A_lens_0 (rowC (Eint .i64) l_lens_0), .box g3 (rowC (Eint .i64) l_counts_1) 103, .box g7 (([.slice none 0 0, .slice none 0 0] : List Value) ++ rowC (Eint .i64) (List.replicate 16 (0 : Int)) ++ rowC (Eint .i64) (List.replicate 16 (0 : Int))) 109, .box g19 (rowC (Eint .i64) z14) 103, .own A56 c57 (rowC (Eint .i64) l53) 3 (Eint .i64).sz, .own A65 c66 (rowC (Eint .i64) z62) 3 (Eint .i64).sz] := (HS47.back [] (HS64.sel [4, 5] rfl) rfl).sel [0, 1, 2, 3, 4, 5] rfl
  refine T_one (i := 8) rfl (by kernel_rfl) ?_
  refine F_stSg 2 (([.slice A56 l53.length c57, .slice A65 z62.length c66] : List Value) ++ rowC (Eint .i64) l_counts_1 ++ rowC (Eint .i64) z14) [] (([.slice none 0 0, .slice none 0 0] : List Value) ++ rowC (Eint .i64) (List.replicate 16 (0 : Int)) ++ rowC (Eint .i64) (List.replicate 16 (0 : Int))) (([.slice A56 l53.length c57, .slice A65 z62.length c66] : List Value) ++ rowC (Eint .i64) l_counts_1 ++ rowC (Eint .i64) z14) [] rfl rfl rfl rfl rfl size109 HS68 rfl rfl (ones_app (ones_app (ones_lit rfl) ones_row) ones_row) (by simp only [List.append_assoc, List.cons_append, List.nil_append, List.append_nil]) (by simp only [List.append_assoc, List.cons_append, List.nil_append, List.append_nil]) rfl (app_len (app_len rfl (row_len List.length_replicate) rfl) (row_len List.length_replicate) rfl) (app_len (app_len rfl (row_len g9) rfl) (row_len g23) rfl) (fun w69 HS70 => ?_)
  have HS70 : Hp S0 w0 w69 [.rd A_lens_0 (rowC (Eint .i64) l_lens_0), .box g3 (rowC (Eint .i64) l_counts_1) 103, .box g7 (([.slice A56 l53.length c57, .slice A65 z62.length c66] : List Value) ++ rowC (Eint .i64) l_counts_1 ++ rowC (Eint .i64) z14) 109, .box g19 (rowC (Eint .i64) z14) 103, .own A56 c57 (rowC (Eint .i64) l53) 3 (Eint .i64).sz, .own A65 c66 (rowC (Eint .i64) z62) 3 (Eint .i64).sz] := HS70
  refine T_next ?_
  refine T_done (by kernel_rfl) ?_
  refine L_ret (fun a ha => (post_retc1 ha rfl rfl wide109 (HS70.cells_box (i := 2) rfl) (app_len (app_len rfl (row_len g9) rfl) (row_len g23) rfl) (by decide) ?_))
  obtain rfl := Option.some.inj H
  exact ⟨_, _, _, _, rfl, HS70.sel [4, 5] rfl⟩

/-! function 58: valise/code.NewEncoder -/
theorem code_NewEncoder.calls {S0 : Nat → Prop} {w0 : World} {A_lens_0 : Option Addr} {c_lens_0 : Nat} {l_lens_0 : List Int} {r : Option (List Int × List Int × List Int × List Int) × Int} (HS0 : Hp S0 w0 w0 [.rd A_lens_0 (rowC (Eint .i64) l_lens_0)]) (hc_lens_0 : l_lens_0.length ≤ c_lens_0) (h : code_NewEncoder.f l_lens_0 = some r) :
    Calls Try.prog 58 ([.slice A_lens_0 l_lens_0.length c_lens_0] : List Value).toArray w0 (fun e w => match r.1 with | none => e = .returned (.tuple #[.pointer none, .int .i64 r.2]) ∧ Hp S0 w0 w [] | some x => ∃ (g0 : Nat), ∃ (A0_0 : Option Addr), ∃ (c0_0 : Nat), ∃ (A0_1 : Option Addr), ∃ (c0_1 : Nat), e = .returned (.tuple #[.pointer (some ⟨g0, 0, none⟩), .int .i64 r.2]) ∧ Hp S0 w0 w [.box g0 (([.slice A0_0 x.1.length c0_0, .slice A0_1 x.2.1.length c0_1] : List Value) ++ rowC (Eint .i64) x.2.2.1 ++ rowC (Eint .i64) x.2.2.2) 112, .own A0_0 c0_0 (rowC (Eint .i64) x.1) 3 (Eint .i64).sz, .own A0_1 c0_1 (rowC (Eint .i64) x.2.1) 3 (Eint .i64).sz]) := by
  have H : (((code_count.f l_lens_0).bind fun (z5, z6) => gd (z5.length = 16) (if z6 ≠ 0 then (some (none, z6)) else ((code_shape.f z5).bind fun z19 => (code_refused.f z19).bind fun z25 => if z25 ≠ 0 then (some (none, z25)) else ((code_makeTable.f l_lens_0 z5).bind fun (z34, z35, z36, z37) => gd (z36.length = 16) (gd (z37.length = 16) (some (some (z34, z35, z36, z37), 0))))))) : Option (Option (List Int × List Int × List Int × List Int) × Int)) = some r := h
  refine calls_start Try.func58 rfl rfl ?_
  refine L_seq ?_
  refine L_region ?_
  refine F_val rfl rfl rfl (O_assign rfl rfl) ?_
  refine F_val rfl rfl rfl (O_assign rfl rfl) ?_
  refine F_nil ?_
  refine L_seq ?_
  refine L_region ?_
  refine F_val rfl rfl rfl (O_move rfl rfl) ?_
  obtain ⟨⟨z5, z6⟩, h4, H⟩ := of_bind H
  refine F_call (xs := [.tmp 7]) rfl rfl rfl rfl Try.func71 nm71 rfl rfl ((code_count.calls (HS0.give [] rfl (Lent.rd HS0 (Lent.nil) (i := 0) rfl ((HS0.cells_rd (i := 0) rfl).self))) hc_lens_0 h4).mono (fun e w hc => ?_))
  obtain ⟨rfl, HSo⟩ := hc
  refine ⟨.tuple #[.agg (rowC (Eint .i64) z5).toArray, .int .i64 z6], rfl, ?_⟩
  have HS8 : Hp S0 w0 w [.rd A_lens_0 (rowC (Eint .i64) l_lens_0)] := (HS0.back [] HSo rfl).sel [0] rfl
  refine F_val rfl rfl rfl (O_move rfl rfl) ?_
  refine F_val rfl rfl rfl (O_extract (v := .agg (rowC (Eint .i64) z5).toArray) rfl rfl rfl) ?_
  refine F_val rfl rfl rfl (O_extract (v := .int .i64 z6) rfl rfl rfl) ?_
  refine F_alloc (C := rowC (Eint .i64) (List.replicate 16 (0 : Int))) rfl rfl rfl rfl zero103 rfl HS8 (fun w9 g11 HS10 => ?_)
  have HS10 : Hp S0 w0 w9 [.rd A_lens_0 (rowC (Eint .i64) l_lens_0), .box g11 (rowC (Eint .i64) (List.replicate 16 (0 : Int))) 103] := HS10
  obtain ⟨g15, H⟩ := of_gd H
  refine F_stSg 1 (rowC (Eint .i64) z5) [] (rowC (Eint .i64) (List.replicate 16 (0 : Int))) (rowC (Eint .i64) z5) [] rfl rfl rfl rfl rfl size103 HS10 rfl rfl ones_row (by simp only [List.append_assoc, List.cons_append, List.nil_append, List.append_nil]) (by simp only [List.append_assoc, List.cons_append, List.nil_append, List.append_nil]) rfl (row_len List.length_replicate) (row_len g15) (fun w13 HS14 => ?_)
  have HS14 : Hp S0 w0 w13 [.rd A_lens_0 (rowC (Eint .i64) l_lens_0), .box g11 (rowC (Eint .i64) z5) 103] := HS14
  refine F_val rfl rfl rfl (O_assign rfl rfl) ?_
  refine F_nil ?_
  refine L_seq ?_
  refine L_seq ?_
  refine L_region ?_
  refine F_val rfl rfl rfl (O_move rfl rfl) ?_
  refine F_val rfl rfl rfl (O_ne rfl rfl rfl) ?_
  refine F_nil ?_
  refine L_condP rfl (fun c16 => ?_) (fun c16 => ?_)
  · have H := of_pos H c16
    refine L_seq ?_
    refine L_region ?_
    refine F_val rfl rfl rfl (O_move rfl rfl) ?_
    refine F_val rfl rfl rfl (O_assign rfl rfl) ?_
    refine F_val rfl rfl rfl (O_assign rfl rfl) ?_
    refine F_nil ?_
    refine L_ret (fun a ha => (post_ret2 ha rfl rfl rfl ?_))
    obtain rfl := Option.some.inj H
    exact ⟨rfl, HS14.sel [] rfl⟩
  · have H := of_neg H c16
    refine L_skip ?_
    refine L_seq ?_
    refine L_seq ?_
    refine L_region ?_
    refine F_val rfl rfl rfl (O_loadSg [] (rowC (Eint .i64) z5) [] rfl rfl wide103 (HS14.cells_box (i := 1) rfl) (by simp only [List.append_assoc, List.cons_append, List.nil_append, List.append_nil]) rfl (row_len g15) (by decide)) ?_
    obtain ⟨z19, h18, H⟩ := of_bind H
    refine F_qcall (v := .int .i64 z19) (xs := [.tmp 14]) rfl rfl rfl rfl Try.func73 nm73 rfl rfl ((code_shape.calls (HS14.give [] rfl (Lent.nil)) h18).mono (fun e w hc => ?_)) (fun w20 hw21 => ?_)
    · obtain ⟨rfl, h⟩ := hc
      exact ⟨rfl, h.chg0⟩
    have HS22 := HS14.keep hw21
    obtain ⟨z25, h24, H⟩ := of_bind H
    refine F_qcall (v := .int .i64 z25) (xs := [.tmp 15]) rfl rfl rfl rfl Try.func72 nm72 rfl rfl ((code_refused.calls (HS22.give [] rfl (Lent.nil)) h24).mono (fun e w hc => ?_)) (fun w26 hw27 => ?_)
    · obtain ⟨rfl, h⟩ := hc
      exact ⟨rfl, h.chg0⟩
    have HS28 := HS22.keep hw27
    refine F_val rfl rfl rfl (O_assign rfl rfl) ?_
    refine F_nil ?_
    refine L_seq ?_
    refine L_region ?_
    refine F_val rfl rfl rfl (O_move rfl rfl) ?_
    refine F_val rfl rfl rfl (O_ne rfl rfl rfl) ?_
    refine F_nil ?_
    refine L_condP rfl (fun c29 => ?_) (fun c29 => ?_)
    · have H := of_pos H c29
      refine L_seq ?_
      refine L_region ?_
      refine F_val rfl rfl rfl (O_move rfl rfl) ?_
      refine F_val rfl rfl rfl (O_assign rfl rfl) ?_
      refine F_val rfl rfl rfl (O_assign rfl rfl) ?_
      refine F_nil ?_
      refine L_ret (fun a ha => (post_ret2 ha rfl rfl rfl ?_))
      obtain rfl := Option.some.inj H
      exact ⟨rfl, HS28.sel [] rfl⟩
    · have H := of_neg H c29
      refine L_skip ?_
      refine L_seq ?_
      refine L_region ?_
      refine F_val rfl rfl rfl (O_move rfl rfl) ?_
      refine F_val rfl rfl rfl (O_loadSg [] (rowC (Eint .i64) z5) [] rfl rfl wide103 (HS28.cells_box (i := 1) rfl) (by simp only [List.append_assoc, List.cons_append, List.nil_append, List.append_nil]) rfl (row_len g15) (by decide)) ?_
      obtain ⟨⟨z34, z35, z36, z37⟩, h33, H⟩ := of_bind H
      refine F_call (xs := [.tmp 20, .tmp 21]) rfl rfl rfl rfl Try.func74 nm74 rfl rfl ((code_makeTable.calls (HS28.give [] rfl (Lent.rd HS28 (Lent.nil) (i := 0) rfl ((HS28.cells_rd (i := 0) rfl).self))) hc_lens_0 h33).mono (fun e w hc => ?_))
      obtain ⟨A40, c41, A43, c44, rfl, HSo⟩ := hc
      refine ⟨.agg (([.slice A40 z34.length c41, .slice A43 z35.length c44] : List Value) ++ rowC (Eint .i64) z36 ++ rowC (Eint .i64) z37).toArray, rfl, ?_⟩
      have HS39 : Hp S0 w0 w [.rd A_lens_0 (rowC (Eint .i64) l_lens_0), .box g11 (rowC (Eint .i64) z5) 103, .own A40 c41 (rowC (Eint .i64) z34) 3 (Eint .i64).sz, .own A43 c44 (rowC (Eint .i64) z35) 3 (Eint .i64).sz] := (HS28.back [] HSo rfl).sel [0, 1, 2, 3] rfl
      obtain ⟨g46, H⟩ := of_gd H
      obtain ⟨g47, H⟩ := of_gd H
      refine F_val rfl rfl rfl (O_buildS (C := ([.slice A40 z34.length c41, .slice A43 z35.length c44] : List Value) ++ rowC (Eint .i64) z36 ++ rowC (Eint .i64) z37) [(0, .agg (([.slice A40 z34.length c41, .slice A43 z35.length c44] : List Value) ++ rowC (Eint .i64) z36 ++ rowC (Eint .i64) z37).toArray)] rfl rfl rfl struct112 (Fills.cons [] [.slice none 0 0, .slice none 0 0, .int .i64 0, .int .i64 0, .int .i64 0, .int .i64 0, .int .i64 0, .int .i64 0, .int .i64 0, .int .i64 0, .int .i64 0, .int .i64 0, .int .i64 0, .int .i64 0, .int .i64 0, .int .i64 0, .int .i64 0, .int .i64 0, .int .i64 0, .int .i64 0, .int .i64 0, .int .i64 0, .int .i64 0, .int .i64 0, .int .i64 0, .int .i64 0, .int .i64 0, .int .i64 0, .int .i64 0, .int .i64 0, .int .i64 0, .int .i64 0, .int .i64 0, .int .i64 0] (([.slice A40 z34.length c41, .slice A43 z35.length c44] : List Value) ++ rowC (Eint .i64) z36 ++ rowC (Eint .i64) z37) [] (([.slice A40 z34.length c41, .slice A43 z35.length c44] : List Value) ++ rowC (Eint .i64) z36 ++ rowC (Eint .i64) z37) rfl (by simp only [List.append_assoc, List.cons_append, List.nil_append, List.append_nil]) rfl rfl rfl (app_len (app_len rfl (row_len g46) rfl) (row_len g47) rfl) (by simp only [List.append_assoc, List.cons_append, List.nil_append, List.append_nil]) (Fills.nil _))) ?_
      refine F_box (C := ([.slice A40 z34.length c41, .slice A43 z35.length c44] : List Value) ++ rowC (Eint .i64) z36 ++ rowC (Eint .i64) z37) rfl rfl rfl rfl rfl rfl HS39 (fun w48 g50 HS49 => ?_)
      have HS49 : Hp S0 w0 w48 [.rd A_lens_0 (rowC (Eint .i64) l_lens_0), .box g11 (rowC (Eint .i64) z5) 103, .own A40 c41 (rowC (Eint .i64) z34) 3 (Eint .i64).sz, .own A43 c44 (rowC (Eint .i64) z35) 3 (Eint .i64).sz, .box g50 (([.slice A40 z34.length c41, .slice A43 z35.length c44] : List Value) ++ rowC (Eint .i64) z36 ++ rowC (Eint .i64) z37) 112] := HS49
      refine F_val rfl rfl rfl (O_assign rfl rfl) ?_
      refine F_val rfl rfl rfl (O_assign rfl rfl) ?_
      refine F_nil ?_
      refine L_ret (fun a ha => (post_ret2 ha rfl rfl rfl ?_))
      obtain rfl := Option.some.inj H
      exact ⟨_, _, _, _, _, rfl, HS49.sel [4, 2, 3] rfl⟩

/-! function 75: (*valise/code.Encoder).Len -/
theorem code_Encoder_Len.calls {S0 : Nat → Prop} {w0 : World} {g_e_0 : Nat} {A_e_0_table_lens : Option Addr} {c_e_0_table_lens : Nat} {A_e_0_table_words : Option Addr} {c_e_0_table_words : Nat} {e_0_table_lens : List Int} {e_0_table_words : List Int} {e_0_table_counts : List Int} {e_0_table_first : List Int} {symbol_1 : Int} {r : Int} (HS0 : Hp S0 w0 w0 [.rd (some ⟨g_e_0, 0, none⟩) (([.slice A_e_0_table_lens e_0_table_lens.length c_e_0_table_lens, .slice A_e_0_table_words e_0_table_words.length c_e_0_table_words] : List Value) ++ rowC (Eint .i64) e_0_table_counts ++ rowC (Eint .i64) e_0_table_first), .rd A_e_0_table_lens (rowC (Eint .i64) e_0_table_lens), .rd A_e_0_table_words (rowC (Eint .i64) e_0_table_words)]) (h : code_Encoder_Len.f e_0_table_lens e_0_table_words e_0_table_counts e_0_table_first symbol_1 = some r) :
    Calls Try.prog 75 ([.pointer (some ⟨g_e_0, 0, none⟩), .int .i64 symbol_1] : List Value).toArray w0 (fun e w => e = .returned (.int .i64 r) ∧ Hp S0 w0 w []) := by
  have H : ((if (symbol_1 < 0) ∨ ((e_0_table_lens.length : Int) ≤ symbol_1) then (some 0) else (gd ((0 : Int) ≤ symbol_1 ∧ symbol_1 < (e_0_table_lens.length : Int)) (some (rd e_0_table_lens symbol_1)))) : Option (Int)) = some r := h
  refine calls_start Try.func75 rfl rfl ?_
  refine L_seq ?_
  refine L_region ?_
  refine F_val rfl rfl rfl (O_assign rfl rfl) ?_
  refine F_nil ?_
  refine L_seq ?_
  refine L_seq ?_
  refine L_region ?_
  refine F_val rfl rfl rfl (O_move rfl rfl) ?_
  refine F_val rfl rfl rfl (O_peq rfl rfl rfl Try.underlying80) ?_
  refine F_val rfl rfl rfl (O_move rfl rfl) ?_
  refine F_gval rfl rfl rfl rfl rfl rfl (O_move rfl rfl) ?_
  refine F_gval rfl rfl rfl rfl rfl rfl (O_lt rfl rfl rfl) ?_
  refine F_val rfl rfl rfl (O_pickF rfl rfl rfl) ?_
  refine F_val rfl rfl rfl (O_move rfl rfl) ?_
  refine F_grp 9 [(20, .bool (decide ((symbol_1 < 0) ∨ ((e_0_table_lens.length : Int) ≤ symbol_1)))), (0, .pointer (some ⟨g_e_0, 0, none⟩)), (1, .int .i64 symbol_1)] ?_ ?_
  · rcases Decidable.em (symbol_1 < 0) with c4 | c4
    · refine F_know (i := 11) rfl (dec_t c4) ?_
      refine F_gskip rfl rfl rfl rfl rfl rfl rfl ?_
      refine F_gskip rfl rfl rfl rfl rfl rfl rfl ?_
      refine F_gskip rfl rfl rfl rfl rfl rfl rfl ?_
      refine F_gskip rfl rfl rfl rfl rfl rfl rfl ?_
      refine F_gskip rfl rfl rfl rfl rfl rfl rfl ?_
      refine F_gskip rfl rfl rfl rfl rfl rfl rfl ?_
      refine F_gskip rfl rfl rfl rfl rfl rfl rfl ?_
      refine F_gskip rfl rfl rfl rfl rfl rfl rfl ?_
      refine F_val rfl rfl rfl (O_pickT rfl rfl rfl) ?_
      refine F_know (i := 20) rfl (dec_or_t (q := (e_0_table_lens.length : Int) ≤ symbol_1) c4) ?_
      exact F_grpE (fun a ha => Is.cons ha (Is.cons ha (Is.cons ha (Is.nil ha) rfl) rfl) rfl)
    · refine F_know (i := 11) rfl (dec_f c4) ?_
      refine F_gval rfl rfl rfl rfl rfl rfl (O_move rfl rfl) ?_
      refine F_gval rfl rfl rfl rfl rfl rfl (O_move rfl rfl) ?_
      refine F_gval rfl rfl rfl rfl rfl rfl (O_nilCheck rfl rfl) ?_
      refine F_gval rfl rfl rfl rfl rfl rfl (O_fieldB rfl rfl field112_0) ?_
      refine F_gval rfl rfl rfl rfl rfl rfl (O_fieldB rfl rfl field109_0) ?_
      refine F_gval rfl rfl rfl rfl rfl rfl (O_loadB rfl rfl flat22 (HS0.cells_rd (i := 0) rfl) (cell_seg (j := 0) [] [.slice A_e_0_table_lens e_0_table_lens.length c_e_0_table_lens] (([.slice A_e_0_table_words e_0_table_words.length c_e_0_table_words] : List Value) ++ rowC (Eint .i64) e_0_table_counts ++ rowC (Eint .i64) e_0_table_first) (by simp only [List.append_assoc, List.cons_append, List.nil_append, List.append_nil]) rfl rfl)) ?_
      refine F_gval rfl rfl rfl rfl rfl rfl (O_len rfl rfl Try.underlying22) ?_
      refine F_gval rfl rfl rfl rfl rfl rfl (O_ge rfl rfl rfl) ?_
      refine F_val rfl rfl rfl (O_pickF rfl rfl rfl) ?_
      refine F_know (i := 20) rfl (dec_or_f (q := (e_0_table_lens.length : Int) ≤ symbol_1) c4) ?_
      exact F_grpE (fun a ha => Is.cons ha (Is.cons ha (Is.cons ha (Is.nil ha) rfl) rfl) rfl)
  · skip
    refine F_nil ?_
    refine L_condP rfl (fun c5 => ?_) (fun c5 => ?_)
    · have H := of_pos H c5
      refine L_seq ?_
      refine L_region ?_
      refine F_val rfl rfl rfl (O_assign rfl rfl) ?_
      refine F_nil ?_
      refine L_ret (fun a ha => (post_ret1 ha rfl rfl ?_))
      obtain rfl := Option.some.inj H
      exact ⟨rfl, HS0.sel [] rfl⟩
    · have H := of_neg H c5
      refine L_skip ?_
      refine L_seq ?_
      refine L_region ?_
      refine F_val rfl rfl rfl (O_move rfl rfl) ?_
      refine F_val rfl rfl rfl (O_nilCheck rfl rfl) ?_
      refine F_val rfl rfl rfl (O_fieldB rfl rfl field112_0) ?_
      refine F_val rfl rfl rfl (O_fieldB rfl rfl field109_0) ?_
      refine F_val rfl rfl rfl (O_loadB rfl rfl flat22 (HS0.cells_rd (i := 0) rfl) (cell_seg (j := 0) [] [.slice A_e_0_table_lens e_0_table_lens.length c_e_0_table_lens] (([.slice A_e_0_table_words e_0_table_words.length c_e_0_table_words] : List Value) ++ rowC (Eint .i64) e_0_table_counts ++ rowC (Eint .i64) e_0_table_first) (by simp only [List.append_assoc, List.cons_append, List.nil_append, List.append_nil]) rfl rfl)) ?_
      refine F_val rfl rfl rfl (O_move rfl rfl) ?_
      obtain ⟨⟨g6, g7⟩, H⟩ := of_gd H
      refine F_val rfl rfl rfl (O_idx rfl rfl rfl Try.underlying22 size3 g6 g7 (Cells.isA (HS0.cells_rd (i := 1) rfl) (rowC_ne (E := (Eint .i64)) g6 g7 (by decide)))) ?_
      refine F_val rfl rfl rfl (O_loadC rfl rfl flat3 (HS0.cells_rd (i := 1) rfl) (int_cell g6 g7)) ?_
      refine F_val rfl rfl rfl (O_assign rfl rfl) ?_
      refine F_nil ?_
      refine L_ret (fun a ha => (post_ret1 ha rfl rfl ?_))
      obtain rfl := Option.some.inj H
      exact ⟨rfl, HS0.sel [] rfl⟩

/-! function 76: valise/bits.Reverse -/
theorem bits_Reverse.calls {S0 : Nat → Prop} {w0 : World} {v_0 : Int} {n_1 : Int} {r : Int × Int} (HS0 : Hp S0 w0 w0 []) (h : bits_Reverse.f v_0 n_1 = some r) :
    Calls Try.prog 76 ([.int .u32 v_0, .int .i64 n_1] : List Value).toArray w0 (fun e w => e = .returned (.tuple #[.int .u32 r.1, .int .i64 r.2]) ∧ Hp S0 w0 w []) := by
  have H : (((if (n_1 < 0) ∨ (32 < n_1) then (some true) else (gd (¬ (IntKind.u64.wrap n_1) < 0) (some (decide (shr .u64 (IntKind.u64.wrap v_0) (IntKind.u64.wrap n_1) ≠ 0))))).bind fun b6 => if b6 = true then (some (0, 1)) else ((bits_Reverse.l1 FU v_0 0 0 n_1).bind fun out_42 => some (out_42, 0))) : Option (Int × Int)) = some r := h
  refine calls_start Try.func76 rfl rfl ?_
  refine L_seq ?_
  refine L_region ?_
  refine F_val rfl rfl rfl (O_assign rfl rfl) ?_
  refine F_val rfl rfl rfl (O_assign rfl rfl) ?_
  refine F_nil ?_
  refine L_seq ?_
  refine L_seq ?_
  refine L_region ?_
  refine F_val rfl rfl rfl (O_move rfl rfl) ?_
  refine F_val rfl rfl rfl (O_lt rfl rfl rfl) ?_
  refine F_val rfl rfl rfl (O_move rfl rfl) ?_
  refine F_grp 3 [(12, .bool (decide ((n_1 < 0) ∨ (32 < n_1)))), (0, .int .u32 v_0), (1, .int .i64 n_1)] ?_ ?_
  · rcases Decidable.em (n_1 < 0) with c4 | c4
    · refine F_know (i := 9) rfl (dec_t c4) ?_
      refine F_gskip rfl rfl rfl rfl rfl rfl rfl ?_
      refine F_gskip rfl rfl rfl rfl rfl rfl rfl ?_
      refine F_val rfl rfl rfl (O_pickT rfl rfl rfl) ?_
      refine F_know (i := 12) rfl (dec_or_t (q := 32 < n_1) c4) ?_
      exact F_grpE (fun a ha => Is.cons ha (Is.cons ha (Is.cons ha (Is.nil ha) rfl) rfl) rfl)
    · refine F_know (i := 9) rfl (dec_f c4) ?_
      refine F_gval rfl rfl rfl rfl rfl rfl (O_move rfl rfl) ?_
      refine F_gval rfl rfl rfl rfl rfl rfl (O_gt rfl rfl rfl) ?_
      refine F_val rfl rfl rfl (O_pickF rfl rfl rfl) ?_
      refine F_know (i := 12) rfl (dec_or_f (q := 32 < n_1) c4) ?_
      exact F_grpE (fun a ha => Is.cons ha (Is.cons ha (Is.cons ha (Is.nil ha) rfl) rfl) rfl)
  · skip
    refine F_val rfl rfl rfl (O_move rfl rfl) ?_
    obtain ⟨b6, Hb6, H⟩ := of_bind H
    refine F_grp 7 [(20, .bool b6), (0, .int .u32 v_0), (1, .int .i64 n_1)] ?_ ?_
    · rcases Decidable.em ((n_1 < 0) ∨ (32 < n_1)) with c10 | c10
      · refine F_know (i := 13) rfl (dec_t c10) ?_
        have H := of_pos Hb6 c10
        refine F_gskip rfl rfl rfl rfl rfl rfl rfl ?_
        refine F_gskip rfl rfl rfl rfl rfl rfl rfl ?_
        refine F_gskip rfl rfl rfl rfl rfl rfl rfl ?_
        refine F_gskip rfl rfl rfl rfl rfl rfl rfl ?_
        refine F_gskip rfl rfl rfl rfl rfl rfl rfl ?_
        refine F_gskip rfl rfl rfl rfl rfl rfl rfl ?_
        refine F_val rfl rfl rfl (O_pickT rfl rfl rfl) ?_
        refine F_know (i := 20) rfl (congrArg Value.bool (Option.some.inj H)) ?_
        exact F_grpE (fun a ha => Is.cons ha (Is.cons ha (Is.cons ha (Is.nil ha) rfl) rfl) rfl)
      · refine F_know (i := 13) rfl (dec_f c10) ?_
        have H := of_neg Hb6 c10
        refine F_gval rfl rfl rfl rfl rfl rfl (O_move rfl rfl) ?_
        refine F_gval rfl rfl rfl rfl rfl rfl (O_conv rfl rfl ⟨_, Try.underlying114⟩ Try.underlying129) ?_
        refine F_gval rfl rfl rfl rfl rfl rfl (O_move rfl rfl) ?_
        refine F_gval rfl rfl rfl rfl rfl rfl (O_conv rfl rfl ⟨_, Try.underlying3⟩ Try.underlying43) ?_
        obtain ⟨g11, H⟩ := of_gd H
        refine F_gval rfl rfl rfl rfl rfl rfl (O_shr rfl rfl rfl g11) ?_
        refine F_gval rfl rfl rfl rfl rfl rfl (O_ne rfl rfl rfl) ?_
        refine F_val rfl rfl rfl (O_pickF rfl rfl rfl) ?_
        refine F_know (i := 20) rfl (congrArg Value.bool (Option.some.inj H)) ?_
        exact F_grpE (fun a ha => Is.cons ha (Is.cons ha (Is.cons ha (Is.nil ha) rfl) rfl) rfl)
    · skip
      refine F_nil ?_
      refine L_cond rfl (fun c12 => ?_) (fun c12 => ?_)
      · have H := of_pos H c12
        refine L_seq ?_
        refine L_region ?_
        refine F_val rfl rfl rfl (O_assign rfl rfl) ?_
        refine F_val rfl rfl rfl (O_assign rfl rfl) ?_
        refine F_nil ?_
        refine L_ret (fun a ha => (post_ret2 ha rfl rfl rfl ?_))
        obtain rfl := Option.some.inj H
        exact ⟨rfl, HS0.sel [] rfl⟩
      · have H := of_neg H (by rw [c12]; exact Bool.false_ne_true)
        refine L_skip ?_
        refine L_seq ?_
        refine L_region ?_
        refine F_val rfl rfl rfl (O_assign rfl rfl) ?_
        refine F_nil ?_
        refine L_seq ?_
        refine L_seq ?_
        refine L_region ?_
        refine F_val rfl rfl rfl (O_move rfl rfl) ?_
        refine F_val rfl rfl rfl (O_move rfl rfl) ?_
        refine F_nil ?_
        obtain ⟨yj13, Hyj13, H⟩ := of_bind H
        refine L_join (fun a w => ∃ (out_42 : Int), yj13 = out_42 ∧ Is Try.f76.ntmps a [(6, .int .u32 out_42)] ∧ Hp S0 w0 w []) (fun Qj13 hNj13 hOj13 => ?_) (fun a w hR => ?_)
        · skip
          have H := Hyj13
          refine L_blk (fun Qb43 hNb43 hXb43 hOb43 => ?_)
          refine L_lp (fun k a w => ∃ (v_60 : Int), ∃ (out_61 : Int), ∃ (t62 : Int), Is Try.f76.ntmps a [(0, .int .u32 v_60), (6, .int .u32 out_61), (21, .int .i64 n_1), (22, .int .i64 t62)] ∧ Hp S0 w0 w [] ∧ bits_Reverse.l1 k v_60 out_61 t62 n_1 = some yj13) FU (fun a ha => ⟨_, _, _, Is.cons ha (Is.cons ha (Is.cons ha (Is.cons ha (Is.nil ha) rfl) rfl) rfl) rfl, HS0.sel [] rfl, H⟩) (fun kp59 a w63 hI Qp59 hNp59 hOp59 => ?_)
          obtain ⟨v_60, out_61, t62, ha, HS64, HAp59⟩ := hI
          cases kp59 with
          | zero => cases (show (none : Option _) = some _ from HAp59)
          | succ kp59 =>
            have H := (bits_Reverse.l1.eq_2 ..).symm.trans HAp59
            refine wpLF_app ?_ ha
            refine L_seq ?_
            refine L_region ?_
            refine F_val rfl rfl rfl (O_lt rfl rfl rfl) ?_
            refine F_nil ?_
            refine L_seq ?_
            refine L_condP rfl (fun c65 => ?_) (fun c65 => ?_)
            · have H := of_pos H c65
              refine L_skip ?_
              refine L_seq ?_
              refine L_blk (fun Q66 hN66 hX66 hO66 => ?_)
              refine L_seq ?_
              refine L_region ?_
              refine F_val rfl rfl rfl (O_move rfl rfl) ?_
              refine F_val rfl rfl rfl (O_shl rfl rfl rfl (by decide)) ?_
              refine F_val rfl rfl rfl (O_move rfl rfl) ?_
              refine F_val rfl rfl rfl (O_and rfl rfl rfl) ?_
              refine F_val rfl rfl rfl (O_or rfl rfl rfl) ?_
              obtain ⟨x67, h68, H⟩ := of_bnd H
              refine F_val rfl rfl rfl (O_assign' rfl rfl (congrArg (Value.int .u32) h68)) ?_
              refine F_nil ?_
              refine L_region ?_
              refine F_val rfl rfl rfl (O_move rfl rfl) ?_
              refine F_val rfl rfl rfl (O_shr rfl rfl rfl (by decide)) ?_
              obtain ⟨x69, h70, H⟩ := of_bnd H
              refine F_val rfl rfl rfl (O_assign' rfl rfl (congrArg (Value.int .u32) h70)) ?_
              refine F_nil ?_
              refine L_endB hN66 ?_
              refine L_region ?_
              refine F_val rfl rfl rfl (O_add rfl rfl rfl) ?_
              refine F_val rfl rfl rfl (O_move rfl rfl) ?_
              refine F_nil ?_
              refine L_nil (fun a ha => hNp59 _ a _ (Nat.lt_succ_self _) ⟨_, _, _, Is.cons ha (Is.cons ha (Is.cons ha (Is.cons ha (Is.nil ha) rfl) rfl) rfl) rfl, HS64.sel [] rfl, H⟩)
            · have H := of_neg H c65
              refine L_exitB (fun a w h => hOp59 (.exit 0) a w rfl (hXb43 a w h)) ?_
              refine L_nil (fun a ha => hNj13 a _ ⟨_, (Option.some.inj H).symm, Is.cons ha (Is.nil ha) rfl, HS64.sel [] rfl⟩)
        · obtain ⟨out_42, ej, ha, HS72⟩ := hR
          obtain rfl := ej.symm
          refine wpLF_app ?_ ha
          refine L_seq ?_
          refine L_region ?_
          refine F_val rfl rfl rfl (O_move rfl rfl) ?_
          refine F_val rfl rfl rfl (O_assign rfl rfl) ?_
          refine F_val rfl rfl rfl (O_assign rfl rfl) ?_
          refine F_nil ?_
          refine L_ret (fun a ha => (post_ret2 ha rfl rfl rfl ?_))
          obtain rfl := Option.some.inj H
          exact ⟨rfl, HS72.sel [] rfl⟩

/-! function 85: (*valise/bits.Writer).lay -/
theorem bits_Writer_lay.calls {S0 : Nat → Prop} {w0 : World} {g_w_0 : Nat} {A_w_0_bytes : Option Addr} {c_w_0_bytes : Nat} {w_0_bytes : List Int} {w_0_count : Int} {v_1 : Int} {n_2 : Int} {r : List Int × Int} (HS0 : Hp S0 w0 w0 [.box g_w_0 [.slice A_w_0_bytes w_0_bytes.length c_w_0_bytes, .int .i64 w_0_count] 101, .own A_w_0_bytes c_w_0_bytes (rowC (Eint .u8) w_0_bytes) 5 (Eint .u8).sz]) (h : bits_Writer_lay.f w_0_bytes w_0_count v_1 n_2 = some r) :
    Calls Try.prog 85 ([.pointer (some ⟨g_w_0, 0, none⟩), .int .u64 v_1, .int .i64 n_2] : List Value).toArray w0 (fun e w => ∃ (A_w_0_bytes' : Option Addr), ∃ (c_w_0_bytes' : Nat), e = .returned (.tuple #[]) ∧ Hp S0 w0 w [.box g_w_0 [.slice A_w_0_bytes' r.1.length c_w_0_bytes', .int .i64 r.2] 101, .own A_w_0_bytes' c_w_0_bytes' (rowC (Eint .u8) r.1) 5 (Eint .u8).sz]) := by
  have H : (((bits_Writer_lay.l1 FU w_0_bytes w_0_count v_1 n_2 ).bind fun (l206, y207) => some (l206, y207)) : Option (List Int × Int)) = some r := h
  refine calls_start Try.func85 rfl rfl ?_
  obtain ⟨yj1, Hyj1, H⟩ := of_bind H
  refine L_join (fun a w => ∃ (l206 : List Int), ∃ (y207 : Int), ∃ (A204 : Option Addr), ∃ (c205 : Nat), yj1 = (l206, y207) ∧ Is Try.f85.ntmps a [] ∧ Hp S0 w0 w [.box g_w_0 [.slice A204 l206.length c205, .int .i64 y207] 101, .own A204 c205 (rowC (Eint .u8) l206) 5 (Eint .u8).sz]) (fun Qj1 hNj1 hOj1 => ?_) (fun a w hR => ?_)
  · skip
    have H := Hyj1
    refine L_blk (fun Qb208 hNb208 hXb208 hOb208 => ?_)
    refine L_lp (fun k a w => ∃ (l342 : List Int), ∃ (y343 : Int), ∃ (v_344 : Int), ∃ (n_345 : Int), ∃ (A340 : Option Addr), ∃ (c341 : Nat), Is Try.f85.ntmps a [(0, .pointer (some ⟨g_w_0, 0, none⟩)), (1, .int .u64 v_344), (2, .int .i64 n_345)] ∧ Hp S0 w0 w [.box g_w_0 [.slice A340 l342.length c341, .int .i64 y343] 101, .own A340 c341 (rowC (Eint .u8) l342) 5 (Eint .u8).sz] ∧ bits_Writer_lay.l1 k l342 y343 v_344 n_345  = some yj1) FU (fun a ha => ⟨_, _, _, _, _, _, Is.cons ha (Is.cons ha (Is.cons ha (Is.nil ha) rfl) rfl) rfl, HS0.sel [0, 1] rfl, H⟩) (fun kp339 a w346 hI Qp339 hNp339 hOp339 => ?_)
    obtain ⟨l342, y343, v_344, n_345, A340, c341, ha, HS347, HAp339⟩ := hI
    cases kp339 with
    | zero => cases (show (none : Option _) = some _ from HAp339)
    | succ kp339 =>
      have H := (bits_Writer_lay.l1.eq_2 ..).symm.trans HAp339
      refine wpLF_app ?_ ha
      refine L_seq ?_
      refine L_seq ?_
      refine L_region ?_
      refine F_val rfl rfl rfl (O_move rfl rfl) ?_
      refine F_val rfl rfl rfl (O_gt rfl rfl rfl) ?_
      refine F_nil ?_
      refine L_condP rfl (fun c348 => ?_) (fun c348 => ?_)
      · have H := of_pos H c348
        refine L_skip ?_
        refine L_blk (fun Q349 hN349 hX349 hO349 => ?_)
        refine L_seq ?_
        refine L_region ?_
        refine F_val rfl rfl rfl (O_move rfl rfl) ?_
        refine F_val rfl rfl rfl (O_nilCheck rfl rfl) ?_
        refine F_val rfl rfl rfl (O_fieldB rfl rfl field101_1) ?_
        refine F_val rfl rfl rfl (O_loadB rfl rfl flat3 (HS347.cells_box (i := 0) rfl) rfl) ?_
        refine F_val rfl rfl rfl (O_rem rfl rfl rfl (by decide)) ?_
        obtain ⟨x350, h351, H⟩ := of_bnd H
        refine F_val rfl rfl rfl (O_assign' rfl rfl (congrArg (Value.int .i64) h351)) ?_
        refine F_nil ?_
        refine L_seq ?_
        refine L_seq ?_
        refine L_region ?_
        refine F_val rfl rfl rfl (O_move rfl rfl) ?_
        refine F_val rfl rfl rfl (O_eq rfl rfl rfl) ?_
        refine F_nil ?_
        obtain ⟨yj352, Hyj352, H⟩ := of_bind H
        refine L_join (fun a w => ∃ (l370 : List Int), ∃ (A368 : Option Addr), ∃ (c369 : Nat), yj352 = l370 ∧ Is Try.f85.ntmps a [(0, .pointer (some ⟨g_w_0, 0, none⟩)), (1, .int .u64 v_344), (2, .int .i64 n_345), (6, .int .i64 x350)] ∧ Hp S0 w0 w [.box g_w_0 [.slice A368 l370.length c369, .int .i64 y343] 101, .own A368 c369 (rowC (Eint .u8) l370) 5 (Eint .u8).sz]) (fun Qj352 hNj352 hOj352 => ?_) (fun a w hR => ?_)
        · skip
          have H := Hyj352
          refine L_condP rfl (fun c371 => ?_) (fun c371 => ?_)
          · have H := of_pos H c371
            refine L_region ?_
            refine F_val rfl rfl rfl (O_move rfl rfl) ?_
            refine F_val rfl rfl rfl (O_move rfl rfl) ?_
            refine F_val rfl rfl rfl (O_nilCheck rfl rfl) ?_
            refine F_val rfl rfl rfl (O_fieldB rfl rfl field101_0) ?_
            refine F_val rfl rfl rfl (O_loadB rfl rfl flat46 (HS347.cells_box (i := 0) rfl) rfl) ?_
            refine F_litE (E := (Eint .u8)) (e := 5) [(0, .int .u8 0)] [0] rfl rfl rfl rfl rfl rfl rfl (by decide) (fun w => by kernel_rfl) HS347 (fun w372 A374 c375 HS373 => ?_)
            have HS373 : Hp S0 w0 w372 [.box g_w_0 [.slice A340 l342.length c341, .int .i64 y343] 101, .own A340 c341 (rowC (Eint .u8) l342) 5 (Eint .u8).sz, .own A374 c375 (rowC (Eint .u8) [0]) 5 (Eint .u8).sz] := HS373
            obtain ⟨l379, h380, H⟩ := of_bnd H
            obtain ⟨g381, H⟩ := of_gd H
            refine F_appE (E := (Eint .u8)) (xs := l342) (ys := [0]) (i := 1) rfl rfl rfl rfl Try.underlying46 info5 rfl (by decide) (by decide) rfl rfl HS373 rfl (HS373.cells_own (i := 2) rfl) h380 g381 (fun w377 A382 c383 HS378 => ?_)
            have HS378 : Hp S0 w0 w377 [.box g_w_0 [.slice A340 l342.length c341, .int .i64 y343] 101, .own A382 c383 (rowC (Eint .u8) l379) 5 (Eint .u8).sz, .own A374 c375 (rowC (Eint .u8) [0]) 5 (Eint .u8).sz] := HS378
            refine F_val rfl rfl rfl (O_nilCheck rfl rfl) ?_
            refine F_val rfl rfl rfl (O_fieldB rfl rfl field101_0) ?_
            refine F_stB 0 ([.slice A382 l379.length c383, .int .i64 y343]) rfl rfl rfl rfl rfl size46 HS378 rfl rfl rfl rfl rfl (fun w384 HS385 => ?_)
            have HS385 : Hp S0 w0 w384 [.box g_w_0 [.slice A382 l379.length c383, .int .i64 y343] 101, .own A382 c383 (rowC (Eint .u8) l379) 5 (Eint .u8).sz, .own A374 c375 (rowC (Eint .u8) [0]) 5 (Eint .u8).sz] := HS385
            refine F_nil ?_
            refine L_nil (fun a ha => hNj352 a _ ⟨_, _, _, (Option.some.inj H).symm, Is.cons ha (Is.cons ha (Is.cons ha (Is.cons ha (Is.nil ha) rfl) rfl) rfl) rfl, HS385.sel [0, 1] rfl⟩)
          · have H := of_neg H c371
            refine L_skip ?_
            refine L_nil (fun a ha => hNj352 a _ ⟨_, _, _, (Option.some.inj H).symm, Is.cons ha (Is.cons ha (Is.cons ha (Is.cons ha (Is.nil ha) rfl) rfl) rfl) rfl, HS347.sel [0, 1] rfl⟩)
        · obtain ⟨l370, A368, c369, ej, ha, HS387⟩ := hR
          obtain rfl := ej.symm
          refine wpLF_app ?_ ha
          refine L_seq ?_
          refine L_region ?_
          refine F_val rfl rfl rfl (O_move rfl rfl) ?_
          refine F_val rfl rfl rfl (O_sub rfl rfl rfl) ?_
          refine F_val rfl rfl rfl (O_move rfl rfl) ?_
          refine F_val rfl rfl rfl (O_min rfl rfl rfl) ?_
          obtain ⟨x388, h389, H⟩ := of_bnd H
          refine F_val rfl rfl rfl (O_assign' rfl rfl (congrArg (Value.int .i64) h389)) ?_
          refine F_nil ?_
          refine L_seq ?_
          refine L_region ?_
          refine F_val rfl rfl rfl (O_move rfl rfl) ?_
          refine F_val rfl rfl rfl (O_move rfl rfl) ?_
          refine F_val rfl rfl rfl (O_conv rfl rfl ⟨_, Try.underlying3⟩ Try.underlying43) ?_
          obtain ⟨g390, H⟩ := of_gd H
          refine F_val rfl rfl rfl (O_shl rfl rfl rfl g390) ?_
          refine F_val rfl rfl rfl (O_sub rfl rfl rfl) ?_
          refine F_val rfl rfl rfl (O_and rfl rfl rfl) ?_
          obtain ⟨x391, h392, H⟩ := of_bnd H
          refine F_val rfl rfl rfl (O_assign' rfl rfl (congrArg (Value.int .u64) h392)) ?_
          refine F_nil ?_
          refine L_seq ?_
          refine L_tail 19 mix (by kernel_rfl) (fun w393 hw394 => ?_)
          have HS395 := HS387.keep hw394
          refine S_val rfl rfl rfl (O_move rfl rfl) ?_
          refine S_val rfl rfl rfl (O_nilCheck rfl rfl) ?_
          refine S_val rfl rfl rfl (O_fieldB rfl rfl field101_0) ?_
          refine S_val rfl rfl rfl (O_loadB rfl rfl flat46 (HS395.cells_box (i := 0) rfl) rfl) ?_
          refine S_val rfl rfl rfl (O_move rfl rfl) ?_
          refine S_val rfl rfl rfl (O_nilCheck rfl rfl) ?_
          refine S_val rfl rfl rfl (O_fieldB rfl rfl field101_0) ?_
          refine S_val rfl rfl rfl (O_loadB rfl rfl flat46 (HS395.cells_box (i := 0) rfl) rfl) ?_
          refine S_val rfl rfl rfl (O_len rfl rfl Try.underlying46) ?_
          refine S_val rfl rfl rfl (O_sub rfl rfl rfl) ?_
          obtain ⟨⟨g396, g397⟩, H⟩ := of_gd H
          refine S_val rfl rfl rfl (O_idx rfl rfl rfl Try.underlying46 size5 g396 g397 (Cells.isA (HS395.cells_own (i := 1) rfl) (rowC_ne (E := (Eint .u8)) g396 g397 (by decide)))) ?_
          refine S_val rfl rfl rfl (O_loadC rfl rfl flat5 (HS395.cells_own (i := 1) rfl) (int_cell g396 g397)) ?_
          refine S_val rfl rfl rfl (O_move rfl rfl) ?_
          refine S_val rfl rfl rfl (O_move rfl rfl) ?_
          refine S_val rfl rfl rfl (O_conv rfl rfl ⟨_, Try.underlying3⟩ Try.underlying43) ?_
          obtain ⟨g398, H⟩ := of_gd H
          refine S_val rfl rfl rfl (O_shl rfl rfl rfl g398) ?_
          refine S_val rfl rfl rfl (O_conv rfl rfl ⟨_, Try.underlying129⟩ Try.underlying5) ?_
          refine S_val rfl rfl rfl (O_or rfl rfl rfl) ?_
          refine S_val rfl rfl rfl (O_idx rfl rfl rfl Try.underlying46 size5 g396 g397 (Cells.isA (HS395.cells_own (i := 1) rfl) (rowC_ne (E := (Eint .u8)) g396 g397 (by decide)))) ?_
          refine S_nil ?_
          obtain ⟨l401, h402, H⟩ := of_bnd H
          refine F_setE (E := (Eint .u8)) (i := 1) (a := bor .u8 (rd l370 (IntKind.i64.wrap ((l370.length : Int) - 1))) (IntKind.u8.wrap (shl .u64 x391 (IntKind.u64.wrap x350)))) (q := IntKind.i64.wrap ((l370.length : Int) - 1)) rfl rfl rfl rfl rfl rfl size5 HS395 rfl (by decide) g396 g397 h402 (fun w399 HS400 => ?_)
          have e403 : l370.length = l401.length := by rw [← h402, List.length_set]
          have HS400 : Hp S0 w0 w399 [.box g_w_0 [.slice A368 l401.length c369, .int .i64 y343] 101, .own A368 c369 (rowC (Eint .u8) l401) 5 (Eint .u8).sz] := (by rw [← e403]; exact HS400)
          refine F_nil ?_
          refine L_seq ?_
          refine L_region ?_
          refine F_val rfl rfl rfl (O_move rfl rfl) ?_
          refine F_val rfl rfl rfl (O_move rfl rfl) ?_
          refine F_val rfl rfl rfl (O_conv rfl rfl ⟨_, Try.underlying3⟩ Try.underlying43) ?_
          refine F_val rfl rfl rfl (O_shr rfl rfl rfl g390) ?_
          obtain ⟨x404, h405, H⟩ := of_bnd H
          refine F_val rfl rfl rfl (O_assign' rfl rfl (congrArg (Value.int .u64) h405)) ?_
          refine F_nil ?_
          refine L_seq ?_
          refine L_region ?_
          refine F_val rfl rfl rfl (O_move rfl rfl) ?_
          refine F_val rfl rfl rfl (O_move rfl rfl) ?_
          refine F_val rfl rfl rfl (O_sub rfl rfl rfl) ?_
          obtain ⟨x406, h407, H⟩ := of_bnd H
          refine F_val rfl rfl rfl (O_assign' rfl rfl (congrArg (Value.int .i64) h407)) ?_
          refine F_nil ?_
          refine L_region ?_
          refine F_val rfl rfl rfl (O_move rfl rfl) ?_
          refine F_val rfl rfl rfl (O_nilCheck rfl rfl) ?_
          refine F_val rfl rfl rfl (O_fieldB rfl rfl field101_1) ?_
          refine F_val rfl rfl rfl (O_loadB rfl rfl flat3 (HS400.cells_box (i := 0) rfl) rfl) ?_
          refine F_val rfl rfl rfl (O_move rfl rfl) ?_
          refine F_val rfl rfl rfl (O_add rfl rfl rfl) ?_
          refine F_val rfl rfl rfl (O_nilCheck rfl rfl) ?_
          refine F_val rfl rfl rfl (O_fieldB rfl rfl field101_1) ?_
          refine F_stB 0 ([.slice A368 l401.length c369, .int .i64 (IntKind.i64.wrap (y343 + x388))]) rfl rfl rfl rfl rfl size3 HS400 rfl rfl rfl rfl rfl (fun w408 HS409 => ?_)
          have HS409 : Hp S0 w0 w408 [.box g_w_0 [.slice A368 l401.length c369, .int .i64 (IntKind.i64.wrap (y343 + x388))] 101, .own A368 c369 (rowC (Eint .u8) l401) 5 (Eint .u8).sz] := HS409
          refine F_nil ?_
          refine L_endB hN349 ?_
          refine L_nil (fun a ha => hNp339 _ a _ (Nat.lt_succ_self _) ⟨_, _, _, _, _, _, Is.cons ha (Is.cons ha (Is.cons ha (Is.nil ha) rfl) rfl) rfl, HS409.sel [0, 1] rfl, H⟩)
      · have H := of_neg H c348
        refine L_exitB (fun a w h => hOp339 (.exit 0) a w rfl (hXb208 a w h)) ?_
        refine L_nil (fun a ha => hNj1 a _ ⟨_, _, _, _, (Option.some.inj H).symm, Is.nil ha, HS347.sel [0, 1] rfl⟩)
  · obtain ⟨l206, y207, A204, c205, rfl, ha, HS411⟩ := hR
    refine wpLF_app ?_ ha
    refine L_nil (fun a ha => (post_end0 ha rfl ?_))
    obtain rfl := Option.some.inj H
    exact ⟨_, _, rfl, HS411.sel [0, 1] rfl⟩

/-! function 77: (*valise/bits.Writer).Put -/
theorem bits_Writer_Put.calls {S0 : Nat → Prop} {w0 : World} {g_w_0 : Nat} {A_w_0_bytes : Option Addr} {c_w_0_bytes : Nat} {w_0_bytes : List Int} {w_0_count : Int} {v_1 : Int} {n_2 : Int} {r : Int × List Int × Int} (HS0 : Hp S0 w0 w0 [.box g_w_0 [.slice A_w_0_bytes w_0_bytes.length c_w_0_bytes, .int .i64 w_0_count] 101, .own A_w_0_bytes c_w_0_bytes (rowC (Eint .u8) w_0_bytes) 5 (Eint .u8).sz]) (h : bits_Writer_Put.f w_0_bytes w_0_count v_1 n_2 = some r) :
    Calls Try.prog 77 ([.pointer (some ⟨g_w_0, 0, none⟩), .int .u32 v_1, .int .i64 n_2] : List Value).toArray w0 (fun e w => ∃ (A_w_0_bytes' : Option Addr), ∃ (c_w_0_bytes' : Nat), e = .returned (.int .i64 r.1) ∧ Hp S0 w0 w [.box g_w_0 [.slice A_w_0_bytes' r.2.1.length c_w_0_bytes', .int .i64 r.2.2] 101, .own A_w_0_bytes' c_w_0_bytes' (rowC (Eint .u8) r.2.1) 5 (Eint .u8).sz]) := by
  have H : (((if (n_2 < 0) ∨ (32 < n_2) then (some true) else (gd (¬ (IntKind.u64.wrap n_2) < 0) (some (decide (shr .u64 (IntKind.u64.wrap v_1) (IntKind.u64.wrap n_2) ≠ 0))))).bind fun b6 => if (b6 = true) ∨ (268435456 < IntKind.i64.wrap (w_0_count + n_2)) then (some (1, w_0_bytes, w_0_count)) else ((bits_Writer_lay.f w_0_bytes w_0_count (IntKind.u64.wrap v_1) n_2).bind fun (z21, z22) => some (0, z21, z22))) : Option (Int × List Int × Int)) = some r := h
  refine calls_start Try.func77 rfl rfl ?_
  refine L_seq ?_
  refine L_region ?_
  refine F_val rfl rfl rfl (O_assign rfl rfl) ?_
  refine F_nil ?_
  refine L_seq ?_
  refine L_seq ?_
  refine L_region ?_
  refine F_val rfl rfl rfl (O_move rfl rfl) ?_
  refine F_val rfl rfl rfl (O_peq rfl rfl rfl Try.underlying78) ?_
  refine F_val rfl rfl rfl (O_move rfl rfl) ?_
  refine F_gval rfl rfl rfl rfl rfl rfl (O_move rfl rfl) ?_
  refine F_gval rfl rfl rfl rfl rfl rfl (O_lt rfl rfl rfl) ?_
  refine F_val rfl rfl rfl (O_pickF rfl rfl rfl) ?_
  refine F_val rfl rfl rfl (O_move rfl rfl) ?_
  refine F_grp 3 [(16, .bool (decide ((n_2 < 0) ∨ (32 < n_2)))), (0, .pointer (some ⟨g_w_0, 0, none⟩)), (1, .int .u32 v_1), (2, .int .i64 n_2)] ?_ ?_
  · rcases Decidable.em (n_2 < 0) with c4 | c4
    · refine F_know (i := 13) rfl (dec_t c4) ?_
      refine F_gskip rfl rfl rfl rfl rfl rfl rfl ?_
      refine F_gskip rfl rfl rfl rfl rfl rfl rfl ?_
      refine F_val rfl rfl rfl (O_pickT rfl rfl rfl) ?_
      refine F_know (i := 16) rfl (dec_or_t (q := 32 < n_2) c4) ?_
      exact F_grpE (fun a ha => Is.cons ha (Is.cons ha (Is.cons ha (Is.cons ha (Is.nil ha) rfl) rfl) rfl) rfl)
    · refine F_know (i := 13) rfl (dec_f c4) ?_
      refine F_gval rfl rfl rfl rfl rfl rfl (O_move rfl rfl) ?_
      refine F_gval rfl rfl rfl rfl rfl rfl (O_gt rfl rfl rfl) ?_
      refine F_val rfl rfl rfl (O_pickF rfl rfl rfl) ?_
      refine F_know (i := 16) rfl (dec_or_f (q := 32 < n_2) c4) ?_
      exact F_grpE (fun a ha => Is.cons ha (Is.cons ha (Is.cons ha (Is.cons ha (Is.nil ha) rfl) rfl) rfl) rfl)
  · skip
    refine F_val rfl rfl rfl (O_move rfl rfl) ?_
    obtain ⟨b6, Hb6, H⟩ := of_bind H
    refine F_grp 7 [(24, .bool b6), (0, .pointer (some ⟨g_w_0, 0, none⟩)), (1, .int .u32 v_1), (2, .int .i64 n_2)] ?_ ?_
    · rcases Decidable.em ((n_2 < 0) ∨ (32 < n_2)) with c10 | c10
      · refine F_know (i := 17) rfl (dec_t c10) ?_
        have H := of_pos Hb6 c10
        refine F_gskip rfl rfl rfl rfl rfl rfl rfl ?_
        refine F_gskip rfl rfl rfl rfl rfl rfl rfl ?_
        refine F_gskip rfl rfl rfl rfl rfl rfl rfl ?_
        refine F_gskip rfl rfl rfl rfl rfl rfl rfl ?_
        refine F_gskip rfl rfl rfl rfl rfl rfl rfl ?_
        refine F_gskip rfl rfl rfl rfl rfl rfl rfl ?_
        refine F_val rfl rfl rfl (O_pickT rfl rfl rfl) ?_
        refine F_know (i := 24) rfl (congrArg Value.bool (Option.some.inj H)) ?_
        exact F_grpE (fun a ha => Is.cons ha (Is.cons ha (Is.cons ha (Is.cons ha (Is.nil ha) rfl) rfl) rfl) rfl)
      · refine F_know (i := 17) rfl (dec_f c10) ?_
        have H := of_neg Hb6 c10
        refine F_gval rfl rfl rfl rfl rfl rfl (O_move rfl rfl) ?_
        refine F_gval rfl rfl rfl rfl rfl rfl (O_conv rfl rfl ⟨_, Try.underlying114⟩ Try.underlying129) ?_
        refine F_gval rfl rfl rfl rfl rfl rfl (O_move rfl rfl) ?_
        refine F_gval rfl rfl rfl rfl rfl rfl (O_conv rfl rfl ⟨_, Try.underlying3⟩ Try.underlying43) ?_
        obtain ⟨g11, H⟩ := of_gd H
        refine F_gval rfl rfl rfl rfl rfl rfl (O_shr rfl rfl rfl g11) ?_
        refine F_gval rfl rfl rfl rfl rfl rfl (O_ne rfl rfl rfl) ?_
        refine F_val rfl rfl rfl (O_pickF rfl rfl rfl) ?_
        refine F_know (i := 24) rfl (congrArg Value.bool (Option.some.inj H)) ?_
        exact F_grpE (fun a ha => Is.cons ha (Is.cons ha (Is.cons ha (Is.cons ha (Is.nil ha) rfl) rfl) rfl) rfl)
    · skip
      refine F_val rfl rfl rfl (O_move rfl rfl) ?_
      refine F_grp 8 [(33, .bool (decide ((b6 = true) ∨ (268435456 < IntKind.i64.wrap (w_0_count + n_2))))), (0, .pointer (some ⟨g_w_0, 0, none⟩)), (1, .int .u32 v_1), (2, .int .i64 n_2)] ?_ ?_
      · rcases Decidable.em (b6 = true) with c15 | c15
        · refine F_know (i := 25) rfl (congrArg Value.bool c15) ?_
          refine F_gskip rfl rfl rfl rfl rfl rfl rfl ?_
          refine F_gskip rfl rfl rfl rfl rfl rfl rfl ?_
          refine F_gskip rfl rfl rfl rfl rfl rfl rfl ?_
          refine F_gskip rfl rfl rfl rfl rfl rfl rfl ?_
          refine F_gskip rfl rfl rfl rfl rfl rfl rfl ?_
          refine F_gskip rfl rfl rfl rfl rfl rfl rfl ?_
          refine F_gskip rfl rfl rfl rfl rfl rfl rfl ?_
          refine F_val rfl rfl rfl (O_pickT rfl rfl rfl) ?_
          refine F_know (i := 33) rfl (dec_or_t (q := 268435456 < IntKind.i64.wrap (w_0_count + n_2)) c15) ?_
          exact F_grpE (fun a ha => Is.cons ha (Is.cons ha (Is.cons ha (Is.cons ha (Is.nil ha) rfl) rfl) rfl) rfl)
        · refine F_know (i := 25) rfl (congrArg Value.bool (Bool.eq_false_iff.mpr c15)) ?_
          refine F_gval rfl rfl rfl rfl rfl rfl (O_move rfl rfl) ?_
          refine F_gval rfl rfl rfl rfl rfl rfl (O_nilCheck rfl rfl) ?_
          refine F_gval rfl rfl rfl rfl rfl rfl (O_fieldB rfl rfl field101_1) ?_
          refine F_gval rfl rfl rfl rfl rfl rfl (O_loadB rfl rfl flat3 (HS0.cells_box (i := 0) rfl) rfl) ?_
          refine F_gval rfl rfl rfl rfl rfl rfl (O_move rfl rfl) ?_
          refine F_gval rfl rfl rfl rfl rfl rfl (O_add rfl rfl rfl) ?_
          refine F_gval rfl rfl rfl rfl rfl rfl (O_gt rfl rfl rfl) ?_
          refine F_val rfl rfl rfl (O_pickF rfl rfl rfl) ?_
          refine F_know (i := 33) rfl (dec_or_f (q := 268435456 < IntKind.i64.wrap (w_0_count + n_2)) c15) ?_
          exact F_grpE (fun a ha => Is.cons ha (Is.cons ha (Is.cons ha (Is.cons ha (Is.nil ha) rfl) rfl) rfl) rfl)
      · skip
        refine F_nil ?_
        refine L_condP rfl (fun c16 => ?_) (fun c16 => ?_)
        · have H := of_pos H c16
          refine L_seq ?_
          refine L_region ?_
          refine F_val rfl rfl rfl (O_assign rfl rfl) ?_
          refine F_nil ?_
          refine L_ret (fun a ha => (post_ret1 ha rfl rfl ?_))
          obtain rfl := Option.some.inj H
          exact ⟨_, _, rfl, HS0.sel [0, 1] rfl⟩
        · have H := of_neg H c16
          refine L_skip ?_
          refine L_seq ?_
          refine L_region ?_
          refine F_val rfl rfl rfl (O_move rfl rfl) ?_
          refine F_val rfl rfl rfl (O_move rfl rfl) ?_
          refine F_val rfl rfl rfl (O_conv rfl rfl ⟨_, Try.underlying114⟩ Try.underlying129) ?_
          refine F_val rfl rfl rfl (O_move rfl rfl) ?_
          obtain ⟨⟨z21, z22⟩, h20, H⟩ := of_bind H
          refine F_call (xs := [.tmp 34, .tmp 36, .tmp 37]) rfl rfl rfl rfl Try.func85 nm85 rfl rfl ((bits_Writer_lay.calls (HS0.give [0, 1] rfl (Lent.nil)) h20).mono (fun e w hc => ?_))
          obtain ⟨A25, c26, rfl, HSo⟩ := hc
          refine ⟨.tuple #[], rfl, ?_⟩
          have HS24 : Hp S0 w0 w [.box g_w_0 [.slice A25 z21.length c26, .int .i64 z22] 101, .own A25 c26 (rowC (Eint .u8) z21) 5 (Eint .u8).sz] := (HS0.back [0, 1] HSo rfl).sel [2, 3] rfl
          refine F_nil ?_
          refine L_seq ?_
          refine L_region ?_
          refine F_val rfl rfl rfl (O_assign rfl rfl) ?_
          refine F_nil ?_
          refine L_ret (fun a ha => (post_ret1 ha rfl rfl ?_))
          obtain rfl := Option.some.inj H
          exact ⟨_, _, rfl, HS24.sel [0, 1] rfl⟩

/-! function 59: (*valise/code.Encoder).Put -/
theorem code_Encoder_Put.calls {S0 : Nat → Prop} {w0 : World} {g_e_0 : Nat} {A_e_0_table_lens : Option Addr} {c_e_0_table_lens : Nat} {A_e_0_table_words : Option Addr} {c_e_0_table_words : Nat} {g_w_1 : Nat} {A_w_1_bytes : Option Addr} {c_w_1_bytes : Nat} {e_0_table_lens : List Int} {e_0_table_words : List Int} {e_0_table_counts : List Int} {e_0_table_first : List Int} {w_1_bytes : List Int} {w_1_count : Int} {symbol_2 : Int} {r : Int × List Int × Int} (HS0 : Hp S0 w0 w0 [.box g_w_1 [.slice A_w_1_bytes w_1_bytes.length c_w_1_bytes, .int .i64 w_1_count] 101, .own A_w_1_bytes c_w_1_bytes (rowC (Eint .u8) w_1_bytes) 5 (Eint .u8).sz, .rd (some ⟨g_e_0, 0, none⟩) (([.slice A_e_0_table_lens e_0_table_lens.length c_e_0_table_lens, .slice A_e_0_table_words e_0_table_words.length c_e_0_table_words] : List Value) ++ rowC (Eint .i64) e_0_table_counts ++ rowC (Eint .i64) e_0_table_first), .rd A_e_0_table_lens (rowC (Eint .i64) e_0_table_lens), .rd A_e_0_table_words (rowC (Eint .i64) e_0_table_words)]) (h : code_Encoder_Put.f e_0_table_lens e_0_table_words e_0_table_counts e_0_table_first w_1_bytes w_1_count symbol_2 = some r) :
    Calls Try.prog 59 ([.pointer (some ⟨g_e_0, 0, none⟩), .pointer (some ⟨g_w_1, 0, none⟩), .int .i64 symbol_2] : List Value).toArray w0 (fun e w => ∃ (A_w_1_bytes' : Option Addr), ∃ (c_w_1_bytes' : Nat), e = .returned (.int .i64 r.1) ∧ Hp S0 w0 w [.box g_w_1 [.slice A_w_1_bytes' r.2.1.length c_w_1_bytes', .int .i64 r.2.2] 101, .own A_w_1_bytes' c_w_1_bytes' (rowC (Eint .u8) r.2.1) 5 (Eint .u8).sz]) := by
  have H : (((code_Encoder_Len.f e_0_table_lens e_0_table_words e_0_table_counts e_0_table_first symbol_2).bind fun z3 => if z3 = 0 then (some (56, w_1_bytes, w_1_count)) else (gd ((0 : Int) ≤ symbol_2 ∧ symbol_2 < (e_0_table_words.length : Int)) ((bits_Reverse.f (IntKind.u32.wrap (rd e_0_table_words symbol_2)) z3).bind fun (z12, z13) => if z13 ≠ 0 then (some (z13, w_1_bytes, w_1_count)) else ((bits_Writer_Put.f w_1_bytes w_1_count z12 z3).bind fun (z22, z23, z24) => some (z22, z23, z24))))) : Option (Int × List Int × Int)) = some r := h
  refine calls_start Try.func59 rfl rfl ?_
  refine L_seq ?_
  refine L_region ?_
  refine F_val rfl rfl rfl (O_assign rfl rfl) ?_
  refine F_nil ?_
  refine L_seq ?_
  refine L_seq ?_
  refine L_region ?_
  refine F_val rfl rfl rfl (O_move rfl rfl) ?_
  refine F_val rfl rfl rfl (O_peq rfl rfl rfl Try.underlying80) ?_
  refine F_val rfl rfl rfl (O_move rfl rfl) ?_
  refine F_gval rfl rfl rfl rfl rfl rfl (O_move rfl rfl) ?_
  refine F_gval rfl rfl rfl rfl rfl rfl (O_peq rfl rfl rfl Try.underlying78) ?_
  refine F_val rfl rfl rfl (O_pickF rfl rfl rfl) ?_
  refine F_nil ?_
  refine L_cond rfl (fun hx => by cases hx) (fun _ => ?_)
  refine L_skip ?_
  refine L_seq ?_
  refine L_region ?_
  refine F_val rfl rfl rfl (O_move rfl rfl) ?_
  refine F_val rfl rfl rfl (O_move rfl rfl) ?_
  obtain ⟨z3, h2, H⟩ := of_bind H
  refine F_qcall (v := .int .i64 z3) (xs := [.tmp 16, .tmp 17]) rfl rfl rfl rfl Try.func75 nm75 rfl rfl ((code_Encoder_Len.calls (HS0.give [] rfl (Lent.rd HS0 (Lent.rd HS0 (Lent.rd HS0 (Lent.nil) (i := 4) rfl ((HS0.cells_rd (i := 4) rfl).self)) (i := 3) rfl ((HS0.cells_rd (i := 3) rfl).self)) (i := 2) rfl (HS0.cells_rd (i := 2) rfl).self)) h2).mono (fun e w hc => ?_)) (fun w4 hw5 => ?_)
  · obtain ⟨rfl, h⟩ := hc
    exact ⟨rfl, h.chg0⟩
  have HS6 := HS0.keep hw5
  refine F_val rfl rfl rfl (O_assign rfl rfl) ?_
  refine F_nil ?_
  refine L_seq ?_
  refine L_seq ?_
  refine L_region ?_
  refine F_val rfl rfl rfl (O_move rfl rfl) ?_
  refine F_val rfl rfl rfl (O_eq rfl rfl rfl) ?_
  refine F_nil ?_
  refine L_condP rfl (fun c7 => ?_) (fun c7 => ?_)
  · have H := of_pos H c7
    refine L_seq ?_
    refine L_region ?_
    refine F_val rfl rfl rfl (O_assign rfl rfl) ?_
    refine F_nil ?_
    refine L_ret (fun a ha => (post_ret1 ha rfl rfl ?_))
    obtain rfl := Option.some.inj H
    exact ⟨_, _, rfl, HS6.sel [0, 1] rfl⟩
  · have H := of_neg H c7
    refine L_skip ?_
    refine L_seq ?_
    refine L_region ?_
    refine F_val rfl rfl rfl (O_move rfl rfl) ?_
    refine F_val rfl rfl rfl (O_nilCheck rfl rfl) ?_
    refine F_val rfl rfl rfl (O_fieldB rfl rfl field112_0) ?_
    refine F_val rfl rfl rfl (O_fieldB rfl rfl field109_1) ?_
    refine F_val rfl rfl rfl (O_loadB rfl rfl flat22 (HS6.cells_rd (i := 2) rfl) (cell_seg (j := 0) [.slice A_e_0_table_lens e_0_table_lens.length c_e_0_table_lens] [.slice A_e_0_table_words e_0_table_words.length c_e_0_table_words] (rowC (Eint .i64) e_0_table_counts ++ rowC (Eint .i64) e_0_table_first) (by simp only [List.append_assoc, List.cons_append, List.nil_append, List.append_nil]) rfl rfl)) ?_
    refine F_val rfl rfl rfl (O_move rfl rfl) ?_
    obtain ⟨⟨g8, g9⟩, H⟩ := of_gd H
    refine F_val rfl rfl rfl (O_idx rfl rfl rfl Try.underlying22 size3 g8 g9 (Cells.isA (HS6.cells_rd (i := 4) rfl) (rowC_ne (E := (Eint .i64)) g8 g9 (by decide)))) ?_
    refine F_val rfl rfl rfl (O_loadC rfl rfl flat3 (HS6.cells_rd (i := 4) rfl) (int_cell g8 g9)) ?_
    refine F_val rfl rfl rfl (O_conv rfl rfl ⟨_, Try.underlying3⟩ Try.underlying114) ?_
    refine F_val rfl rfl rfl (O_move rfl rfl) ?_
    obtain ⟨⟨z12, z13⟩, h11, H⟩ := of_bind H
    refine F_qcall (v := .tuple #[.int .u32 z12, .int .i64 z13]) (xs := [.tmp 30, .tmp 31]) rfl rfl rfl rfl Try.func76 nm76 rfl rfl ((bits_Reverse.calls (HS6.give [] rfl (Lent.nil)) h11).mono (fun e w hc => ?_)) (fun w14 hw15 => ?_)
    · obtain ⟨rfl, h⟩ := hc
      exact ⟨rfl, h.chg0⟩
    have HS16 := HS6.keep hw15
    refine F_val rfl rfl rfl (O_move rfl rfl) ?_
    refine F_val rfl rfl rfl (O_extract (v := .int .u32 z12) rfl rfl rfl) ?_
    refine F_val rfl rfl rfl (O_extract (v := .int .i64 z13) rfl rfl rfl) ?_
    refine F_val rfl rfl rfl (O_assign rfl rfl) ?_
    refine F_val rfl rfl rfl (O_assign rfl rfl) ?_
    refine F_nil ?_
    refine L_seq ?_
    refine L_seq ?_
    refine L_region ?_
    refine F_val rfl rfl rfl (O_move rfl rfl) ?_
    refine F_val rfl rfl rfl (O_ne rfl rfl rfl) ?_
    refine F_nil ?_
    refine L_condP rfl (fun c17 => ?_) (fun c17 => ?_)
    · have H := of_pos H c17
      refine L_seq ?_
      refine L_region ?_
      refine F_val rfl rfl rfl (O_move rfl rfl) ?_
      refine F_val rfl rfl rfl (O_assign rfl rfl) ?_
      refine F_nil ?_
      refine L_ret (fun a ha => (post_ret1 ha rfl rfl ?_))
      obtain rfl := Option.some.inj H
      exact ⟨_, _, rfl, HS16.sel [0, 1] rfl⟩
    · have H := of_neg H c17
      refine L_skip ?_
      refine L_seq ?_
      refine L_region ?_
      refine F_val rfl rfl rfl (O_move rfl rfl) ?_
      refine F_val rfl rfl rfl (O_move rfl rfl) ?_
      refine F_val rfl rfl rfl (O_move rfl rfl) ?_
      obtain ⟨⟨z22, z23, z24⟩, h21, H⟩ := of_bind H
      refine F_call (xs := [.tmp 38, .tmp 39, .tmp 40]) rfl rfl rfl rfl Try.func77 nm77 rfl rfl ((bits_Writer_Put.calls (HS16.give [0, 1] rfl (Lent.nil)) h21).mono (fun e w hc => ?_))
      obtain ⟨A27, c28, rfl, HSo⟩ := hc
      refine ⟨.int .i64 z22, rfl, ?_⟩
      have HS26 : Hp S0 w0 w [.box g_w_1 [.slice A27 z23.length c28, .int .i64 z24] 101, .own A27 c28 (rowC (Eint .u8) z23) 5 (Eint .u8).sz, .rd (some ⟨g_e_0, 0, none⟩) (([.slice A_e_0_table_lens e_0_table_lens.length c_e_0_table_lens, .slice A_e_0_table_words e_0_table_words.length c_e_0_table_words] : List Value) ++ rowC (Eint .i64) e_0_table_counts ++ rowC (Eint .i64) e_0_table_first), .rd A_e_0_table_lens (rowC (Eint .i64) e_0_table_lens), .rd A_e_0_table_words (rowC (Eint .i64) e_0_table_words)] := (HS16.back [0, 1] HSo rfl).sel [5, 6, 2, 3, 4] rfl
      refine F_val rfl rfl rfl (O_assign rfl rfl) ?_
      refine F_nil ?_
      refine L_ret (fun a ha => (post_ret1 ha rfl rfl ?_))
      obtain rfl := Option.some.inj H
      exact ⟨_, _, rfl, HS26.sel [0, 1] rfl⟩

/-! function 60: (*valise/bits.Writer).Len -/
theorem bits_Writer_Len.calls {S0 : Nat → Prop} {w0 : World} {g_w_0 : Nat} {A_w_0_bytes : Option Addr} {c_w_0_bytes : Nat} {w_0_bytes : List Int} {w_0_count : Int} {r : Int} (HS0 : Hp S0 w0 w0 [.rd (some ⟨g_w_0, 0, none⟩) [.slice A_w_0_bytes w_0_bytes.length c_w_0_bytes, .int .i64 w_0_count], .rd A_w_0_bytes (rowC (Eint .u8) w_0_bytes)]) (h : bits_Writer_Len.f w_0_bytes w_0_count = some r) :
    Calls Try.prog 60 ([.pointer (some ⟨g_w_0, 0, none⟩)] : List Value).toArray w0 (fun e w => e = .returned (.int .i64 r) ∧ Hp S0 w0 w []) := by
  have H : ((some w_0_count) : Option (Int)) = some r := h
  refine calls_start Try.func60 rfl rfl ?_
  refine L_seq ?_
  refine L_region ?_
  refine F_val rfl rfl rfl (O_assign rfl rfl) ?_
  refine F_nil ?_
  refine L_seq ?_
  refine L_seq ?_
  refine L_region ?_
  refine F_val rfl rfl rfl (O_move rfl rfl) ?_
  refine F_val rfl rfl rfl (O_peq rfl rfl rfl Try.underlying78) ?_
  refine F_nil ?_
  refine L_cond rfl (fun hx => by cases hx) (fun _ => ?_)
  refine L_skip ?_
  refine L_seq ?_
  refine L_region ?_
  refine F_val rfl rfl rfl (O_move rfl rfl) ?_
  refine F_val rfl rfl rfl (O_nilCheck rfl rfl) ?_
  refine F_val rfl rfl rfl (O_fieldB rfl rfl field101_1) ?_
  refine F_val rfl rfl rfl (O_loadB rfl rfl flat3 (HS0.cells_rd (i := 0) rfl) rfl) ?_
  refine F_val rfl rfl rfl (O_assign rfl rfl) ?_
  refine F_nil ?_
  refine L_ret (fun a ha => (post_ret1 ha rfl rfl ?_))
  obtain rfl := Option.some.inj H
  exact ⟨rfl, HS0.sel [] rfl⟩

end Go.Proofs.Ytbegkkmngkpjmaa
