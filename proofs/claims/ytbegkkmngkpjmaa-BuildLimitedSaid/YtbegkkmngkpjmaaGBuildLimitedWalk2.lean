import Derived.Test.YtbegkkmngkpjmaaGBuildLimitedWalk1
set_option linter.unusedVariables false
set_option linter.unusedSimpArgs false
set_option maxRecDepth 10000
set_option maxHeartbeats 1000000
namespace Go.Proofs.Ytbegkkmngkpjmaa
open Go Go.V Go.V.Pu
/-! function 50: valise/build.merged -/
theorem build_merged.calls {S0 : Nat → Prop} {w0 : World} {A_leaves_0 : Option Addr} {c_leaves_0 : Nat} {ds_leaves_0 : List DC} {B_leaves_0 : Nat → Prop} {A_made_1 : Option Addr} {c_made_1 : Nat} {ds_made_1 : List DC} {B_made_1 : Nat → Prop} {l_leaves_0 : List Co} {l_made_1 : List Co} {r : List Co} (HS0 : Hp S0 w0 w0 [.rd A_leaves_0 (rowC E_coin ds_leaves_0), Dz D_coin anyB 0 B_leaves_0 ds_leaves_0 l_leaves_0, .rd A_made_1 (rowC E_coin ds_made_1), Dz D_coin anyB 0 B_made_1 ds_made_1 l_made_1]) (hc_leaves_0 : l_leaves_0.length ≤ c_leaves_0) (hc_made_1 : l_made_1.length ≤ c_made_1) (h : build_merged.f l_leaves_0 l_made_1 = some r) :
    Calls Try.prog 50 ([.slice A_leaves_0 l_leaves_0.length c_leaves_0, .slice A_made_1 l_made_1.length c_made_1] : List Value).toArray w0 (fun e w => ∃ (A1 : Option Addr), ∃ (c1 : Nat), ∃ (ds1 : List DC), ∃ (B1 : Nat → Prop), e = .returned (.slice A1 r.length c1) ∧ Hp S0 w0 w [.own A1 c1 (rowC E_coin ds1) 69 E_coin.sz, Dz D_coin (orB (orB S0 B_leaves_0) B_made_1) w0.heap.size B1 ds1 r]) := by
  have H : (((build_merged.l1 FU l_leaves_0 l_made_1 ([] : List Co) ).bind fun l1301 => some l1301) : Option (List Co)) = some r := h
  refine calls_start Try.func50 rfl rfl ?_
  have hSF : ∀ b, S0 b → (orB (orB S0 B_leaves_0) B_made_1) b ∨ w0.heap.size ≤ b := (fun b hb => .inl (.inl (.inl hb)))
  have HS1 : Hp S0 w0 w0 [.rd A_leaves_0 (rowC E_coin ds_leaves_0), Dz D_coin (orB (orB S0 B_leaves_0) B_made_1) w0.heap.size B_leaves_0 ds_leaves_0 l_leaves_0, .rd A_made_1 (rowC E_coin ds_made_1), Dz D_coin anyB 0 B_made_1 ds_made_1 l_made_1] := HS0.dzProv (i := 1) rfl (fun b _ hb => .inl (.inl (.inr hb)))
  have HS2 : Hp S0 w0 w0 [.rd A_leaves_0 (rowC E_coin ds_leaves_0), Dz D_coin (orB (orB S0 B_leaves_0) B_made_1) w0.heap.size B_leaves_0 ds_leaves_0 l_leaves_0, .rd A_made_1 (rowC E_coin ds_made_1), Dz D_coin (orB (orB S0 B_leaves_0) B_made_1) w0.heap.size B_made_1 ds_made_1 l_made_1] := HS1.dzProv (i := 3) rfl (fun b _ hb => .inl (.inr hb))
  refine L_seq ?_
  refine L_region ?_
  refine F_val rfl rfl rfl (O_assign rfl rfl) ?_
  refine F_nil ?_
  refine L_seq ?_
  refine L_region ?_
  refine F_val rfl rfl rfl (O_assign rfl rfl) ?_
  have HS3 := (HS2.addNil 69 E_coin.sz).dzNil D_coin (orB (orB S0 B_leaves_0) B_made_1) w0.heap.size
  have HS3 : Hp S0 w0 w0 [.rd A_leaves_0 (rowC E_coin ds_leaves_0), Dz D_coin (orB (orB S0 B_leaves_0) B_made_1) w0.heap.size B_leaves_0 ds_leaves_0 l_leaves_0, .rd A_made_1 (rowC E_coin ds_made_1), Dz D_coin (orB (orB S0 B_leaves_0) B_made_1) w0.heap.size B_made_1 ds_made_1 l_made_1, .own none 0 (rowC E_coin ([] : List DC)) 69 E_coin.sz, Dz D_coin (orB (orB S0 B_leaves_0) B_made_1) w0.heap.size NoB ([] : List DC) ([] : List Co)] := HS3
  refine F_nil ?_
  refine L_seq ?_
  obtain ⟨yj6, Hyj6, H⟩ := of_bind H
  refine L_join (fun a w => ∃ (l1301 : List Co), ∃ (A1297 : Option Addr), ∃ (c1298 : Nat), ∃ (ds1299 : List DC), ∃ (B1300 : Nat → Prop), yj6 = l1301 ∧ Is Try.f50.ntmps a [(5, .slice A1297 l1301.length c1298)] ∧ Hp S0 w0 w [.rd A_leaves_0 (rowC E_coin ds_leaves_0), Dz D_coin (orB (orB S0 B_leaves_0) B_made_1) w0.heap.size B_leaves_0 ds_leaves_0 l_leaves_0, .rd A_made_1 (rowC E_coin ds_made_1), Dz D_coin (orB (orB S0 B_leaves_0) B_made_1) w0.heap.size B_made_1 ds_made_1 l_made_1, .own A1297 c1298 (rowC E_coin ds1299) 69 E_coin.sz, Dz D_coin (orB (orB S0 B_leaves_0) B_made_1) w0.heap.size B1300 ds1299 l1301]) (fun Qj6 hNj6 hOj6 => ?_) (fun a w hR => ?_)
  · skip
    have H := Hyj6
    refine L_blk (fun Qb1302 hNb1302 hXb1302 hOb1302 => ?_)
    have HS1616 : Hp S0 w0 w0 [.rd A_leaves_0 (rowC E_coin ds_leaves_0), Dz D_coin (orB (orB S0 B_leaves_0) B_made_1) w0.heap.size B_leaves_0 ds_leaves_0 l_leaves_0, .rd A_made_1 (rowC E_coin ds_made_1), Dz D_coin (orB (orB S0 B_leaves_0) B_made_1) w0.heap.size B_made_1 ds_made_1 l_made_1, .own none 0 (rowC E_coin ([] : List DC)) 69 E_coin.sz, Dz D_coin (orB (orB S0 B_leaves_0) B_made_1) w0.heap.size NoB ([] : List DC) ([] : List Co), Rdc l_leaves_0.length c_leaves_0 A_leaves_0 (rowC E_coin ds_leaves_0)] := HS3.addRdc (i := 0) rfl ((HS3.cells_rd (i := 0) rfl).self) hc_leaves_0
    have HS1618 : Hp S0 w0 w0 [.rd A_leaves_0 (rowC E_coin ds_leaves_0), Dz D_coin (orB (orB S0 B_leaves_0) B_made_1) w0.heap.size B_leaves_0 ds_leaves_0 l_leaves_0, .rd A_made_1 (rowC E_coin ds_made_1), Dz D_coin (orB (orB S0 B_leaves_0) B_made_1) w0.heap.size B_made_1 ds_made_1 l_made_1, .own none 0 (rowC E_coin ([] : List DC)) 69 E_coin.sz, Dz D_coin (orB (orB S0 B_leaves_0) B_made_1) w0.heap.size NoB ([] : List DC) ([] : List Co), Rdc l_leaves_0.length c_leaves_0 A_leaves_0 (rowC E_coin ds_leaves_0), Dz D_coin (orB (orB S0 B_leaves_0) B_made_1) w0.heap.size B_leaves_0 ds_leaves_0 l_leaves_0] := HS1616.dzSub (i := 1) rfl dz_self (HS3.dze (i := 1) rfl)
    have HS1620 : Hp S0 w0 w0 [.rd A_leaves_0 (rowC E_coin ds_leaves_0), Dz D_coin (orB (orB S0 B_leaves_0) B_made_1) w0.heap.size B_leaves_0 ds_leaves_0 l_leaves_0, .rd A_made_1 (rowC E_coin ds_made_1), Dz D_coin (orB (orB S0 B_leaves_0) B_made_1) w0.heap.size B_made_1 ds_made_1 l_made_1, .own none 0 (rowC E_coin ([] : List DC)) 69 E_coin.sz, Dz D_coin (orB (orB S0 B_leaves_0) B_made_1) w0.heap.size NoB ([] : List DC) ([] : List Co), Rdc l_leaves_0.length c_leaves_0 A_leaves_0 (rowC E_coin ds_leaves_0), Dz D_coin (orB (orB S0 B_leaves_0) B_made_1) w0.heap.size B_leaves_0 ds_leaves_0 l_leaves_0, Rdc l_made_1.length c_made_1 A_made_1 (rowC E_coin ds_made_1)] := HS1618.addRdc (i := 2) rfl ((HS1618.cells_rd (i := 2) rfl).self) hc_made_1
    have HS1622 : Hp S0 w0 w0 [.rd A_leaves_0 (rowC E_coin ds_leaves_0), Dz D_coin (orB (orB S0 B_leaves_0) B_made_1) w0.heap.size B_leaves_0 ds_leaves_0 l_leaves_0, .rd A_made_1 (rowC E_coin ds_made_1), Dz D_coin (orB (orB S0 B_leaves_0) B_made_1) w0.heap.size B_made_1 ds_made_1 l_made_1, .own none 0 (rowC E_coin ([] : List DC)) 69 E_coin.sz, Dz D_coin (orB (orB S0 B_leaves_0) B_made_1) w0.heap.size NoB ([] : List DC) ([] : List Co), Rdc l_leaves_0.length c_leaves_0 A_leaves_0 (rowC E_coin ds_leaves_0), Dz D_coin (orB (orB S0 B_leaves_0) B_made_1) w0.heap.size B_leaves_0 ds_leaves_0 l_leaves_0, Rdc l_made_1.length c_made_1 A_made_1 (rowC E_coin ds_made_1), Dz D_coin (orB (orB S0 B_leaves_0) B_made_1) w0.heap.size B_made_1 ds_made_1 l_made_1] := HS1620.dzSub (i := 3) rfl dz_self (HS1618.dze (i := 3) rfl)
    refine L_lp (fun k a w => ∃ (l2267 : List Co), ∃ (l2272 : List Co), ∃ (l2277 : List Co), ∃ (A2263 : Option Addr), ∃ (c2264 : Nat), ∃ (ds2265 : List DC), ∃ (B2266 : Nat → Prop), ∃ (A2268 : Option Addr), ∃ (c2269 : Nat), ∃ (ds2270 : List DC), ∃ (B2271 : Nat → Prop), ∃ (A2273 : Option Addr), ∃ (c2274 : Nat), ∃ (ds2275 : List DC), ∃ (B2276 : Nat → Prop), Is Try.f50.ntmps a [(0, .slice A2263 l2267.length c2264), (1, .slice A2268 l2272.length c2269), (5, .slice A2273 l2277.length c2274)] ∧ Hp S0 w0 w [.rd A_leaves_0 (rowC E_coin ds_leaves_0), Dz D_coin (orB (orB S0 B_leaves_0) B_made_1) w0.heap.size B_leaves_0 ds_leaves_0 l_leaves_0, .rd A_made_1 (rowC E_coin ds_made_1), Dz D_coin (orB (orB S0 B_leaves_0) B_made_1) w0.heap.size B_made_1 ds_made_1 l_made_1, Rdc l2267.length c2264 A2263 (rowC E_coin ds2265), Dz D_coin (orB (orB S0 B_leaves_0) B_made_1) w0.heap.size B2266 ds2265 l2267, Rdc l2272.length c2269 A2268 (rowC E_coin ds2270), Dz D_coin (orB (orB S0 B_leaves_0) B_made_1) w0.heap.size B2271 ds2270 l2272, .own A2273 c2274 (rowC E_coin ds2275) 69 E_coin.sz, Dz D_coin (orB (orB S0 B_leaves_0) B_made_1) w0.heap.size B2276 ds2275 l2277] ∧ build_merged.l1 k l2267 l2272 l2277  = some yj6) FU (fun a ha => ⟨_, _, _, _, _, _, _, _, _, _, _, _, _, _, _, Is.cons ha (Is.cons ha (Is.cons ha (Is.nil ha) rfl) rfl) rfl, HS1622.sel [0, 1, 2, 3, 6, 7, 8, 9, 4, 5] rfl, H⟩) (fun kp2262 a w2278 hI Qp2262 hNp2262 hOp2262 => ?_)
    obtain ⟨l2267, l2272, l2277, A2263, c2264, ds2265, B2266, A2268, c2269, ds2270, B2271, A2273, c2274, ds2275, B2276, ha, HS2279, HAp2262⟩ := hI
    cases kp2262 with
    | zero => cases (show (none : Option _) = some _ from HAp2262)
    | succ kp2262 =>
      have H := (build_merged.l1.eq_2 ..).symm.trans HAp2262
      refine wpLF_app ?_ ha
      refine L_seq ?_
      refine L_seq ?_
      refine L_region ?_
      refine F_val rfl rfl rfl (O_move rfl rfl) ?_
      refine F_val rfl rfl rfl (O_len rfl rfl Try.underlying66) ?_
      refine F_val rfl rfl rfl (O_gt rfl rfl rfl) ?_
      refine F_val rfl rfl rfl (O_move rfl rfl) ?_
      refine F_grp 4 [(13, .bool (decide ((0 < (l2267.length : Int)) ∨ (0 < (l2272.length : Int))))), (0, .slice A2263 l2267.length c2264), (1, .slice A2268 l2272.length c2269), (5, .slice A2273 l2277.length c2274)] ?_ ?_
      · rcases Decidable.em (0 < (l2267.length : Int)) with c2283 | c2283
        · refine F_know (i := 9) rfl (dec_t c2283) ?_
          refine F_gskip rfl rfl rfl rfl rfl rfl rfl ?_
          refine F_gskip rfl rfl rfl rfl rfl rfl rfl ?_
          refine F_gskip rfl rfl rfl rfl rfl rfl rfl ?_
          refine F_val rfl rfl rfl (O_pickT rfl rfl rfl) ?_
          refine F_know (i := 13) rfl (dec_or_t (q := 0 < (l2272.length : Int)) c2283) ?_
          exact F_grpE (fun a ha => Is.cons ha (Is.cons ha (Is.cons ha (Is.cons ha (Is.nil ha) rfl) rfl) rfl) rfl)
        · refine F_know (i := 9) rfl (dec_f c2283) ?_
          refine F_gval rfl rfl rfl rfl rfl rfl (O_move rfl rfl) ?_
          refine F_gval rfl rfl rfl rfl rfl rfl (O_len rfl rfl Try.underlying66) ?_
          refine F_gval rfl rfl rfl rfl rfl rfl (O_gt rfl rfl rfl) ?_
          refine F_val rfl rfl rfl (O_pickF rfl rfl rfl) ?_
          refine F_know (i := 13) rfl (dec_or_f (q := 0 < (l2272.length : Int)) c2283) ?_
          exact F_grpE (fun a ha => Is.cons ha (Is.cons ha (Is.cons ha (Is.cons ha (Is.nil ha) rfl) rfl) rfl) rfl)
      · skip
        refine F_nil ?_
        refine L_condP rfl (fun c2284 => ?_) (fun c2284 => ?_)
        · have H := of_pos H c2284
          refine L_skip ?_
          refine L_blk (fun Q2285 hN2285 hX2285 hO2285 => ?_)
          refine L_seq ?_
          refine L_quiet mix (by kernel_rfl) ?_
          refine Q_val rfl rfl rfl (fun wq hq => O_move rfl rfl) ?_
          refine Q_val rfl rfl rfl (fun wq hq => O_len rfl rfl Try.underlying66) ?_
          refine Q_val rfl rfl rfl (fun wq hq => O_eq rfl rfl rfl) ?_
          refine Q_val rfl rfl rfl (fun wq hq => O_move rfl rfl) ?_
          obtain ⟨b2307, Hb2307, H⟩ := of_bind H
          refine Q_grp 15 [(32, .bool b2307), (0, .slice A2263 l2267.length c2264), (1, .slice A2268 l2272.length c2269), (5, .slice A2273 l2277.length c2274)] ?_ ?_
          · rcases Decidable.em ((l2272.length : Int) = 0) with c2311 | c2311
            · refine Q_know (i := 17) rfl (dec_t c2311) ?_
              have H := of_pos Hb2307 c2311
              refine Q_gskip rfl rfl rfl rfl rfl rfl rfl ?_
              refine Q_gskip rfl rfl rfl rfl rfl rfl rfl ?_
              refine Q_gskip rfl rfl rfl rfl rfl rfl rfl ?_
              refine Q_gskip rfl rfl rfl rfl rfl rfl rfl ?_
              refine Q_gskip rfl rfl rfl rfl rfl rfl rfl ?_
              refine Q_gskip rfl rfl rfl rfl rfl rfl rfl ?_
              refine Q_gskip rfl rfl rfl rfl rfl rfl rfl ?_
              refine Q_gskip rfl rfl rfl rfl rfl rfl rfl ?_
              refine Q_gskip rfl rfl rfl rfl rfl rfl rfl ?_
              refine Q_gskip rfl rfl rfl rfl rfl rfl rfl ?_
              refine Q_gskip rfl rfl rfl rfl rfl rfl rfl ?_
              refine Q_gskip rfl rfl rfl rfl rfl rfl rfl ?_
              refine Q_gskip rfl rfl rfl rfl rfl rfl rfl ?_
              refine Q_gskip rfl rfl rfl rfl rfl rfl rfl ?_
              refine Q_val rfl rfl rfl (fun wq hq => O_pickT rfl rfl rfl) ?_
              refine Q_know (i := 32) rfl (congrArg Value.bool (Option.some.inj H)) ?_
              exact Q_grpE (fun a ha => Is.cons ha (Is.cons ha (Is.cons ha (Is.cons ha (Is.nil ha) rfl) rfl) rfl) rfl)
            · refine Q_know (i := 17) rfl (dec_f c2311) ?_
              have H := of_neg Hb2307 c2311
              refine Q_gval rfl rfl rfl rfl rfl rfl (fun wq hq => O_move rfl rfl) ?_
              refine Q_gval rfl rfl rfl rfl rfl rfl (fun wq hq => O_len rfl rfl Try.underlying66) ?_
              refine Q_gval rfl rfl rfl rfl rfl rfl (fun wq hq => O_gt rfl rfl rfl) ?_
              refine Q_gval rfl rfl rfl rfl rfl rfl (fun wq hq => O_move rfl rfl) ?_
              obtain ⟨b2320, Hb2320, H⟩ := of_bind H
              refine Q_grp 10 [(31, .bool b2320), (0, .slice A2263 l2267.length c2264), (1, .slice A2268 l2272.length c2269), (5, .slice A2273 l2277.length c2274), (17, .bool false), (18, .slice A2263 l2267.length c2264), (19, .int .i64 (l2267.length : Int)), (20, .bool (decide (0 < (l2267.length : Int)))), (21, .bool (decide (0 < (l2267.length : Int))))] ?_ ?_
              · rcases Decidable.em (0 < (l2267.length : Int)) with c2324 | c2324
                · refine Q_know (i := 21) rfl (dec_t c2324) ?_
                  have H := of_pos Hb2320 c2324
                  refine Q_gval rfl rfl rfl rfl rfl rfl (fun wq hq => O_move rfl rfl) ?_
                  obtain ⟨⟨g2325, g2326⟩, H⟩ := of_gd H
                  refine Q_gval rfl rfl rfl rfl rfl rfl (fun wq hq => O_idx rfl rfl rfl Try.underlying66 size69 g2325 g2326 (Cells.isA ((HS2279.keep hq).cells_rdc (i := 4) rfl) (dz_ne (D := D_coin) ((HS2279.keep hq).dze (i := 5) rfl) g2325 g2326 (by decide)))) ?_
                  refine Q_gval rfl rfl rfl rfl rfl rfl (fun wq hq => O_fieldC rfl rfl (Cells.isA ((HS2279.keep hq).cells_rdc (i := 4) rfl) (dz_ne (D := D_coin) ((HS2279.keep hq).dze (i := 5) rfl) g2325 g2326 (by decide))) field69_0) ?_
                  have HS2328 : Hp S0 w0 w2278 [.rd A_leaves_0 (rowC E_coin ds_leaves_0), Dz D_coin (orB (orB S0 B_leaves_0) B_made_1) w0.heap.size B_leaves_0 ds_leaves_0 l_leaves_0, .rd A_made_1 (rowC E_coin ds_made_1), Dz D_coin (orB (orB S0 B_leaves_0) B_made_1) w0.heap.size B_made_1 ds_made_1 l_made_1, Rdc l2267.length c2264 A2263 (rowC E_coin ds2265), Dz D_coin (orB (orB S0 B_leaves_0) B_made_1) w0.heap.size B2266 ds2265 l2267, Rdc l2272.length c2269 A2268 (rowC E_coin ds2270), Dz D_coin (orB (orB S0 B_leaves_0) B_made_1) w0.heap.size B2271 ds2270 l2272, .own A2273 c2274 (rowC E_coin ds2275) 69 E_coin.sz, Dz D_coin (orB (orB S0 B_leaves_0) B_made_1) w0.heap.size B2276 ds2275 l2277, Dz D_coin (orB (orB S0 B_leaves_0) B_made_1) w0.heap.size B2266 [(rdx E_coin ds2265 0)] [(rdp (Co.leaf 0 0) l2267 0)]] := HS2279.dzOne (i := 5) rfl dz_self (HS2279.dze (i := 5) rfl) g2325 g2326
                  refine Q_gval rfl rfl rfl rfl rfl rfl (fun wq hq => O_loadC rfl rfl flat3 ((HS2328.keep hq).cells_rdc (i := 4) rfl) (dz_cell (D := D_coin) (f := fun x => .int .i64 x.w) 0 co_w ((HS2328.keep hq).dze (i := 5) rfl) g2325 g2326)) ?_
                  refine Q_gval rfl rfl rfl rfl rfl rfl (fun wq hq => O_move rfl rfl) ?_
                  obtain ⟨⟨g2329, g2330⟩, H⟩ := of_gd H
                  refine Q_gval rfl rfl rfl rfl rfl rfl (fun wq hq => O_idx rfl rfl rfl Try.underlying66 size69 g2329 g2330 (Cells.isA ((HS2328.keep hq).cells_rdc (i := 6) rfl) (dz_ne (D := D_coin) ((HS2328.keep hq).dze (i := 7) rfl) g2329 g2330 (by decide)))) ?_
                  refine Q_gval rfl rfl rfl rfl rfl rfl (fun wq hq => O_fieldC rfl rfl (Cells.isA ((HS2328.keep hq).cells_rdc (i := 6) rfl) (dz_ne (D := D_coin) ((HS2328.keep hq).dze (i := 7) rfl) g2329 g2330 (by decide))) field69_0) ?_
                  have HS2332 : Hp S0 w0 w2278 [.rd A_leaves_0 (rowC E_coin ds_leaves_0), Dz D_coin (orB (orB S0 B_leaves_0) B_made_1) w0.heap.size B_leaves_0 ds_leaves_0 l_leaves_0, .rd A_made_1 (rowC E_coin ds_made_1), Dz D_coin (orB (orB S0 B_leaves_0) B_made_1) w0.heap.size B_made_1 ds_made_1 l_made_1, Rdc l2267.length c2264 A2263 (rowC E_coin ds2265), Dz D_coin (orB (orB S0 B_leaves_0) B_made_1) w0.heap.size B2266 ds2265 l2267, Rdc l2272.length c2269 A2268 (rowC E_coin ds2270), Dz D_coin (orB (orB S0 B_leaves_0) B_made_1) w0.heap.size B2271 ds2270 l2272, .own A2273 c2274 (rowC E_coin ds2275) 69 E_coin.sz, Dz D_coin (orB (orB S0 B_leaves_0) B_made_1) w0.heap.size B2276 ds2275 l2277, Dz D_coin (orB (orB S0 B_leaves_0) B_made_1) w0.heap.size B2266 [(rdx E_coin ds2265 0)] [(rdp (Co.leaf 0 0) l2267 0)], Dz D_coin (orB (orB S0 B_leaves_0) B_made_1) w0.heap.size B2271 [(rdx E_coin ds2270 0)] [(rdp (Co.leaf 0 0) l2272 0)]] := HS2328.dzOne (i := 7) rfl dz_self (HS2328.dze (i := 7) rfl) g2329 g2330
                  refine Q_gval rfl rfl rfl rfl rfl rfl (fun wq hq => O_loadC rfl rfl flat3 ((HS2332.keep hq).cells_rdc (i := 6) rfl) (dz_cell (D := D_coin) (f := fun x => .int .i64 x.w) 0 co_w ((HS2332.keep hq).dze (i := 7) rfl) g2329 g2330)) ?_
                  refine Q_gval rfl rfl rfl rfl rfl rfl (fun wq hq => O_le rfl rfl rfl) ?_
                  refine Q_gval rfl rfl rfl rfl rfl rfl (fun wq hq => O_pickT rfl rfl rfl) ?_
                  refine Q_know (i := 31) rfl (congrArg Value.bool (Option.some.inj H)) ?_
                  exact Q_grpE (fun a ha => Is.cons ha (Is.cons ha (Is.cons ha (Is.cons ha (Is.cons ha (Is.cons ha (Is.cons ha (Is.cons ha (Is.cons (i := 21) (v := .bool (decide (0 < (l2267.length : Int)))) ha (Is.nil ha) (congrArg some (dec_t c2324).symm)) rfl) rfl) rfl) rfl) rfl) rfl) rfl) rfl)
                · refine Q_know (i := 21) rfl (dec_f c2324) ?_
                  have H := of_neg Hb2320 c2324
                  refine Q_gskip rfl rfl rfl rfl rfl rfl rfl ?_
                  refine Q_gskip rfl rfl rfl rfl rfl rfl rfl ?_
                  refine Q_gskip rfl rfl rfl rfl rfl rfl rfl ?_
                  refine Q_gskip rfl rfl rfl rfl rfl rfl rfl ?_
                  refine Q_gskip rfl rfl rfl rfl rfl rfl rfl ?_
                  refine Q_gskip rfl rfl rfl rfl rfl rfl rfl ?_
                  refine Q_gskip rfl rfl rfl rfl rfl rfl rfl ?_
                  refine Q_gskip rfl rfl rfl rfl rfl rfl rfl ?_
                  refine Q_gskip rfl rfl rfl rfl rfl rfl rfl ?_
                  refine Q_gval rfl rfl rfl rfl rfl rfl (fun wq hq => O_pickF rfl rfl rfl) ?_
                  refine Q_know (i := 31) rfl (congrArg Value.bool (Option.some.inj H)) ?_
                  exact Q_grpE (fun a ha => Is.cons ha (Is.cons ha (Is.cons ha (Is.cons ha (Is.cons ha (Is.cons ha (Is.cons ha (Is.cons ha (Is.cons (i := 21) (v := .bool (decide (0 < (l2267.length : Int)))) ha (Is.nil ha) (congrArg some (dec_f c2324).symm)) rfl) rfl) rfl) rfl) rfl) rfl) rfl) rfl)
              · skip
                refine Q_val rfl rfl rfl (fun wq hq => O_pickF rfl rfl rfl) ?_
                refine Q_know (i := 32) rfl (congrArg Value.bool (Option.some.inj H)) ?_
                exact Q_grpE (fun a ha => Is.cons ha (Is.cons ha (Is.cons ha (Is.cons ha (Is.nil ha) rfl) rfl) rfl) rfl)
          · skip
            refine Q_nil (fun w2333 hw2334 => ?_)
            have HS2335 := HS2279.keep hw2334
            obtain ⟨yj2336, Hyj2336, H⟩ := of_bind H
            refine L_join (fun a w => ∃ (l2464 : List Co), ∃ (l2469 : List Co), ∃ (l2474 : List Co), ∃ (A2460 : Option Addr), ∃ (c2461 : Nat), ∃ (ds2462 : List DC), ∃ (B2463 : Nat → Prop), ∃ (A2465 : Option Addr), ∃ (c2466 : Nat), ∃ (ds2467 : List DC), ∃ (B2468 : Nat → Prop), ∃ (A2470 : Option Addr), ∃ (c2471 : Nat), ∃ (ds2472 : List DC), ∃ (B2473 : Nat → Prop), yj2336 = (l2464, l2469, l2474) ∧ Is Try.f50.ntmps a [(0, .slice A2460 l2464.length c2461), (1, .slice A2465 l2469.length c2466), (5, .slice A2470 l2474.length c2471)] ∧ Hp S0 w0 w [.rd A_leaves_0 (rowC E_coin ds_leaves_0), Dz D_coin (orB (orB S0 B_leaves_0) B_made_1) w0.heap.size B_leaves_0 ds_leaves_0 l_leaves_0, .rd A_made_1 (rowC E_coin ds_made_1), Dz D_coin (orB (orB S0 B_leaves_0) B_made_1) w0.heap.size B_made_1 ds_made_1 l_made_1, Rdc l2464.length c2461 A2460 (rowC E_coin ds2462), Dz D_coin (orB (orB S0 B_leaves_0) B_made_1) w0.heap.size B2463 ds2462 l2464, Rdc l2469.length c2466 A2465 (rowC E_coin ds2467), Dz D_coin (orB (orB S0 B_leaves_0) B_made_1) w0.heap.size B2468 ds2467 l2469, .own A2470 c2471 (rowC E_coin ds2472) 69 E_coin.sz, Dz D_coin (orB (orB S0 B_leaves_0) B_made_1) w0.heap.size B2473 ds2472 l2474]) (fun Qj2336 hNj2336 hOj2336 => ?_) (fun a w hR => ?_)
            · skip
              have H := Hyj2336
              refine L_cond rfl (fun c2475 => ?_) (fun c2475 => ?_)
              · have H := of_pos H c2475
                obtain ⟨⟨g2476, g2477⟩, H⟩ := of_gd H
                have HS2479 : Hp S0 w0 w2333 [.rd A_leaves_0 (rowC E_coin ds_leaves_0), Dz D_coin (orB (orB S0 B_leaves_0) B_made_1) w0.heap.size B_leaves_0 ds_leaves_0 l_leaves_0, .rd A_made_1 (rowC E_coin ds_made_1), Dz D_coin (orB (orB S0 B_leaves_0) B_made_1) w0.heap.size B_made_1 ds_made_1 l_made_1, Rdc l2267.length c2264 A2263 (rowC E_coin ds2265), Dz D_coin (orB (orB S0 B_leaves_0) B_made_1) w0.heap.size B2266 ds2265 l2267, Rdc l2272.length c2269 A2268 (rowC E_coin ds2270), Dz D_coin (orB (orB S0 B_leaves_0) B_made_1) w0.heap.size B2271 ds2270 l2272, .own A2273 c2274 (rowC E_coin ds2275) 69 E_coin.sz, Dz D_coin (orB (orB S0 B_leaves_0) B_made_1) w0.heap.size B2276 ds2275 l2277, Dz D_coin (orB (orB S0 B_leaves_0) B_made_1) w0.heap.size B2266 [(rdx E_coin ds2265 0)] [(rdp (Co.leaf 0 0) l2267 0)]] := HS2335.dzOne (i := 5) rfl dz_self (HS2335.dze (i := 5) rfl) g2476 g2477
                refine L_heldS 10 0 [] mix rfl (fun w2498 hw2499 => ?_)
                have HS2500 := HS2479.keep hw2499
                refine ⟨HS2500.turns [8], ?_⟩
                have HR2501 : Hp (HS2500.ft [8]) w2498 w2498 [.own A2273 c2274 (rowC E_coin ds2275) 69 E_coin.sz, .rd A_leaves_0 (rowC E_coin ds_leaves_0), Dz D_coin anyB 0 B_leaves_0 ds_leaves_0 l_leaves_0, .rd A_made_1 (rowC E_coin ds_made_1), Dz D_coin anyB 0 B_made_1 ds_made_1 l_made_1, .rd A2263 (rowC E_coin ds2265), Dz D_coin anyB 0 B2266 ds2265 l2267, .rd A2268 (rowC E_coin ds2270), Dz D_coin anyB 0 B2271 ds2270 l2272, Dz D_coin anyB 0 B2276 ds2275 l2277, Dz D_coin anyB 0 B2266 [(rdx E_coin ds2265 0)] [(rdp (Co.leaf 0 0) l2267 0)]] := HS2500.give [8] rfl (Lent.rd HS2500 (Lent.dz HS2500 (Lent.rd HS2500 (Lent.dz HS2500 (Lent.rdc HS2500 (Lent.dz HS2500 (Lent.rdc HS2500 (Lent.dz HS2500 (Lent.dz HS2500 (Lent.dz HS2500 (Lent.nil) (i := 10) rfl dz_self (HS2500.dze (i := 10) rfl)) (i := 9) rfl dz_self (HS2500.dze (i := 9) rfl)) (i := 7) rfl dz_self (HS2500.dze (i := 7) rfl)) (i := 6) rfl (HS2500.cells_rdc (i := 6) rfl).self) (i := 5) rfl dz_self (HS2500.dze (i := 5) rfl)) (i := 4) rfl (HS2500.cells_rdc (i := 4) rfl).self) (i := 3) rfl dz_self (HS2500.dze (i := 3) rfl)) (i := 2) rfl (HS2500.cells_rd (i := 2) rfl).self) (i := 1) rfl dz_self (HS2500.dze (i := 1) rfl)) (i := 0) rfl (HS2500.cells_rd (i := 0) rfl).self)
                have hSF2502 : ∀ b, HS2500.ft [8] b → (orB (orB (orB (orB (orB (orB (HS2500.ft [8]) B_leaves_0) B_made_1) B2266) B2271) B2276) B2266) b ∨ w2498.heap.size ≤ b := fun b hb => .inl (.inl (.inl (.inl (.inl (.inl (.inl hb))))))
                have HS2503 : Hp (HS2500.ft [8]) w2498 w2498 [.own A2273 c2274 (rowC E_coin ds2275) 69 E_coin.sz, .rd A_leaves_0 (rowC E_coin ds_leaves_0), Dz D_coin (orB (orB (orB (orB (orB (orB (HS2500.ft [8]) B_leaves_0) B_made_1) B2266) B2271) B2276) B2266) w2498.heap.size B_leaves_0 ds_leaves_0 l_leaves_0, .rd A_made_1 (rowC E_coin ds_made_1), Dz D_coin anyB 0 B_made_1 ds_made_1 l_made_1, .rd A2263 (rowC E_coin ds2265), Dz D_coin anyB 0 B2266 ds2265 l2267, .rd A2268 (rowC E_coin ds2270), Dz D_coin anyB 0 B2271 ds2270 l2272, Dz D_coin anyB 0 B2276 ds2275 l2277, Dz D_coin anyB 0 B2266 [(rdx E_coin ds2265 0)] [(rdp (Co.leaf 0 0) l2267 0)]] := HR2501.dzProv (i := 2) rfl (fun b _ hb => .inl (.inl (.inl (.inl (.inl (.inl (.inr hb)))))))
                have HS2504 : Hp (HS2500.ft [8]) w2498 w2498 [.own A2273 c2274 (rowC E_coin ds2275) 69 E_coin.sz, .rd A_leaves_0 (rowC E_coin ds_leaves_0), Dz D_coin (orB (orB (orB (orB (orB (orB (HS2500.ft [8]) B_leaves_0) B_made_1) B2266) B2271) B2276) B2266) w2498.heap.size B_leaves_0 ds_leaves_0 l_leaves_0, .rd A_made_1 (rowC E_coin ds_made_1), Dz D_coin (orB (orB (orB (orB (orB (orB (HS2500.ft [8]) B_leaves_0) B_made_1) B2266) B2271) B2276) B2266) w2498.heap.size B_made_1 ds_made_1 l_made_1, .rd A2263 (rowC E_coin ds2265), Dz D_coin anyB 0 B2266 ds2265 l2267, .rd A2268 (rowC E_coin ds2270), Dz D_coin anyB 0 B2271 ds2270 l2272, Dz D_coin anyB 0 B2276 ds2275 l2277, Dz D_coin anyB 0 B2266 [(rdx E_coin ds2265 0)] [(rdp (Co.leaf 0 0) l2267 0)]] := HS2503.dzProv (i := 4) rfl (fun b _ hb => .inl (.inl (.inl (.inl (.inl (.inr hb))))))
                have HS2505 : Hp (HS2500.ft [8]) w2498 w2498 [.own A2273 c2274 (rowC E_coin ds2275) 69 E_coin.sz, .rd A_leaves_0 (rowC E_coin ds_leaves_0), Dz D_coin (orB (orB (orB (orB (orB (orB (HS2500.ft [8]) B_leaves_0) B_made_1) B2266) B2271) B2276) B2266) w2498.heap.size B_leaves_0 ds_leaves_0 l_leaves_0, .rd A_made_1 (rowC E_coin ds_made_1), Dz D_coin (orB (orB (orB (orB (orB (orB (HS2500.ft [8]) B_leaves_0) B_made_1) B2266) B2271) B2276) B2266) w2498.heap.size B_made_1 ds_made_1 l_made_1, .rd A2263 (rowC E_coin ds2265), Dz D_coin (orB (orB (orB (orB (orB (orB (HS2500.ft [8]) B_leaves_0) B_made_1) B2266) B2271) B2276) B2266) w2498.heap.size B2266 ds2265 l2267, .rd A2268 (rowC E_coin ds2270), Dz D_coin anyB 0 B2271 ds2270 l2272, Dz D_coin anyB 0 B2276 ds2275 l2277, Dz D_coin anyB 0 B2266 [(rdx E_coin ds2265 0)] [(rdp (Co.leaf 0 0) l2267 0)]] := HS2504.dzProv (i := 6) rfl (fun b _ hb => .inl (.inl (.inl (.inl (.inr hb)))))
                have HS2506 : Hp (HS2500.ft [8]) w2498 w2498 [.own A2273 c2274 (rowC E_coin ds2275) 69 E_coin.sz, .rd A_leaves_0 (rowC E_coin ds_leaves_0), Dz D_coin (orB (orB (orB (orB (orB (orB (HS2500.ft [8]) B_leaves_0) B_made_1) B2266) B2271) B2276) B2266) w2498.heap.size B_leaves_0 ds_leaves_0 l_leaves_0, .rd A_made_1 (rowC E_coin ds_made_1), Dz D_coin (orB (orB (orB (orB (orB (orB (HS2500.ft [8]) B_leaves_0) B_made_1) B2266) B2271) B2276) B2266) w2498.heap.size B_made_1 ds_made_1 l_made_1, .rd A2263 (rowC E_coin ds2265), Dz D_coin (orB (orB (orB (orB (orB (orB (HS2500.ft [8]) B_leaves_0) B_made_1) B2266) B2271) B2276) B2266) w2498.heap.size B2266 ds2265 l2267, .rd A2268 (rowC E_coin ds2270), Dz D_coin (orB (orB (orB (orB (orB (orB (HS2500.ft [8]) B_leaves_0) B_made_1) B2266) B2271) B2276) B2266) w2498.heap.size B2271 ds2270 l2272, Dz D_coin anyB 0 B2276 ds2275 l2277, Dz D_coin anyB 0 B2266 [(rdx E_coin ds2265 0)] [(rdp (Co.leaf 0 0) l2267 0)]] := HS2505.dzProv (i := 8) rfl (fun b _ hb => .inl (.inl (.inl (.inr hb))))
                have HS2507 : Hp (HS2500.ft [8]) w2498 w2498 [.own A2273 c2274 (rowC E_coin ds2275) 69 E_coin.sz, .rd A_leaves_0 (rowC E_coin ds_leaves_0), Dz D_coin (orB (orB (orB (orB (orB (orB (HS2500.ft [8]) B_leaves_0) B_made_1) B2266) B2271) B2276) B2266) w2498.heap.size B_leaves_0 ds_leaves_0 l_leaves_0, .rd A_made_1 (rowC E_coin ds_made_1), Dz D_coin (orB (orB (orB (orB (orB (orB (HS2500.ft [8]) B_leaves_0) B_made_1) B2266) B2271) B2276) B2266) w2498.heap.size B_made_1 ds_made_1 l_made_1, .rd A2263 (rowC E_coin ds2265), Dz D_coin (orB (orB (orB (orB (orB (orB (HS2500.ft [8]) B_leaves_0) B_made_1) B2266) B2271) B2276) B2266) w2498.heap.size B2266 ds2265 l2267, .rd A2268 (rowC E_coin ds2270), Dz D_coin (orB (orB (orB (orB (orB (orB (HS2500.ft [8]) B_leaves_0) B_made_1) B2266) B2271) B2276) B2266) w2498.heap.size B2271 ds2270 l2272, Dz D_coin (orB (orB (orB (orB (orB (orB (HS2500.ft [8]) B_leaves_0) B_made_1) B2266) B2271) B2276) B2266) w2498.heap.size B2276 ds2275 l2277, Dz D_coin anyB 0 B2266 [(rdx E_coin ds2265 0)] [(rdp (Co.leaf 0 0) l2267 0)]] := HS2506.dzProv (i := 9) rfl (fun b _ hb => .inl (.inl (.inr hb)))
                have HS2508 : Hp (HS2500.ft [8]) w2498 w2498 [.own A2273 c2274 (rowC E_coin ds2275) 69 E_coin.sz, .rd A_leaves_0 (rowC E_coin ds_leaves_0), Dz D_coin (orB (orB (orB (orB (orB (orB (HS2500.ft [8]) B_leaves_0) B_made_1) B2266) B2271) B2276) B2266) w2498.heap.size B_leaves_0 ds_leaves_0 l_leaves_0, .rd A_made_1 (rowC E_coin ds_made_1), Dz D_coin (orB (orB (orB (orB (orB (orB (HS2500.ft [8]) B_leaves_0) B_made_1) B2266) B2271) B2276) B2266) w2498.heap.size B_made_1 ds_made_1 l_made_1, .rd A2263 (rowC E_coin ds2265), Dz D_coin (orB (orB (orB (orB (orB (orB (HS2500.ft [8]) B_leaves_0) B_made_1) B2266) B2271) B2276) B2266) w2498.heap.size B2266 ds2265 l2267, .rd A2268 (rowC E_coin ds2270), Dz D_coin (orB (orB (orB (orB (orB (orB (HS2500.ft [8]) B_leaves_0) B_made_1) B2266) B2271) B2276) B2266) w2498.heap.size B2271 ds2270 l2272, Dz D_coin (orB (orB (orB (orB (orB (orB (HS2500.ft [8]) B_leaves_0) B_made_1) B2266) B2271) B2276) B2266) w2498.heap.size B2276 ds2275 l2277, Dz D_coin (orB (orB (orB (orB (orB (orB (HS2500.ft [8]) B_leaves_0) B_made_1) B2266) B2271) B2276) B2266) w2498.heap.size B2266 [(rdx E_coin ds2265 0)] [(rdp (Co.leaf 0 0) l2267 0)]] := HS2507.dzProv (i := 10) rfl (fun b _ hb => .inl (.inr hb))
                refine H_val (i := 0) rfl (by kernel_rfl) (by kernel_rfl) (by kernel_rfl) (by kernel_rfl) rfl rfl rfl HS2508.chg (fun wq hq => O_move rfl rfl) ?_
                refine H_val (i := 1) rfl (by kernel_rfl) (by kernel_rfl) (by kernel_rfl) (by kernel_rfl) rfl rfl rfl HS2508.chg (fun wq hq => O_move rfl rfl) ?_
                refine H_val (i := 2) rfl (by kernel_rfl) (by kernel_rfl) (by kernel_rfl) (by kernel_rfl) rfl rfl rfl HS2508.chg (fun wq hq => O_idx rfl rfl rfl Try.underlying66 size69 g2476 g2477 (Cells.isA ((HS2500.keepT [8] hq).cells_rdc (i := 4) rfl) (dz_ne (D := D_coin) ((HS2500.keepT [8] hq).dze (i := 5) rfl) g2476 g2477 (by decide)))) ?_
                refine H_val (i := 3) rfl (by kernel_rfl) (by kernel_rfl) (by kernel_rfl) (by kernel_rfl) rfl rfl rfl HS2508.chg (fun wq hq => O_loadElD (D := D_coin) rfl rfl wide69 ((HS2500.keepT [8] hq).cells_rdc (i := 4) rfl) ((HS2500.keepT [8] hq).dze (i := 5) rfl) g2476 g2477 (by decide)) ?_
                refine H_val (i := 6) rfl (by kernel_rfl) (by kernel_rfl) (by kernel_rfl) (by kernel_rfl) rfl rfl rfl HS2508.chg (fun wq hq => O_move rfl rfl) ?_
                obtain ⟨⟨g2510, g2511⟩, H⟩ := of_gd H
                refine H_val (i := 7) rfl (by kernel_rfl) (by kernel_rfl) (by kernel_rfl) (by kernel_rfl) rfl rfl rfl HS2508.chg (fun wq hq => O_frmD (E := E_coin) rfl rfl rfl Try.underlying66 size69 g2510 g2511) ?_
                refine H_one (i := 4) rfl (by kernel_rfl) (by kernel_rfl) ?_
                refine F_litE (E := E_coin) (e := 69) [(0, .agg (E_coin.enc (rdx E_coin ds2265 0)).toArray)] [(rdx E_coin ds2265 0)] rfl rfl rfl rfl rfl rfl rfl (by decide) (fun w => by kernel_rfl) HS2508 (fun w2512 A2514 c2515 HS2513 => ?_)
                have HS2513 : Hp (HS2500.ft [8]) w2498 w2512 [.own A2273 c2274 (rowC E_coin ds2275) 69 E_coin.sz, .rd A_leaves_0 (rowC E_coin ds_leaves_0), Dz D_coin (orB (orB (orB (orB (orB (orB (HS2500.ft [8]) B_leaves_0) B_made_1) B2266) B2271) B2276) B2266) w2498.heap.size B_leaves_0 ds_leaves_0 l_leaves_0, .rd A_made_1 (rowC E_coin ds_made_1), Dz D_coin (orB (orB (orB (orB (orB (orB (HS2500.ft [8]) B_leaves_0) B_made_1) B2266) B2271) B2276) B2266) w2498.heap.size B_made_1 ds_made_1 l_made_1, .rd A2263 (rowC E_coin ds2265), Dz D_coin (orB (orB (orB (orB (orB (orB (HS2500.ft [8]) B_leaves_0) B_made_1) B2266) B2271) B2276) B2266) w2498.heap.size B2266 ds2265 l2267, .rd A2268 (rowC E_coin ds2270), Dz D_coin (orB (orB (orB (orB (orB (orB (HS2500.ft [8]) B_leaves_0) B_made_1) B2266) B2271) B2276) B2266) w2498.heap.size B2271 ds2270 l2272, Dz D_coin (orB (orB (orB (orB (orB (orB (HS2500.ft [8]) B_leaves_0) B_made_1) B2266) B2271) B2276) B2266) w2498.heap.size B2276 ds2275 l2277, Dz D_coin (orB (orB (orB (orB (orB (orB (HS2500.ft [8]) B_leaves_0) B_made_1) B2266) B2271) B2276) B2266) w2498.heap.size B2266 [(rdx E_coin ds2265 0)] [(rdp (Co.leaf 0 0) l2267 0)], .own A2514 c2515 (rowC E_coin [(rdx E_coin ds2265 0)]) 69 E_coin.sz] := HS2513
                have HS2518 : Hp (HS2500.ft [8]) w2498 w2512 [.own A2273 c2274 (rowC E_coin ds2275) 69 E_coin.sz, .rd A_leaves_0 (rowC E_coin ds_leaves_0), Dz D_coin (orB (orB (orB (orB (orB (orB (HS2500.ft [8]) B_leaves_0) B_made_1) B2266) B2271) B2276) B2266) w2498.heap.size B_leaves_0 ds_leaves_0 l_leaves_0, .rd A_made_1 (rowC E_coin ds_made_1), Dz D_coin (orB (orB (orB (orB (orB (orB (HS2500.ft [8]) B_leaves_0) B_made_1) B2266) B2271) B2276) B2266) w2498.heap.size B_made_1 ds_made_1 l_made_1, .rd A2263 (rowC E_coin ds2265), Dz D_coin (orB (orB (orB (orB (orB (orB (HS2500.ft [8]) B_leaves_0) B_made_1) B2266) B2271) B2276) B2266) w2498.heap.size B2266 ds2265 l2267, .rd A2268 (rowC E_coin ds2270), Dz D_coin (orB (orB (orB (orB (orB (orB (HS2500.ft [8]) B_leaves_0) B_made_1) B2266) B2271) B2276) B2266) w2498.heap.size B2271 ds2270 l2272, Dz D_coin (orB (orB (orB (orB (orB (orB (HS2500.ft [8]) B_leaves_0) B_made_1) B2266) B2271) B2276) B2266) w2498.heap.size B2276 ds2275 l2277, Dz D_coin (orB (orB (orB (orB (orB (orB (HS2500.ft [8]) B_leaves_0) B_made_1) B2266) B2271) B2276) B2266) w2498.heap.size B2266 [(rdx E_coin ds2265 0)] [(rdp (Co.leaf 0 0) l2267 0)], .own A2514 c2515 (rowC E_coin [(rdx E_coin ds2265 0)]) 69 E_coin.sz, Dz D_coin (orB (orB (orB (orB (orB (orB (HS2500.ft [8]) B_leaves_0) B_made_1) B2266) B2271) B2276) B2266) w2498.heap.size B2266 [(rdx E_coin ds2265 0)] [(rdp (Co.leaf 0 0) l2267 0)]] := HS2513.dzSub (i := 10) rfl dz_self (HS2513.dze (i := 10) rfl)
                refine H_next HS2518.chg ?_
                refine H_one (i := 5) rfl (by kernel_rfl) (by kernel_rfl) ?_
                obtain ⟨l2521, h2522, H⟩ := of_bnd H
                obtain ⟨g2523, H⟩ := of_gd H
                refine F_appD (D := D_coin) (ds := ds2275) (ds' := [(rdx E_coin ds2265 0)]) (xs := l2277) (ys := [(rdp (Co.leaf 0 0) l2267 0)]) (i := 0) rfl rfl rfl rfl Try.underlying66 info69 rfl (by decide) (by decide) rfl rfl HS2518 rfl (HS2518.dze (i := 9) rfl) (HS2518.dze (i := 12) rfl) (HS2518.cells_own (i := 11) rfl) h2522 g2523 (fun w2519 A2524 c2525 HS2520 => ?_)
                have HS2520 : Hp (HS2500.ft [8]) w2498 w2519 [.own A2524 c2525 (rowC E_coin (ds2275 ++ [(rdx E_coin ds2265 0)])) 69 E_coin.sz, .rd A_leaves_0 (rowC E_coin ds_leaves_0), Dz D_coin (orB (orB (orB (orB (orB (orB (HS2500.ft [8]) B_leaves_0) B_made_1) B2266) B2271) B2276) B2266) w2498.heap.size B_leaves_0 ds_leaves_0 l_leaves_0, .rd A_made_1 (rowC E_coin ds_made_1), Dz D_coin (orB (orB (orB (orB (orB (orB (HS2500.ft [8]) B_leaves_0) B_made_1) B2266) B2271) B2276) B2266) w2498.heap.size B_made_1 ds_made_1 l_made_1, .rd A2263 (rowC E_coin ds2265), Dz D_coin (orB (orB (orB (orB (orB (orB (HS2500.ft [8]) B_leaves_0) B_made_1) B2266) B2271) B2276) B2266) w2498.heap.size B2266 ds2265 l2267, .rd A2268 (rowC E_coin ds2270), Dz D_coin (orB (orB (orB (orB (orB (orB (HS2500.ft [8]) B_leaves_0) B_made_1) B2266) B2271) B2276) B2266) w2498.heap.size B2271 ds2270 l2272, Dz D_coin (orB (orB (orB (orB (orB (orB (HS2500.ft [8]) B_leaves_0) B_made_1) B2266) B2271) B2276) B2266) w2498.heap.size B2276 ds2275 l2277, Dz D_coin (orB (orB (orB (orB (orB (orB (HS2500.ft [8]) B_leaves_0) B_made_1) B2266) B2271) B2276) B2266) w2498.heap.size B2266 [(rdx E_coin ds2265 0)] [(rdp (Co.leaf 0 0) l2267 0)], .own A2514 c2515 (rowC E_coin [(rdx E_coin ds2265 0)]) 69 E_coin.sz, Dz D_coin (orB (orB (orB (orB (orB (orB (HS2500.ft [8]) B_leaves_0) B_made_1) B2266) B2271) B2276) B2266) w2498.heap.size B2266 [(rdx E_coin ds2265 0)] [(rdp (Co.leaf 0 0) l2267 0)]] := HS2520
                have HS2526 : Hp (HS2500.ft [8]) w2498 w2519 [.own A2524 c2525 (rowC E_coin (ds2275 ++ [(rdx E_coin ds2265 0)])) 69 E_coin.sz, .rd A_leaves_0 (rowC E_coin ds_leaves_0), Dz D_coin (orB (orB (orB (orB (orB (orB (HS2500.ft [8]) B_leaves_0) B_made_1) B2266) B2271) B2276) B2266) w2498.heap.size B_leaves_0 ds_leaves_0 l_leaves_0, .rd A_made_1 (rowC E_coin ds_made_1), Dz D_coin (orB (orB (orB (orB (orB (orB (HS2500.ft [8]) B_leaves_0) B_made_1) B2266) B2271) B2276) B2266) w2498.heap.size B_made_1 ds_made_1 l_made_1, .rd A2263 (rowC E_coin ds2265), Dz D_coin (orB (orB (orB (orB (orB (orB (HS2500.ft [8]) B_leaves_0) B_made_1) B2266) B2271) B2276) B2266) w2498.heap.size B2266 ds2265 l2267, .rd A2268 (rowC E_coin ds2270), Dz D_coin (orB (orB (orB (orB (orB (orB (HS2500.ft [8]) B_leaves_0) B_made_1) B2266) B2271) B2276) B2266) w2498.heap.size B2271 ds2270 l2272, Dz D_coin (orB (orB (orB (orB (orB (orB (HS2500.ft [8]) B_leaves_0) B_made_1) B2266) B2271) B2276) B2266) w2498.heap.size (orB B2276 B2266) (ds2275 ++ [(rdx E_coin ds2265 0)]) l2521, Dz D_coin (orB (orB (orB (orB (orB (orB (HS2500.ft [8]) B_leaves_0) B_made_1) B2266) B2271) B2276) B2266) w2498.heap.size B2266 [(rdx E_coin ds2265 0)] [(rdp (Co.leaf 0 0) l2267 0)], .own A2514 c2515 (rowC E_coin [(rdx E_coin ds2265 0)]) 69 E_coin.sz, Dz D_coin (orB (orB (orB (orB (orB (orB (HS2500.ft [8]) B_leaves_0) B_made_1) B2266) B2271) B2276) B2266) w2498.heap.size B2266 [(rdx E_coin ds2265 0)] [(rdp (Co.leaf 0 0) l2267 0)]] := HS2520.dzApp (i := 9) (j := 12) rfl rfl h2522
                refine H_next HS2526.chg ?_
                refine H_val (i := 8) rfl (by kernel_rfl) (by kernel_rfl) (by kernel_rfl) (by kernel_rfl) rfl rfl rfl HS2526.chg (fun wq hq => O_assign rfl rfl) ?_
                refine H_val (i := 9) rfl (by kernel_rfl) (by kernel_rfl) (by kernel_rfl) (by kernel_rfl) rfl rfl rfl HS2526.chg (fun wq hq => O_assign rfl rfl) ?_
                refine H_end (by kernel_rfl) ?_
                have HS2528 := HS2526.sel [0, 11, 9, 12] rfl
                have HS2527 : Hp S0 w0 w2519 [.rd A_leaves_0 (rowC E_coin ds_leaves_0), Dz D_coin (orB (orB S0 B_leaves_0) B_made_1) w0.heap.size B_leaves_0 ds_leaves_0 l_leaves_0, .rd A_made_1 (rowC E_coin ds_made_1), Dz D_coin (orB (orB S0 B_leaves_0) B_made_1) w0.heap.size B_made_1 ds_made_1 l_made_1, Rdc l2267.length c2264 A2263 (rowC E_coin ds2265), Dz D_coin (orB (orB S0 B_leaves_0) B_made_1) w0.heap.size B2266 ds2265 l2267, Rdc l2272.length c2269 A2268 (rowC E_coin ds2270), Dz D_coin (orB (orB S0 B_leaves_0) B_made_1) w0.heap.size B2271 ds2270 l2272, .own A2524 c2525 (rowC E_coin (ds2275 ++ [(rdx E_coin ds2265 0)])) 69 E_coin.sz, Dz D_coin (orB (orB S0 B_leaves_0) B_made_1) w0.heap.size (orB B2276 B2266) (ds2275 ++ [(rdx E_coin ds2265 0)]) l2521, Dz D_coin (orB (orB S0 B_leaves_0) B_made_1) w0.heap.size B2266 [(rdx E_coin ds2265 0)] [(rdp (Co.leaf 0 0) l2267 0)], .own A2514 c2515 (rowC E_coin [(rdx E_coin ds2265 0)]) 69 E_coin.sz, Dz D_coin (orB (orB S0 B_leaves_0) B_made_1) w0.heap.size B2266 [(rdx E_coin ds2265 0)] [(rdp (Co.leaf 0 0) l2267 0)]] := (((HS2500.backD [8] HS2528 (Pv.backG (Pv.own (Pv.own (Pv.per (HS2528.dz (i := 2) rfl).1 (Pv.per (HS2528.dz (i := 3) rfl).1 Pv.nil)))) (fun b => (fun hb => Or.elim hb (fun hb => Or.elim hb (fun hb => Or.elim hb (fun hb => Or.elim hb (fun hb => Or.elim hb (fun hb => Or.elim hb (fun hb => .inl hb) (fun hb => .inr ⟨_, _, nth_mem (i := 1) rfl, hb⟩)) (fun hb => .inr ⟨_, _, nth_mem (i := 3) rfl, hb⟩)) (fun hb => .inr ⟨_, _, nth_mem (i := 5) rfl, hb⟩)) (fun hb => .inr ⟨_, _, nth_mem (i := 7) rfl, hb⟩)) (fun hb => .inr ⟨_, _, nth_mem (i := 9) rfl, hb⟩)) (fun hb => .inr ⟨_, _, nth_mem (i := 10) rfl, hb⟩))))).sel [0, 1, 2, 3, 4, 5, 6, 7, 11, 13, 10, 12, 14] rfl).dzProv (i := 9) rfl (fun b hb _ => Or.elim hb (fun hb => Or.elim hb (fun hb => Or.elim hb (fun hb => Or.elim hb (fun hb => Or.elim hb (fun hb => Or.elim hb (fun hb => Or.elim hb (fun hb => (HS2500.mine _ (feet_pick_le hb)).elim (hSF _) .inr) (fun hb => (HS2500.dz (i := 1) rfl).1 _ hb)) (fun hb => (HS2500.dz (i := 3) rfl).1 _ hb)) (fun hb => (HS2500.dz (i := 5) rfl).1 _ hb)) (fun hb => (HS2500.dz (i := 7) rfl).1 _ hb)) (fun hb => (HS2500.dz (i := 9) rfl).1 _ hb)) (fun hb => (HS2500.dz (i := 10) rfl).1 _ hb)) (fun h => .inr (Nat.le_trans HS2500.chg.size h)))).dzProv (i := 12) rfl (fun b hb _ => Or.elim hb (fun hb => Or.elim hb (fun hb => Or.elim hb (fun hb => Or.elim hb (fun hb => Or.elim hb (fun hb => Or.elim hb (fun hb => Or.elim hb (fun hb => (HS2500.mine _ (feet_pick_le hb)).elim (hSF _) .inr) (fun hb => (HS2500.dz (i := 1) rfl).1 _ hb)) (fun hb => (HS2500.dz (i := 3) rfl).1 _ hb)) (fun hb => (HS2500.dz (i := 5) rfl).1 _ hb)) (fun hb => (HS2500.dz (i := 7) rfl).1 _ hb)) (fun hb => (HS2500.dz (i := 9) rfl).1 _ hb)) (fun hb => (HS2500.dz (i := 10) rfl).1 _ hb)) (fun h => .inr (Nat.le_trans HS2500.chg.size h)))
                refine T_done (by kernel_rfl) ?_
                have HS2530 : Hp S0 w0 w2519 [.rd A_leaves_0 (rowC E_coin ds_leaves_0), Dz D_coin (orB (orB S0 B_leaves_0) B_made_1) w0.heap.size B_leaves_0 ds_leaves_0 l_leaves_0, .rd A_made_1 (rowC E_coin ds_made_1), Dz D_coin (orB (orB S0 B_leaves_0) B_made_1) w0.heap.size B_made_1 ds_made_1 l_made_1, Rdc l2267.length c2264 A2263 (rowC E_coin ds2265), Dz D_coin (orB (orB S0 B_leaves_0) B_made_1) w0.heap.size B2266 ds2265 l2267, Rdc l2272.length c2269 A2268 (rowC E_coin ds2270), Dz D_coin (orB (orB S0 B_leaves_0) B_made_1) w0.heap.size B2271 ds2270 l2272, .own A2524 c2525 (rowC E_coin (ds2275 ++ [(rdx E_coin ds2265 0)])) 69 E_coin.sz, Dz D_coin (orB (orB S0 B_leaves_0) B_made_1) w0.heap.size (orB B2276 B2266) (ds2275 ++ [(rdx E_coin ds2265 0)]) l2521, Dz D_coin (orB (orB S0 B_leaves_0) B_made_1) w0.heap.size B2266 [(rdx E_coin ds2265 0)] [(rdp (Co.leaf 0 0) l2267 0)], .own A2514 c2515 (rowC E_coin [(rdx E_coin ds2265 0)]) 69 E_coin.sz, Dz D_coin (orB (orB S0 B_leaves_0) B_made_1) w0.heap.size B2266 [(rdx E_coin ds2265 0)] [(rdp (Co.leaf 0 0) l2267 0)], Rdc (l2267.drop (1 : Int).toNat).length (c2264 - (1 : Int).toNat) (frmA A2263 c2264 (1 : Int).toNat E_coin.sz) (rowC E_coin (ds2265.drop (1 : Int).toNat))] := HS2527.rdcSub (i := 4) rfl (Sub.trans (HS2527.cells_rdc (i := 4) rfl).self (sub_frm (l := (1 : Int).toNat) (HS2527.cells_rdc (i := 4) rfl) (dz_cap (HS2527.dze (i := 5) rfl) (HS2527.rdc_cap (i := 4) rfl)))) (drop_cap (HS2527.rdc_cap (i := 4) rfl))
                have HS2532 : Hp S0 w0 w2519 [.rd A_leaves_0 (rowC E_coin ds_leaves_0), Dz D_coin (orB (orB S0 B_leaves_0) B_made_1) w0.heap.size B_leaves_0 ds_leaves_0 l_leaves_0, .rd A_made_1 (rowC E_coin ds_made_1), Dz D_coin (orB (orB S0 B_leaves_0) B_made_1) w0.heap.size B_made_1 ds_made_1 l_made_1, Rdc l2267.length c2264 A2263 (rowC E_coin ds2265), Dz D_coin (orB (orB S0 B_leaves_0) B_made_1) w0.heap.size B2266 ds2265 l2267, Rdc l2272.length c2269 A2268 (rowC E_coin ds2270), Dz D_coin (orB (orB S0 B_leaves_0) B_made_1) w0.heap.size B2271 ds2270 l2272, .own A2524 c2525 (rowC E_coin (ds2275 ++ [(rdx E_coin ds2265 0)])) 69 E_coin.sz, Dz D_coin (orB (orB S0 B_leaves_0) B_made_1) w0.heap.size (orB B2276 B2266) (ds2275 ++ [(rdx E_coin ds2265 0)]) l2521, Dz D_coin (orB (orB S0 B_leaves_0) B_made_1) w0.heap.size B2266 [(rdx E_coin ds2265 0)] [(rdp (Co.leaf 0 0) l2267 0)], .own A2514 c2515 (rowC E_coin [(rdx E_coin ds2265 0)]) 69 E_coin.sz, Dz D_coin (orB (orB S0 B_leaves_0) B_made_1) w0.heap.size B2266 [(rdx E_coin ds2265 0)] [(rdp (Co.leaf 0 0) l2267 0)], Rdc (l2267.drop (1 : Int).toNat).length (c2264 - (1 : Int).toNat) (frmA A2263 c2264 (1 : Int).toNat E_coin.sz) (rowC E_coin (ds2265.drop (1 : Int).toNat)), Dz D_coin (orB (orB S0 B_leaves_0) B_made_1) w0.heap.size B2266 (ds2265.drop (1 : Int).toNat) (l2267.drop (1 : Int).toNat)] := HS2530.dzSub (i := 5) rfl (dz_dropT dz_self (1 : Int).toNat) (dze_drop (1 : Int).toNat (HS2527.dze (i := 5) rfl))
                refine L_nil (fun a ha => hNj2336 a _ ⟨_, _, _, _, _, _, _, _, _, _, _, _, _, _, _, (Option.some.inj H).symm, Is.cons ha (Is.cons ha (Is.cons ha (Is.nil ha) rfl) rfl) rfl, HS2532.sel [0, 1, 2, 3, 13, 14, 6, 7, 8, 9] rfl⟩)
              · have H := of_neg H (by rw [c2475]; exact Bool.false_ne_true)
                obtain ⟨⟨g2533, g2534⟩, H⟩ := of_gd H
                have HS2536 : Hp S0 w0 w2333 [.rd A_leaves_0 (rowC E_coin ds_leaves_0), Dz D_coin (orB (orB S0 B_leaves_0) B_made_1) w0.heap.size B_leaves_0 ds_leaves_0 l_leaves_0, .rd A_made_1 (rowC E_coin ds_made_1), Dz D_coin (orB (orB S0 B_leaves_0) B_made_1) w0.heap.size B_made_1 ds_made_1 l_made_1, Rdc l2267.length c2264 A2263 (rowC E_coin ds2265), Dz D_coin (orB (orB S0 B_leaves_0) B_made_1) w0.heap.size B2266 ds2265 l2267, Rdc l2272.length c2269 A2268 (rowC E_coin ds2270), Dz D_coin (orB (orB S0 B_leaves_0) B_made_1) w0.heap.size B2271 ds2270 l2272, .own A2273 c2274 (rowC E_coin ds2275) 69 E_coin.sz, Dz D_coin (orB (orB S0 B_leaves_0) B_made_1) w0.heap.size B2276 ds2275 l2277, Dz D_coin (orB (orB S0 B_leaves_0) B_made_1) w0.heap.size B2271 [(rdx E_coin ds2270 0)] [(rdp (Co.leaf 0 0) l2272 0)]] := HS2335.dzOne (i := 7) rfl dz_self (HS2335.dze (i := 7) rfl) g2533 g2534
                refine L_heldS 10 0 [] mix rfl (fun w2555 hw2556 => ?_)
                have HS2557 := HS2536.keep hw2556
                refine ⟨HS2557.turns [8], ?_⟩
                have HR2558 : Hp (HS2557.ft [8]) w2555 w2555 [.own A2273 c2274 (rowC E_coin ds2275) 69 E_coin.sz, .rd A_leaves_0 (rowC E_coin ds_leaves_0), Dz D_coin anyB 0 B_leaves_0 ds_leaves_0 l_leaves_0, .rd A_made_1 (rowC E_coin ds_made_1), Dz D_coin anyB 0 B_made_1 ds_made_1 l_made_1, .rd A2263 (rowC E_coin ds2265), Dz D_coin anyB 0 B2266 ds2265 l2267, .rd A2268 (rowC E_coin ds2270), Dz D_coin anyB 0 B2271 ds2270 l2272, Dz D_coin anyB 0 B2276 ds2275 l2277, Dz D_coin anyB 0 B2271 [(rdx E_coin ds2270 0)] [(rdp (Co.leaf 0 0) l2272 0)]] := HS2557.give [8] rfl (Lent.rd HS2557 (Lent.dz HS2557 (Lent.rd HS2557 (Lent.dz HS2557 (Lent.rdc HS2557 (Lent.dz HS2557 (Lent.rdc HS2557 (Lent.dz HS2557 (Lent.dz HS2557 (Lent.dz HS2557 (Lent.nil) (i := 10) rfl dz_self (HS2557.dze (i := 10) rfl)) (i := 9) rfl dz_self (HS2557.dze (i := 9) rfl)) (i := 7) rfl dz_self (HS2557.dze (i := 7) rfl)) (i := 6) rfl (HS2557.cells_rdc (i := 6) rfl).self) (i := 5) rfl dz_self (HS2557.dze (i := 5) rfl)) (i := 4) rfl (HS2557.cells_rdc (i := 4) rfl).self) (i := 3) rfl dz_self (HS2557.dze (i := 3) rfl)) (i := 2) rfl (HS2557.cells_rd (i := 2) rfl).self) (i := 1) rfl dz_self (HS2557.dze (i := 1) rfl)) (i := 0) rfl (HS2557.cells_rd (i := 0) rfl).self)
                have hSF2559 : ∀ b, HS2557.ft [8] b → (orB (orB (orB (orB (orB (orB (HS2557.ft [8]) B_leaves_0) B_made_1) B2266) B2271) B2276) B2271) b ∨ w2555.heap.size ≤ b := fun b hb => .inl (.inl (.inl (.inl (.inl (.inl (.inl hb))))))
                have HS2560 : Hp (HS2557.ft [8]) w2555 w2555 [.own A2273 c2274 (rowC E_coin ds2275) 69 E_coin.sz, .rd A_leaves_0 (rowC E_coin ds_leaves_0), Dz D_coin (orB (orB (orB (orB (orB (orB (HS2557.ft [8]) B_leaves_0) B_made_1) B2266) B2271) B2276) B2271) w2555.heap.size B_leaves_0 ds_leaves_0 l_leaves_0, .rd A_made_1 (rowC E_coin ds_made_1), Dz D_coin anyB 0 B_made_1 ds_made_1 l_made_1, .rd A2263 (rowC E_coin ds2265), Dz D_coin anyB 0 B2266 ds2265 l2267, .rd A2268 (rowC E_coin ds2270), Dz D_coin anyB 0 B2271 ds2270 l2272, Dz D_coin anyB 0 B2276 ds2275 l2277, Dz D_coin anyB 0 B2271 [(rdx E_coin ds2270 0)] [(rdp (Co.leaf 0 0) l2272 0)]] := HR2558.dzProv (i := 2) rfl (fun b _ hb => .inl (.inl (.inl (.inl (.inl (.inl (.inr hb)))))))
                have HS2561 : Hp (HS2557.ft [8]) w2555 w2555 [.own A2273 c2274 (rowC E_coin ds2275) 69 E_coin.sz, .rd A_leaves_0 (rowC E_coin ds_leaves_0), Dz D_coin (orB (orB (orB (orB (orB (orB (HS2557.ft [8]) B_leaves_0) B_made_1) B2266) B2271) B2276) B2271) w2555.heap.size B_leaves_0 ds_leaves_0 l_leaves_0, .rd A_made_1 (rowC E_coin ds_made_1), Dz D_coin (orB (orB (orB (orB (orB (orB (HS2557.ft [8]) B_leaves_0) B_made_1) B2266) B2271) B2276) B2271) w2555.heap.size B_made_1 ds_made_1 l_made_1, .rd A2263 (rowC E_coin ds2265), Dz D_coin anyB 0 B2266 ds2265 l2267, .rd A2268 (rowC E_coin ds2270), Dz D_coin anyB 0 B2271 ds2270 l2272, Dz D_coin anyB 0 B2276 ds2275 l2277, Dz D_coin anyB 0 B2271 [(rdx E_coin ds2270 0)] [(rdp (Co.leaf 0 0) l2272 0)]] := HS2560.dzProv (i := 4) rfl (fun b _ hb => .inl (.inl (.inl (.inl (.inl (.inr hb))))))
                have HS2562 : Hp (HS2557.ft [8]) w2555 w2555 [.own A2273 c2274 (rowC E_coin ds2275) 69 E_coin.sz, .rd A_leaves_0 (rowC E_coin ds_leaves_0), Dz D_coin (orB (orB (orB (orB (orB (orB (HS2557.ft [8]) B_leaves_0) B_made_1) B2266) B2271) B2276) B2271) w2555.heap.size B_leaves_0 ds_leaves_0 l_leaves_0, .rd A_made_1 (rowC E_coin ds_made_1), Dz D_coin (orB (orB (orB (orB (orB (orB (HS2557.ft [8]) B_leaves_0) B_made_1) B2266) B2271) B2276) B2271) w2555.heap.size B_made_1 ds_made_1 l_made_1, .rd A2263 (rowC E_coin ds2265), Dz D_coin (orB (orB (orB (orB (orB (orB (HS2557.ft [8]) B_leaves_0) B_made_1) B2266) B2271) B2276) B2271) w2555.heap.size B2266 ds2265 l2267, .rd A2268 (rowC E_coin ds2270), Dz D_coin anyB 0 B2271 ds2270 l2272, Dz D_coin anyB 0 B2276 ds2275 l2277, Dz D_coin anyB 0 B2271 [(rdx E_coin ds2270 0)] [(rdp (Co.leaf 0 0) l2272 0)]] := HS2561.dzProv (i := 6) rfl (fun b _ hb => .inl (.inl (.inl (.inl (.inr hb)))))
                have HS2563 : Hp (HS2557.ft [8]) w2555 w2555 [.own A2273 c2274 (rowC E_coin ds2275) 69 E_coin.sz, .rd A_leaves_0 (rowC E_coin ds_leaves_0), Dz D_coin (orB (orB (orB (orB (orB (orB (HS2557.ft [8]) B_leaves_0) B_made_1) B2266) B2271) B2276) B2271) w2555.heap.size B_leaves_0 ds_leaves_0 l_leaves_0, .rd A_made_1 (rowC E_coin ds_made_1), Dz D_coin (orB (orB (orB (orB (orB (orB (HS2557.ft [8]) B_leaves_0) B_made_1) B2266) B2271) B2276) B2271) w2555.heap.size B_made_1 ds_made_1 l_made_1, .rd A2263 (rowC E_coin ds2265), Dz D_coin (orB (orB (orB (orB (orB (orB (HS2557.ft [8]) B_leaves_0) B_made_1) B2266) B2271) B2276) B2271) w2555.heap.size B2266 ds2265 l2267, .rd A2268 (rowC E_coin ds2270), Dz D_coin (orB (orB (orB (orB (orB (orB (HS2557.ft [8]) B_leaves_0) B_made_1) B2266) B2271) B2276) B2271) w2555.heap.size B2271 ds2270 l2272, Dz D_coin anyB 0 B2276 ds2275 l2277, Dz D_coin anyB 0 B2271 [(rdx E_coin ds2270 0)] [(rdp (Co.leaf 0 0) l2272 0)]] := HS2562.dzProv (i := 8) rfl (fun b _ hb => .inl (.inl (.inl (.inr hb))))
                have HS2564 : Hp (HS2557.ft [8]) w2555 w2555 [.own A2273 c2274 (rowC E_coin ds2275) 69 E_coin.sz, .rd A_leaves_0 (rowC E_coin ds_leaves_0), Dz D_coin (orB (orB (orB (orB (orB (orB (HS2557.ft [8]) B_leaves_0) B_made_1) B2266) B2271) B2276) B2271) w2555.heap.size B_leaves_0 ds_leaves_0 l_leaves_0, .rd A_made_1 (rowC E_coin ds_made_1), Dz D_coin (orB (orB (orB (orB (orB (orB (HS2557.ft [8]) B_leaves_0) B_made_1) B2266) B2271) B2276) B2271) w2555.heap.size B_made_1 ds_made_1 l_made_1, .rd A2263 (rowC E_coin ds2265), Dz D_coin (orB (orB (orB (orB (orB (orB (HS2557.ft [8]) B_leaves_0) B_made_1) B2266) B2271) B2276) B2271) w2555.heap.size B2266 ds2265 l2267, .rd A2268 (rowC E_coin ds2270), Dz D_coin (orB (orB (orB (orB (orB (orB (HS2557.ft [8]) B_leaves_0) B_made_1) B2266) B2271) B2276) B2271) w2555.heap.size B2271 ds2270 l2272, Dz D_coin (orB (orB (orB (orB (orB (orB (HS2557.ft [8]) B_leaves_0) B_made_1) B2266) B2271) B2276) B2271) w2555.heap.size B2276 ds2275 l2277, Dz D_coin anyB 0 B2271 [(rdx E_coin ds2270 0)] [(rdp (Co.leaf 0 0) l2272 0)]] := HS2563.dzProv (i := 9) rfl (fun b _ hb => .inl (.inl (.inr hb)))
                have HS2565 : Hp (HS2557.ft [8]) w2555 w2555 [.own A2273 c2274 (rowC E_coin ds2275) 69 E_coin.sz, .rd A_leaves_0 (rowC E_coin ds_leaves_0), Dz D_coin (orB (orB (orB (orB (orB (orB (HS2557.ft [8]) B_leaves_0) B_made_1) B2266) B2271) B2276) B2271) w2555.heap.size B_leaves_0 ds_leaves_0 l_leaves_0, .rd A_made_1 (rowC E_coin ds_made_1), Dz D_coin (orB (orB (orB (orB (orB (orB (HS2557.ft [8]) B_leaves_0) B_made_1) B2266) B2271) B2276) B2271) w2555.heap.size B_made_1 ds_made_1 l_made_1, .rd A2263 (rowC E_coin ds2265), Dz D_coin (orB (orB (orB (orB (orB (orB (HS2557.ft [8]) B_leaves_0) B_made_1) B2266) B2271) B2276) B2271) w2555.heap.size B2266 ds2265 l2267, .rd A2268 (rowC E_coin ds2270), Dz D_coin (orB (orB (orB (orB (orB (orB (HS2557.ft [8]) B_leaves_0) B_made_1) B2266) B2271) B2276) B2271) w2555.heap.size B2271 ds2270 l2272, Dz D_coin (orB (orB (orB (orB (orB (orB (HS2557.ft [8]) B_leaves_0) B_made_1) B2266) B2271) B2276) B2271) w2555.heap.size B2276 ds2275 l2277, Dz D_coin (orB (orB (orB (orB (orB (orB (HS2557.ft [8]) B_leaves_0) B_made_1) B2266) B2271) B2276) B2271) w2555.heap.size B2271 [(rdx E_coin ds2270 0)] [(rdp (Co.leaf 0 0) l2272 0)]] := HS2564.dzProv (i := 10) rfl (fun b _ hb => .inl (.inr hb))
                refine H_val (i := 0) rfl (by kernel_rfl) (by kernel_rfl) (by kernel_rfl) (by kernel_rfl) rfl rfl rfl HS2565.chg (fun wq hq => O_move rfl rfl) ?_
                refine H_val (i := 1) rfl (by kernel_rfl) (by kernel_rfl) (by kernel_rfl) (by kernel_rfl) rfl rfl rfl HS2565.chg (fun wq hq => O_move rfl rfl) ?_
                refine H_val (i := 2) rfl (by kernel_rfl) (by kernel_rfl) (by kernel_rfl) (by kernel_rfl) rfl rfl rfl HS2565.chg (fun wq hq => O_idx rfl rfl rfl Try.underlying66 size69 g2533 g2534 (Cells.isA ((HS2557.keepT [8] hq).cells_rdc (i := 6) rfl) (dz_ne (D := D_coin) ((HS2557.keepT [8] hq).dze (i := 7) rfl) g2533 g2534 (by decide)))) ?_
                refine H_val (i := 3) rfl (by kernel_rfl) (by kernel_rfl) (by kernel_rfl) (by kernel_rfl) rfl rfl rfl HS2565.chg (fun wq hq => O_loadElD (D := D_coin) rfl rfl wide69 ((HS2557.keepT [8] hq).cells_rdc (i := 6) rfl) ((HS2557.keepT [8] hq).dze (i := 7) rfl) g2533 g2534 (by decide)) ?_
                refine H_val (i := 6) rfl (by kernel_rfl) (by kernel_rfl) (by kernel_rfl) (by kernel_rfl) rfl rfl rfl HS2565.chg (fun wq hq => O_move rfl rfl) ?_
                obtain ⟨⟨g2567, g2568⟩, H⟩ := of_gd H
                refine H_val (i := 7) rfl (by kernel_rfl) (by kernel_rfl) (by kernel_rfl) (by kernel_rfl) rfl rfl rfl HS2565.chg (fun wq hq => O_frmD (E := E_coin) rfl rfl rfl Try.underlying66 size69 g2567 g2568) ?_
                refine H_one (i := 4) rfl (by kernel_rfl) (by kernel_rfl) ?_
                refine F_litE (E := E_coin) (e := 69) [(0, .agg (E_coin.enc (rdx E_coin ds2270 0)).toArray)] [(rdx E_coin ds2270 0)] rfl rfl rfl rfl rfl rfl rfl (by decide) (fun w => by kernel_rfl) HS2565 (fun w2569 A2571 c2572 HS2570 => ?_)
                have HS2570 : Hp (HS2557.ft [8]) w2555 w2569 [.own A2273 c2274 (rowC E_coin ds2275) 69 E_coin.sz, .rd A_leaves_0 (rowC E_coin ds_leaves_0), Dz D_coin (orB (orB (orB (orB (orB (orB (HS2557.ft [8]) B_leaves_0) B_made_1) B2266) B2271) B2276) B2271) w2555.heap.size B_leaves_0 ds_leaves_0 l_leaves_0, .rd A_made_1 (rowC E_coin ds_made_1), Dz D_coin (orB (orB (orB (orB (orB (orB (HS2557.ft [8]) B_leaves_0) B_made_1) B2266) B2271) B2276) B2271) w2555.heap.size B_made_1 ds_made_1 l_made_1, .rd A2263 (rowC E_coin ds2265), Dz D_coin (orB (orB (orB (orB (orB (orB (HS2557.ft [8]) B_leaves_0) B_made_1) B2266) B2271) B2276) B2271) w2555.heap.size B2266 ds2265 l2267, .rd A2268 (rowC E_coin ds2270), Dz D_coin (orB (orB (orB (orB (orB (orB (HS2557.ft [8]) B_leaves_0) B_made_1) B2266) B2271) B2276) B2271) w2555.heap.size B2271 ds2270 l2272, Dz D_coin (orB (orB (orB (orB (orB (orB (HS2557.ft [8]) B_leaves_0) B_made_1) B2266) B2271) B2276) B2271) w2555.heap.size B2276 ds2275 l2277, Dz D_coin (orB (orB (orB (orB (orB (orB (HS2557.ft [8]) B_leaves_0) B_made_1) B2266) B2271) B2276) B2271) w2555.heap.size B2271 [(rdx E_coin ds2270 0)] [(rdp (Co.leaf 0 0) l2272 0)], .own A2571 c2572 (rowC E_coin [(rdx E_coin ds2270 0)]) 69 E_coin.sz] := HS2570
                have HS2575 : Hp (HS2557.ft [8]) w2555 w2569 [.own A2273 c2274 (rowC E_coin ds2275) 69 E_coin.sz, .rd A_leaves_0 (rowC E_coin ds_leaves_0), Dz D_coin (orB (orB (orB (orB (orB (orB (HS2557.ft [8]) B_leaves_0) B_made_1) B2266) B2271) B2276) B2271) w2555.heap.size B_leaves_0 ds_leaves_0 l_leaves_0, .rd A_made_1 (rowC E_coin ds_made_1), Dz D_coin (orB (orB (orB (orB (orB (orB (HS2557.ft [8]) B_leaves_0) B_made_1) B2266) B2271) B2276) B2271) w2555.heap.size B_made_1 ds_made_1 l_made_1, .rd A2263 (rowC E_coin ds2265), Dz D_coin (orB (orB (orB (orB (orB (orB (HS2557.ft [8]) B_leaves_0) B_made_1) B2266) B2271) B2276) B2271) w2555.heap.size B2266 ds2265 l2267, .rd A2268 (rowC E_coin ds2270), Dz D_coin (orB (orB (orB (orB (orB (orB (HS2557.ft [8]) B_leaves_0) B_made_1) B2266) B2271) B2276) B2271) w2555.heap.size B2271 ds2270 l2272, Dz D_coin (orB (orB (orB (orB (orB (orB (HS2557.ft [8]) B_leaves_0) B_made_1) B2266) B2271) B2276) B2271) w2555.heap.size B2276 ds2275 l2277, Dz D_coin (orB (orB (orB (orB (orB (orB (HS2557.ft [8]) B_leaves_0) B_made_1) B2266) B2271) B2276) B2271) w2555.heap.size B2271 [(rdx E_coin ds2270 0)] [(rdp (Co.leaf 0 0) l2272 0)], .own A2571 c2572 (rowC E_coin [(rdx E_coin ds2270 0)]) 69 E_coin.sz, Dz D_coin (orB (orB (orB (orB (orB (orB (HS2557.ft [8]) B_leaves_0) B_made_1) B2266) B2271) B2276) B2271) w2555.heap.size B2271 [(rdx E_coin ds2270 0)] [(rdp (Co.leaf 0 0) l2272 0)]] := HS2570.dzSub (i := 10) rfl dz_self (HS2570.dze (i := 10) rfl)
                refine H_next HS2575.chg ?_
                refine H_one (i := 5) rfl (by kernel_rfl) (by kernel_rfl) ?_
                obtain ⟨l2578, h2579, H⟩ := of_bnd H
                obtain ⟨g2580, H⟩ := of_gd H
                refine F_appD (D := D_coin) (ds := ds2275) (ds' := [(rdx E_coin ds2270 0)]) (xs := l2277) (ys := [(rdp (Co.leaf 0 0) l2272 0)]) (i := 0) rfl rfl rfl rfl Try.underlying66 info69 rfl (by decide) (by decide) rfl rfl HS2575 rfl (HS2575.dze (i := 9) rfl) (HS2575.dze (i := 12) rfl) (HS2575.cells_own (i := 11) rfl) h2579 g2580 (fun w2576 A2581 c2582 HS2577 => ?_)
                have HS2577 : Hp (HS2557.ft [8]) w2555 w2576 [.own A2581 c2582 (rowC E_coin (ds2275 ++ [(rdx E_coin ds2270 0)])) 69 E_coin.sz, .rd A_leaves_0 (rowC E_coin ds_leaves_0), Dz D_coin (orB (orB (orB (orB (orB (orB (HS2557.ft [8]) B_leaves_0) B_made_1) B2266) B2271) B2276) B2271) w2555.heap.size B_leaves_0 ds_leaves_0 l_leaves_0, .rd A_made_1 (rowC E_coin ds_made_1), Dz D_coin (orB (orB (orB (orB (orB (orB (HS2557.ft [8]) B_leaves_0) B_made_1) B2266) B2271) B2276) B2271) w2555.heap.size B_made_1 ds_made_1 l_made_1, .rd A2263 (rowC E_coin ds2265), Dz D_coin (orB (orB (orB (orB (orB (orB (HS2557.ft [8]) B_leaves_0) B_made_1) B2266) B2271) B2276) B2271) w2555.heap.size B2266 ds2265 l2267, .rd A2268 (rowC E_coin ds2270), Dz D_coin (orB (orB (orB (orB (orB (orB (HS2557.ft [8]) B_leaves_0) B_made_1) B2266) B2271) B2276) B2271) w2555.heap.size B2271 ds2270 l2272, Dz D_coin (orB (orB (orB (orB (orB (orB (HS2557.ft [8]) B_leaves_0) B_made_1) B2266) B2271) B2276) B2271) w2555.heap.size B2276 ds2275 l2277, Dz D_coin (orB (orB (orB (orB (orB (orB (HS2557.ft [8]) B_leaves_0) B_made_1) B2266) B2271) B2276) B2271) w2555.heap.size B2271 [(rdx E_coin ds2270 0)] [(rdp (Co.leaf 0 0) l2272 0)], .own A2571 c2572 (rowC E_coin [(rdx E_coin ds2270 0)]) 69 E_coin.sz, Dz D_coin (orB (orB (orB (orB (orB (orB (HS2557.ft [8]) B_leaves_0) B_made_1) B2266) B2271) B2276) B2271) w2555.heap.size B2271 [(rdx E_coin ds2270 0)] [(rdp (Co.leaf 0 0) l2272 0)]] := HS2577
                have HS2583 : Hp (HS2557.ft [8]) w2555 w2576 [.own A2581 c2582 (rowC E_coin (ds2275 ++ [(rdx E_coin ds2270 0)])) 69 E_coin.sz, .rd A_leaves_0 (rowC E_coin ds_leaves_0), Dz D_coin (orB (orB (orB (orB (orB (orB (HS2557.ft [8]) B_leaves_0) B_made_1) B2266) B2271) B2276) B2271) w2555.heap.size B_leaves_0 ds_leaves_0 l_leaves_0, .rd A_made_1 (rowC E_coin ds_made_1), Dz D_coin (orB (orB (orB (orB (orB (orB (HS2557.ft [8]) B_leaves_0) B_made_1) B2266) B2271) B2276) B2271) w2555.heap.size B_made_1 ds_made_1 l_made_1, .rd A2263 (rowC E_coin ds2265), Dz D_coin (orB (orB (orB (orB (orB (orB (HS2557.ft [8]) B_leaves_0) B_made_1) B2266) B2271) B2276) B2271) w2555.heap.size B2266 ds2265 l2267, .rd A2268 (rowC E_coin ds2270), Dz D_coin (orB (orB (orB (orB (orB (orB (HS2557.ft [8]) B_leaves_0) B_made_1) B2266) B2271) B2276) B2271) w2555.heap.size B2271 ds2270 l2272, Dz D_coin (orB (orB (orB (orB (orB (orB (HS2557.ft [8]) B_leaves_0) B_made_1) B2266) B2271) B2276) B2271) w2555.heap.size (orB B2276 B2271) (ds2275 ++ [(rdx E_coin ds2270 0)]) l2578, Dz D_coin (orB (orB (orB (orB (orB (orB (HS2557.ft [8]) B_leaves_0) B_made_1) B2266) B2271) B2276) B2271) w2555.heap.size B2271 [(rdx E_coin ds2270 0)] [(rdp (Co.leaf 0 0) l2272 0)], .own A2571 c2572 (rowC E_coin [(rdx E_coin ds2270 0)]) 69 E_coin.sz, Dz D_coin (orB (orB (orB (orB (orB (orB (HS2557.ft [8]) B_leaves_0) B_made_1) B2266) B2271) B2276) B2271) w2555.heap.size B2271 [(rdx E_coin ds2270 0)] [(rdp (Co.leaf 0 0) l2272 0)]] := HS2577.dzApp (i := 9) (j := 12) rfl rfl h2579
                refine H_next HS2583.chg ?_
                refine H_val (i := 8) rfl (by kernel_rfl) (by kernel_rfl) (by kernel_rfl) (by kernel_rfl) rfl rfl rfl HS2583.chg (fun wq hq => O_assign rfl rfl) ?_
                refine H_val (i := 9) rfl (by kernel_rfl) (by kernel_rfl) (by kernel_rfl) (by kernel_rfl) rfl rfl rfl HS2583.chg (fun wq hq => O_assign rfl rfl) ?_
                refine H_end (by kernel_rfl) ?_
                have HS2585 := HS2583.sel [0, 11, 9, 12] rfl
                have HS2584 : Hp S0 w0 w2576 [.rd A_leaves_0 (rowC E_coin ds_leaves_0), Dz D_coin (orB (orB S0 B_leaves_0) B_made_1) w0.heap.size B_leaves_0 ds_leaves_0 l_leaves_0, .rd A_made_1 (rowC E_coin ds_made_1), Dz D_coin (orB (orB S0 B_leaves_0) B_made_1) w0.heap.size B_made_1 ds_made_1 l_made_1, Rdc l2267.length c2264 A2263 (rowC E_coin ds2265), Dz D_coin (orB (orB S0 B_leaves_0) B_made_1) w0.heap.size B2266 ds2265 l2267, Rdc l2272.length c2269 A2268 (rowC E_coin ds2270), Dz D_coin (orB (orB S0 B_leaves_0) B_made_1) w0.heap.size B2271 ds2270 l2272, .own A2581 c2582 (rowC E_coin (ds2275 ++ [(rdx E_coin ds2270 0)])) 69 E_coin.sz, Dz D_coin (orB (orB S0 B_leaves_0) B_made_1) w0.heap.size (orB B2276 B2271) (ds2275 ++ [(rdx E_coin ds2270 0)]) l2578, Dz D_coin (orB (orB S0 B_leaves_0) B_made_1) w0.heap.size B2271 [(rdx E_coin ds2270 0)] [(rdp (Co.leaf 0 0) l2272 0)], .own A2571 c2572 (rowC E_coin [(rdx E_coin ds2270 0)]) 69 E_coin.sz, Dz D_coin (orB (orB S0 B_leaves_0) B_made_1) w0.heap.size B2271 [(rdx E_coin ds2270 0)] [(rdp (Co.leaf 0 0) l2272 0)]] := (((HS2557.backD [8] HS2585 (Pv.backG (Pv.own (Pv.own (Pv.per (HS2585.dz (i := 2) rfl).1 (Pv.per (HS2585.dz (i := 3) rfl).1 Pv.nil)))) (fun b => (fun hb => Or.elim hb (fun hb => Or.elim hb (fun hb => Or.elim hb (fun hb => Or.elim hb (fun hb => Or.elim hb (fun hb => Or.elim hb (fun hb => .inl hb) (fun hb => .inr ⟨_, _, nth_mem (i := 1) rfl, hb⟩)) (fun hb => .inr ⟨_, _, nth_mem (i := 3) rfl, hb⟩)) (fun hb => .inr ⟨_, _, nth_mem (i := 5) rfl, hb⟩)) (fun hb => .inr ⟨_, _, nth_mem (i := 7) rfl, hb⟩)) (fun hb => .inr ⟨_, _, nth_mem (i := 9) rfl, hb⟩)) (fun hb => .inr ⟨_, _, nth_mem (i := 10) rfl, hb⟩))))).sel [0, 1, 2, 3, 4, 5, 6, 7, 11, 13, 10, 12, 14] rfl).dzProv (i := 9) rfl (fun b hb _ => Or.elim hb (fun hb => Or.elim hb (fun hb => Or.elim hb (fun hb => Or.elim hb (fun hb => Or.elim hb (fun hb => Or.elim hb (fun hb => Or.elim hb (fun hb => (HS2557.mine _ (feet_pick_le hb)).elim (hSF _) .inr) (fun hb => (HS2557.dz (i := 1) rfl).1 _ hb)) (fun hb => (HS2557.dz (i := 3) rfl).1 _ hb)) (fun hb => (HS2557.dz (i := 5) rfl).1 _ hb)) (fun hb => (HS2557.dz (i := 7) rfl).1 _ hb)) (fun hb => (HS2557.dz (i := 9) rfl).1 _ hb)) (fun hb => (HS2557.dz (i := 10) rfl).1 _ hb)) (fun h => .inr (Nat.le_trans HS2557.chg.size h)))).dzProv (i := 12) rfl (fun b hb _ => Or.elim hb (fun hb => Or.elim hb (fun hb => Or.elim hb (fun hb => Or.elim hb (fun hb => Or.elim hb (fun hb => Or.elim hb (fun hb => Or.elim hb (fun hb => (HS2557.mine _ (feet_pick_le hb)).elim (hSF _) .inr) (fun hb => (HS2557.dz (i := 1) rfl).1 _ hb)) (fun hb => (HS2557.dz (i := 3) rfl).1 _ hb)) (fun hb => (HS2557.dz (i := 5) rfl).1 _ hb)) (fun hb => (HS2557.dz (i := 7) rfl).1 _ hb)) (fun hb => (HS2557.dz (i := 9) rfl).1 _ hb)) (fun hb => (HS2557.dz (i := 10) rfl).1 _ hb)) (fun h => .inr (Nat.le_trans HS2557.chg.size h)))
                refine T_done (by kernel_rfl) ?_
                have HS2587 : Hp S0 w0 w2576 [.rd A_leaves_0 (rowC E_coin ds_leaves_0), Dz D_coin (orB (orB S0 B_leaves_0) B_made_1) w0.heap.size B_leaves_0 ds_leaves_0 l_leaves_0, .rd A_made_1 (rowC E_coin ds_made_1), Dz D_coin (orB (orB S0 B_leaves_0) B_made_1) w0.heap.size B_made_1 ds_made_1 l_made_1, Rdc l2267.length c2264 A2263 (rowC E_coin ds2265), Dz D_coin (orB (orB S0 B_leaves_0) B_made_1) w0.heap.size B2266 ds2265 l2267, Rdc l2272.length c2269 A2268 (rowC E_coin ds2270), Dz D_coin (orB (orB S0 B_leaves_0) B_made_1) w0.heap.size B2271 ds2270 l2272, .own A2581 c2582 (rowC E_coin (ds2275 ++ [(rdx E_coin ds2270 0)])) 69 E_coin.sz, Dz D_coin (orB (orB S0 B_leaves_0) B_made_1) w0.heap.size (orB B2276 B2271) (ds2275 ++ [(rdx E_coin ds2270 0)]) l2578, Dz D_coin (orB (orB S0 B_leaves_0) B_made_1) w0.heap.size B2271 [(rdx E_coin ds2270 0)] [(rdp (Co.leaf 0 0) l2272 0)], .own A2571 c2572 (rowC E_coin [(rdx E_coin ds2270 0)]) 69 E_coin.sz, Dz D_coin (orB (orB S0 B_leaves_0) B_made_1) w0.heap.size B2271 [(rdx E_coin ds2270 0)] [(rdp (Co.leaf 0 0) l2272 0)], Rdc (l2272.drop (1 : Int).toNat).length (c2269 - (1 : Int).toNat) (frmA A2268 c2269 (1 : Int).toNat E_coin.sz) (rowC E_coin (ds2270.drop (1 : Int).toNat))] := HS2584.rdcSub (i := 6) rfl (Sub.trans (HS2584.cells_rdc (i := 6) rfl).self (sub_frm (l := (1 : Int).toNat) (HS2584.cells_rdc (i := 6) rfl) (dz_cap (HS2584.dze (i := 7) rfl) (HS2584.rdc_cap (i := 6) rfl)))) (drop_cap (HS2584.rdc_cap (i := 6) rfl))
                have HS2589 : Hp S0 w0 w2576 [.rd A_leaves_0 (rowC E_coin ds_leaves_0), Dz D_coin (orB (orB S0 B_leaves_0) B_made_1) w0.heap.size B_leaves_0 ds_leaves_0 l_leaves_0, .rd A_made_1 (rowC E_coin ds_made_1), Dz D_coin (orB (orB S0 B_leaves_0) B_made_1) w0.heap.size B_made_1 ds_made_1 l_made_1, Rdc l2267.length c2264 A2263 (rowC E_coin ds2265), Dz D_coin (orB (orB S0 B_leaves_0) B_made_1) w0.heap.size B2266 ds2265 l2267, Rdc l2272.length c2269 A2268 (rowC E_coin ds2270), Dz D_coin (orB (orB S0 B_leaves_0) B_made_1) w0.heap.size B2271 ds2270 l2272, .own A2581 c2582 (rowC E_coin (ds2275 ++ [(rdx E_coin ds2270 0)])) 69 E_coin.sz, Dz D_coin (orB (orB S0 B_leaves_0) B_made_1) w0.heap.size (orB B2276 B2271) (ds2275 ++ [(rdx E_coin ds2270 0)]) l2578, Dz D_coin (orB (orB S0 B_leaves_0) B_made_1) w0.heap.size B2271 [(rdx E_coin ds2270 0)] [(rdp (Co.leaf 0 0) l2272 0)], .own A2571 c2572 (rowC E_coin [(rdx E_coin ds2270 0)]) 69 E_coin.sz, Dz D_coin (orB (orB S0 B_leaves_0) B_made_1) w0.heap.size B2271 [(rdx E_coin ds2270 0)] [(rdp (Co.leaf 0 0) l2272 0)], Rdc (l2272.drop (1 : Int).toNat).length (c2269 - (1 : Int).toNat) (frmA A2268 c2269 (1 : Int).toNat E_coin.sz) (rowC E_coin (ds2270.drop (1 : Int).toNat)), Dz D_coin (orB (orB S0 B_leaves_0) B_made_1) w0.heap.size B2271 (ds2270.drop (1 : Int).toNat) (l2272.drop (1 : Int).toNat)] := HS2587.dzSub (i := 7) rfl (dz_dropT dz_self (1 : Int).toNat) (dze_drop (1 : Int).toNat (HS2584.dze (i := 7) rfl))
                refine L_nil (fun a ha => hNj2336 a _ ⟨_, _, _, _, _, _, _, _, _, _, _, _, _, _, _, (Option.some.inj H).symm, Is.cons ha (Is.cons ha (Is.cons ha (Is.nil ha) rfl) rfl) rfl, HS2589.sel [0, 1, 2, 3, 4, 5, 13, 14, 8, 9] rfl⟩)
            · obtain ⟨l2464, l2469, l2474, A2460, c2461, ds2462, B2463, A2465, c2466, ds2467, B2468, A2470, c2471, ds2472, B2473, rfl, ha, HS2591⟩ := hR
              refine wpLF_app ?_ ha
              refine L_endB hN2285 ?_
              refine L_nil (fun a ha => hNp2262 _ a _ (Nat.lt_succ_self _) ⟨_, _, _, _, _, _, _, _, _, _, _, _, _, _, _, Is.cons ha (Is.cons ha (Is.cons ha (Is.nil ha) rfl) rfl) rfl, HS2591.sel [0, 1, 2, 3, 4, 5, 6, 7, 8, 9] rfl, H⟩)
        · have H := of_neg H c2284
          refine L_exitB (fun a w h => hOp2262 (.exit 0) a w rfl (hXb1302 a w h)) ?_
          refine L_nil (fun a ha => hNj6 a _ ⟨_, _, _, _, _, (Option.some.inj H).symm, Is.cons ha (Is.nil ha) rfl, HS2279.sel [0, 1, 2, 3, 8, 9] rfl⟩)
  · obtain ⟨l1301, A1297, c1298, ds1299, B1300, ej, ha, HS2593⟩ := hR
    obtain rfl := ej.symm
    refine wpLF_app ?_ ha
    refine L_seq ?_
    refine L_region ?_
    refine F_val rfl rfl rfl (O_move rfl rfl) ?_
    refine F_val rfl rfl rfl (O_assign rfl rfl) ?_
    refine F_nil ?_
    refine L_ret (fun a ha => (post_ret1 ha rfl rfl ?_))
    obtain rfl := Option.some.inj H
    exact ⟨_, _, _, _, rfl, HS2593.sel [4, 5] rfl⟩

/-! function 52: (valise/build.coin).into -/
theorem build_coin_into.aux : ∀ (d : DC) {S0 : Nat → Prop} {w0 : World} {A : Option Addr} {c : Nat} {B : Nat → Prop} {l r : List Int} (HS0 : Hp S0 w0 w0 [.own A c (rowC (Eint .i64) l) 3 (Eint .i64).sz, Dz D_coin anyB 0 B [d] [d.er]]) (h : build_coin_into.f d.er l = some r),
    Calls Try.prog 52 ([.agg (E_coin.enc d).toArray, .slice A l.length c] : List Value).toArray w0 (fun e w => e = .returned (.tuple #[]) ∧ Hp S0 w0 w [.own A c (rowC (Eint .i64) r) 3 (Eint .i64).sz] ∧ r.length = l.length)
  | .leaf x s, S0, w0, A, c, B, l, r, HS0, h => by
    obtain ⟨⟨g1, g2⟩, H⟩ := of_gd h
    refine calls_start Try.func52 rfl rfl ?_
    refine L_seq ?_
    refine L_region ?_
    refine F_box (C := [.int .i64 x, .int .i64 s, .pointer none]) rfl rfl rfl rfl rfl rfl HS0 (fun w1 g3 HS1 => ?_)
    refine F_nil ?_
    refine L_seq ?_
    refine L_seq ?_
    refine L_region ?_
    refine F_val rfl rfl rfl (O_fieldB rfl rfl field69_2) ?_
    refine F_val rfl rfl rfl (O_loadB rfl rfl flat67 (HS1.cells_box (i := 2) rfl) rfl) ?_
    refine F_val rfl rfl rfl (O_peq rfl rfl rfl Try.underlying67) ?_
    refine F_nil ?_
    refine L_cond rfl (fun _ => ?_) (fun hx => by cases hx)
    refine L_seq ?_
    refine L_region ?_
    refine F_val rfl rfl rfl (O_move rfl rfl) ?_
    refine F_val rfl rfl rfl (O_fieldB rfl rfl field69_1) ?_
    refine F_val rfl rfl rfl (O_loadB rfl rfl flat3 (HS1.cells_box (i := 2) rfl) rfl) ?_
    refine F_val rfl rfl rfl (O_idx rfl rfl rfl Try.underlying22 size3 g1 g2 (Cells.isA (HS1.cells_own (i := 0) rfl) (rowC_ne (E := (Eint .i64)) g1 g2 (by decide)))) ?_
    refine F_val rfl rfl rfl (O_loadC rfl rfl flat3 (HS1.cells_own (i := 0) rfl) (int_cell g1 g2)) ?_
    refine F_val rfl rfl rfl (O_add rfl rfl rfl) ?_
    refine F_val rfl rfl rfl (O_idx rfl rfl rfl Try.underlying22 size3 g1 g2 (Cells.isA (HS1.cells_own (i := 0) rfl) (rowC_ne (E := (Eint .i64)) g1 g2 (by decide)))) ?_
    refine F_setE (E := (Eint .i64)) (i := 0) (a := IntKind.i64.wrap (rd l s + 1)) (q := s) rfl rfl rfl rfl rfl rfl size3 HS1 rfl (by decide) g1 g2 rfl (fun w2 HS2 => ?_)
    refine F_nil ?_
    refine L_ret (fun a ha => (post_ret0 ha rfl ?_))
    obtain rfl := Option.some.inj H
    exact ⟨rfl, HS2.sel [0] rfl, by rw [List.length_set]⟩
  | .pack x s g a b, S0, w0, A, c, B, l, r, HS0, h => by
    obtain ⟨l1, h1, h2⟩ := of_bind h
    have hI := HS0.dz (i := 1) rfl
    have hfr := hI.2.2.1 _ (List.mem_singleton.2 rfl)
    have hbl := hI.2.2.2 _ (List.mem_singleton.2 rfl)
    have hdis := HS0.per _ _ (nth_mem (i := 1) rfl)
    have hB := (HS0.ok _ (nth_mem (i := 1) rfl)).2.1
    -- the pair, and the two of it, as pieces of their own
    have HSa := HS0.addPer (B := blk (some ⟨g, 0, none⟩) (E_coin.enc a ++ E_coin.enc b)) (I := Cells (some ⟨g, 0, none⟩) (E_coin.enc a ++ E_coin.enc b)) hfr.1.per (fun k hk => by
      obtain ⟨_, ad, e1, e2⟩ := hk
      cases e1
      exact hdis k (hbl k (.inl e2.symm)))
    have HSb := HSa.addPer (B := B) (I := DzI D_coin anyB 0 B [a] [a.er]) (Dz.mk ⟨fun _ _ => .inl trivial, rfl, fun d hd => by simp only [List.mem_singleton] at hd; subst hd; exact hfr.2.1, fun d hd k hk => by simp only [List.mem_singleton] at hd; subst hd; exact hbl k (.inr (.inl hk))⟩ hB) (fun k hk hf => HSa.per _ _ (nth_mem (i := 1) rfl) k hk hf)
    have HS1 := HSb.addPer (B := B) (I := DzI D_coin anyB 0 B [b] [b.er]) (Dz.mk ⟨fun _ _ => .inl trivial, rfl, fun d hd => by simp only [List.mem_singleton] at hd; subst hd; exact hfr.2.2, fun d hd k hk => by simp only [List.mem_singleton] at hd; subst hd; exact hbl k (.inr (.inr hk))⟩ hB) (fun k hk hf => HSb.per _ _ (nth_mem (i := 1) rfl) k hk hf)
    have HS2 : Hp S0 w0 w0 [.own A c (rowC (Eint .i64) l) 3 (Eint .i64).sz, .rd (some ⟨g, 0, none⟩) (E_coin.enc a ++ E_coin.enc b), Dz D_coin anyB 0 B [a] [a.er], Dz D_coin anyB 0 B [b] [b.er]] := HS1.sel [0, 2, 3, 4] rfl
    refine calls_start Try.func52 rfl rfl ?_
    refine L_seq ?_
    refine L_region ?_
    refine F_box (C := [.int .i64 x, .int .i64 s, .pointer (some ⟨g, 0, none⟩)]) rfl rfl rfl rfl rfl rfl HS2 (fun w1 g3 HS3 => ?_)
    refine F_nil ?_
    refine L_seq ?_
    refine L_seq ?_
    refine L_region ?_
    refine F_val rfl rfl rfl (O_fieldB rfl rfl field69_2) ?_
    refine F_val rfl rfl rfl (O_loadB rfl rfl flat67 (HS3.cells_box (i := 4) rfl) rfl) ?_
    refine F_val rfl rfl rfl (O_peq rfl rfl rfl Try.underlying67) ?_
    refine F_nil ?_
    refine L_cond rfl (fun hx => by cases hx) (fun _ => ?_)
    refine L_skip ?_
    refine L_seq ?_
    refine L_region ?_
    refine F_val rfl rfl rfl (O_fieldB rfl rfl field69_2) ?_
    refine F_val rfl rfl rfl (O_loadB rfl rfl flat67 (HS3.cells_box (i := 4) rfl) rfl) ?_
    refine F_val rfl rfl rfl (O_nilCheck rfl rfl) ?_
    refine F_val rfl rfl rfl (O_idxA rfl rfl rfl Try.underlying99 size69 (by decide) (by decide)) ?_
    refine F_val rfl rfl rfl (O_loadSg [] (E_coin.enc a) (E_coin.enc b) rfl rfl wide69 (HS3.cells_rd (i := 1) rfl) rfl rfl rfl (by decide)) ?_
    refine F_val rfl rfl rfl (O_move rfl rfl) ?_
    refine F_call (xs := [.tmp 18, .tmp 19]) rfl rfl rfl rfl Try.func52 nm52 rfl rfl ((build_coin_into.aux a (HS3.give [0] rfl (Lent.dz HS3 Lent.nil (i := 2) rfl dz_self (HS3.dze (i := 2) rfl))) h1).mono (fun e w hc => ?_))
    obtain ⟨rfl, HSo, hl1⟩ := hc
    refine ⟨.tuple #[], rfl, ?_⟩
    have HS4 : Hp S0 w0 w [.own A c (rowC (Eint .i64) l1) 3 (Eint .i64).sz, .rd (some ⟨g, 0, none⟩) (E_coin.enc a ++ E_coin.enc b), Dz D_coin anyB 0 B [a] [a.er], Dz D_coin anyB 0 B [b] [b.er], .box g3 [.int .i64 x, .int .i64 s, .pointer (some ⟨g, 0, none⟩)] 69] := (HS3.back [0] HSo rfl).sel [5, 1, 2, 3, 4] rfl
    refine F_know (i := 1) rfl (congrArg (fun n => Value.slice A n c) hl1.symm) ?_
    refine F_nil ?_
    refine L_region ?_
    refine F_val rfl rfl rfl (O_fieldB rfl rfl field69_2) ?_
    refine F_val rfl rfl rfl (O_loadB rfl rfl flat67 (HS4.cells_box (i := 4) rfl) rfl) ?_
    refine F_val rfl rfl rfl (O_nilCheck rfl rfl) ?_
    refine F_val rfl rfl rfl (O_idxA rfl rfl rfl Try.underlying99 size69 (by decide) (by decide)) ?_
    refine F_val rfl rfl rfl (O_loadSg (E_coin.enc a) (E_coin.enc b) [] rfl rfl wide69 (HS4.cells_rd (i := 1) rfl) (List.append_nil _).symm rfl rfl (by decide)) ?_
    refine F_val rfl rfl rfl (O_move rfl rfl) ?_
    refine F_call (xs := [.tmp 25, .tmp 26]) rfl rfl rfl rfl Try.func52 nm52 rfl rfl ((build_coin_into.aux b (HS4.give [0] rfl (Lent.dz HS4 Lent.nil (i := 3) rfl dz_self (HS4.dze (i := 3) rfl))) h2).mono (fun e w' hc => ?_))
    obtain ⟨rfl, HSo2, hl2⟩ := hc
    refine ⟨.tuple #[], rfl, ?_⟩
    have HS5 := (HS4.back [0] HSo2 rfl).sel [5] rfl
    refine F_nil ?_
    refine L_nil (fun a ha => post_end0 ha rfl ?_)
    exact ⟨rfl, HS5, hl2.trans hl1⟩
theorem build_coin_into.calls {S0 : Nat → Prop} {w0 : World} {A : Option Addr} {c : Nat} {B : Nat → Prop} {d : DC} {x : Co} {l r : List Int} (HS0 : Hp S0 w0 w0 [.own A c (rowC (Eint .i64) l) 3 (Eint .i64).sz, Dz D_coin anyB 0 B [d] [x]]) (h : build_coin_into.f x l = some r) :
    Calls Try.prog 52 ([.agg (E_coin.enc d).toArray, .slice A l.length c] : List Value).toArray w0 (fun e w => e = .returned (.tuple #[]) ∧ Hp S0 w0 w [.own A c (rowC (Eint .i64) r) 3 (Eint .i64).sz] ∧ r.length = l.length) := by
  have e : d.er = x := one_er (HS0.dz (i := 1) rfl).2.1
  subst e
  exact build_coin_into.aux d HS0 h

/-! function 28: valise/build.Limited -/
theorem build_Limited.calls {S0 : Nat → Prop} {w0 : World} {A_freq_0 : Option Addr} {c_freq_0 : Nat} {l_freq_0 : List Int} {limit_1 : Int} {r : List Int × Int} (HS0 : Hp S0 w0 w0 [.rd A_freq_0 (rowC (Eint .i64) l_freq_0)]) (hc_freq_0 : l_freq_0.length ≤ c_freq_0) (h : build_Limited.f l_freq_0 limit_1 = some r) :
    Calls Try.prog 28 ([.slice A_freq_0 l_freq_0.length c_freq_0, .int .i64 limit_1] : List Value).toArray w0 (fun e w => ∃ (A1 : Option Addr), ∃ (c1 : Nat), e = .returned (.tuple #[.slice A1 r.1.length c1, .int .i64 r.2]) ∧ Hp S0 w0 w [.own A1 c1 (rowC (Eint .i64) r.1) 3 (Eint .i64).sz]) := by
  have H : ((if (limit_1 < 1) ∨ (15 < limit_1) then (some (([] : List Int), 1)) else ((build_used.f l_freq_0).bind fun (z16, z17) => if z17 ≠ 0 then (some (([] : List Int), z17)) else (gd (¬ (IntKind.u64.wrap limit_1) < 0) (if shl .i64 1 (IntKind.u64.wrap limit_1) < (z16.length : Int) then (some (([] : List Int), 60)) else (if (z16.length : Int) < 2 then ((build_few.f (l_freq_0.length : Int) z16).bind fun z37 => some (z37, 0)) else ((slices_Clone_int_int.f z16).bind fun z47 => (slices_SortStableFunc_int_int_cbuild_Limited_1.f z47 l_freq_0).bind fun z57 => (build_Limited.l1 FU ([] : List Co) 0 l_freq_0 z57).bind fun l164 => (build_Limited.l3 FU l164 0 limit_1 l164).bind fun l406 => gd ((0 : Int) ≤ (l_freq_0.length : Int) ∧ (l_freq_0.length : Int) * 8 ≤ 281474976710656) (bnd (List.replicate ((l_freq_0.length : Int) : Int).toNat (0 : Int)) fun l554 => gd ((0 : Int) ≤ (IntKind.i64.wrap ((IntKind.i64.wrap (2 * (z16.length : Int))) - 2)) ∧ (IntKind.i64.wrap ((IntKind.i64.wrap (2 * (z16.length : Int))) - 2)) ≤ (l406.length : Int)) ((build_Limited.l5 FU l554 0 z16 l406).bind fun l636 => some (l636, 0))))))))) : Option (List Int × Int)) = some r := h
  refine calls_start Try.func28 rfl rfl ?_
  have hSF : ∀ b, S0 b → S0 b ∨ w0.heap.size ≤ b := (fun b hb => .inl hb)
  refine L_seq ?_
  refine L_region ?_
  refine F_box (C := [.slice A_freq_0 l_freq_0.length c_freq_0]) rfl rfl rfl rfl rfl rfl HS0 (fun w1 g3 HS2 => ?_)
  have HS2 : Hp S0 w0 w1 [.rd A_freq_0 (rowC (Eint .i64) l_freq_0), .box g3 [.slice A_freq_0 l_freq_0.length c_freq_0] 22] := HS2
  refine F_val rfl rfl rfl (O_assign rfl rfl) ?_
  refine F_val rfl rfl rfl (O_assign rfl rfl) ?_
  refine F_nil ?_
  refine L_seq ?_
  refine L_seq ?_
  refine L_region ?_
  refine F_val rfl rfl rfl (O_move rfl rfl) ?_
  refine F_val rfl rfl rfl (O_lt rfl rfl rfl) ?_
  refine F_val rfl rfl rfl (O_move rfl rfl) ?_
  refine F_grp 3 [(21, .bool (decide ((limit_1 < 1) ∨ (15 < limit_1)))), (1, .int .i64 limit_1), (2, .pointer (some ⟨g3, 0, none⟩))] ?_ ?_
  · rcases Decidable.em (limit_1 < 1) with c8 | c8
    · refine F_know (i := 18) rfl (dec_t c8) ?_
      refine F_gskip rfl rfl rfl rfl rfl rfl rfl ?_
      refine F_gskip rfl rfl rfl rfl rfl rfl rfl ?_
      refine F_val rfl rfl rfl (O_pickT rfl rfl rfl) ?_
      refine F_know (i := 21) rfl (dec_or_t (q := 15 < limit_1) c8) ?_
      exact F_grpE (fun a ha => Is.cons ha (Is.cons ha (Is.cons ha (Is.nil ha) rfl) rfl) rfl)
    · refine F_know (i := 18) rfl (dec_f c8) ?_
      refine F_gval rfl rfl rfl rfl rfl rfl (O_move rfl rfl) ?_
      refine F_gval rfl rfl rfl rfl rfl rfl (O_gt rfl rfl rfl) ?_
      refine F_val rfl rfl rfl (O_pickF rfl rfl rfl) ?_
      refine F_know (i := 21) rfl (dec_or_f (q := 15 < limit_1) c8) ?_
      exact F_grpE (fun a ha => Is.cons ha (Is.cons ha (Is.cons ha (Is.nil ha) rfl) rfl) rfl)
  · skip
    refine F_nil ?_
    refine L_condP rfl (fun c9 => ?_) (fun c9 => ?_)
    · have H := of_pos H c9
      refine L_seq ?_
      refine L_region ?_
      refine F_val rfl rfl rfl (O_assign rfl rfl) ?_
      refine F_val rfl rfl rfl (O_assign rfl rfl) ?_
      refine F_nil ?_
      have HS10 := HS2.addNil 3 (Eint .i64).sz
      refine L_ret (fun a ha => (post_ret2 ha rfl rfl rfl ?_))
      obtain rfl := Option.some.inj H
      exact ⟨_, _, rfl, HS10.sel [2] rfl⟩
    · have H := of_neg H c9
      refine L_skip ?_
      refine L_seq ?_
      refine L_region ?_
      refine F_val rfl rfl rfl (O_loadB rfl rfl flat22 (HS2.cells_box (i := 1) rfl) rfl) ?_
      obtain ⟨⟨z16, z17⟩, h15, H⟩ := of_bind H
      refine F_call (xs := [.tmp 23]) rfl rfl rfl rfl Try.func35 nm35 rfl rfl ((build_used.calls (HS2.give [] rfl (Lent.rd HS2 (Lent.nil) (i := 0) rfl ((HS2.cells_rd (i := 0) rfl).self))) hc_freq_0 h15).mono (fun e w hc => ?_))
      obtain ⟨A20, c21, rfl, HSo⟩ := hc
      refine ⟨.tuple #[.slice A20 z16.length c21, .int .i64 z17], rfl, ?_⟩
      have HS19 : Hp S0 w0 w [.rd A_freq_0 (rowC (Eint .i64) l_freq_0), .box g3 [.slice A_freq_0 l_freq_0.length c_freq_0] 22, .own A20 c21 (rowC (Eint .i64) z16) 3 (Eint .i64).sz] := (HS2.back [] HSo rfl).sel [0, 1, 2] rfl
      refine F_val rfl rfl rfl (O_move rfl rfl) ?_
      refine F_val rfl rfl rfl (O_extract (v := .slice A20 z16.length c21) rfl rfl rfl) ?_
      refine F_val rfl rfl rfl (O_extract (v := .int .i64 z17) rfl rfl rfl) ?_
      refine F_val rfl rfl rfl (O_assign rfl rfl) ?_
      refine F_val rfl rfl rfl (O_assign rfl rfl) ?_
      refine F_nil ?_
      refine L_seq ?_
      refine L_seq ?_
      refine L_region ?_
      refine F_val rfl rfl rfl (O_move rfl rfl) ?_
      refine F_val rfl rfl rfl (O_ne rfl rfl rfl) ?_
      refine F_nil ?_
      refine L_condP rfl (fun c23 => ?_) (fun c23 => ?_)
      · have H := of_pos H c23
        refine L_seq ?_
        have HS24 : Hp S0 w0 w [.rd A_freq_0 (rowC (Eint .i64) l_freq_0)] := HS19.sel [0] rfl
        refine L_region ?_
        refine F_val rfl rfl rfl (O_move rfl rfl) ?_
        refine F_val rfl rfl rfl (O_assign rfl rfl) ?_
        refine F_val rfl rfl rfl (O_assign rfl rfl) ?_
        refine F_nil ?_
        have HS25 := HS24.addNil 3 (Eint .i64).sz
        refine L_ret (fun a ha => (post_ret2 ha rfl rfl rfl ?_))
        obtain rfl := Option.some.inj H
        exact ⟨_, _, rfl, HS25.sel [1] rfl⟩
      · have H := of_neg H c23
        refine L_skip ?_
        refine L_seq ?_
        refine L_seq ?_
        refine L_region ?_
        refine F_val rfl rfl rfl (O_move rfl rfl) ?_
        refine F_val rfl rfl rfl (O_len rfl rfl Try.underlying22) ?_
        refine F_val rfl rfl rfl (O_move rfl rfl) ?_
        refine F_val rfl rfl rfl (O_conv rfl rfl ⟨_, Try.underlying3⟩ Try.underlying43) ?_
        obtain ⟨g27, H⟩ := of_gd H
        refine F_val rfl rfl rfl (O_shl rfl rfl rfl g27) ?_
        refine F_val rfl rfl rfl (O_gt rfl rfl rfl) ?_
        refine F_nil ?_
        refine L_condP rfl (fun c28 => ?_) (fun c28 => ?_)
        · have H := of_pos H c28
          refine L_seq ?_
          have HS29 : Hp S0 w0 w [.rd A_freq_0 (rowC (Eint .i64) l_freq_0)] := HS19.sel [0] rfl
          refine L_region ?_
          refine F_val rfl rfl rfl (O_assign rfl rfl) ?_
          refine F_val rfl rfl rfl (O_assign rfl rfl) ?_
          refine F_nil ?_
          have HS30 := HS29.addNil 3 (Eint .i64).sz
          refine L_ret (fun a ha => (post_ret2 ha rfl rfl rfl ?_))
          obtain rfl := Option.some.inj H
          exact ⟨_, _, rfl, HS30.sel [1] rfl⟩
        · have H := of_neg H c28
          refine L_skip ?_
          refine L_seq ?_
          refine L_seq ?_
          refine L_region ?_
          refine F_val rfl rfl rfl (O_move rfl rfl) ?_
          refine F_val rfl rfl rfl (O_len rfl rfl Try.underlying22) ?_
          refine F_val rfl rfl rfl (O_lt rfl rfl rfl) ?_
          refine F_nil ?_
          refine L_condP rfl (fun c32 => ?_) (fun c32 => ?_)
          · have H := of_pos H c32
            refine L_seq ?_
            refine L_region ?_
            refine F_val rfl rfl rfl (O_loadB rfl rfl flat22 (HS19.cells_box (i := 1) rfl) rfl) ?_
            refine F_val rfl rfl rfl (O_len rfl rfl Try.underlying22) ?_
            refine F_val rfl rfl rfl (O_move rfl rfl) ?_
            obtain ⟨z37, h36, H⟩ := of_bind H
            refine F_call (xs := [.tmp 40, .tmp 41]) rfl rfl rfl rfl Try.func37 nm37 rfl rfl ((build_few.calls (HS19.give [] rfl (Lent.own HS19 (Lent.nil) (i := 2) rfl rfl ((HS19.cells_own (i := 2) rfl).self))) (HS19.own_capE (i := 2) rfl (by decide)) h36).mono (fun e w hc => ?_))
            obtain ⟨A40, c41, rfl, HSo⟩ := hc
            refine ⟨.slice A40 z37.length c41, rfl, ?_⟩
            have HS39 : Hp S0 w0 w [.rd A_freq_0 (rowC (Eint .i64) l_freq_0), .box g3 [.slice A_freq_0 l_freq_0.length c_freq_0] 22, .own A20 c21 (rowC (Eint .i64) z16) 3 (Eint .i64).sz, .own A40 c41 (rowC (Eint .i64) z37) 3 (Eint .i64).sz] := (HS19.back [] HSo rfl).sel [0, 1, 2, 3] rfl
            refine F_val rfl rfl rfl (O_assign rfl rfl) ?_
            refine F_val rfl rfl rfl (O_assign rfl rfl) ?_
            refine F_nil ?_
            refine L_ret (fun a ha => (post_ret2 ha rfl rfl rfl ?_))
            obtain rfl := Option.some.inj H
            exact ⟨_, _, rfl, HS39.sel [3] rfl⟩
          · have H := of_neg H c32
            refine L_skip ?_
            refine L_seq ?_
            refine L_region ?_
            refine F_val rfl rfl rfl (O_move rfl rfl) ?_
            obtain ⟨z47, h46, H⟩ := of_bind H
            refine F_call (xs := [.tmp 43]) rfl rfl rfl rfl Try.func46 nm46 rfl rfl ((slices_Clone_int_int.calls (HS19.give [] rfl (Lent.own HS19 (Lent.nil) (i := 2) rfl rfl ((HS19.cells_own (i := 2) rfl).self))) (HS19.own_capE (i := 2) rfl (by decide)) h46).mono (fun e w hc => ?_))
            obtain ⟨A50, c51, rfl, HSo⟩ := hc
            refine ⟨.slice A50 z47.length c51, rfl, ?_⟩
            have HS49 : Hp S0 w0 w [.rd A_freq_0 (rowC (Eint .i64) l_freq_0), .box g3 [.slice A_freq_0 l_freq_0.length c_freq_0] 22, .own A20 c21 (rowC (Eint .i64) z16) 3 (Eint .i64).sz, .own A50 c51 (rowC (Eint .i64) z47) 3 (Eint .i64).sz] := (HS19.back [] HSo rfl).sel [0, 1, 2, 3] rfl
            refine F_val rfl rfl rfl (O_assign rfl rfl) ?_
            refine F_nil ?_
            refine L_seq ?_
            refine L_region ?_
            refine F_val rfl rfl rfl (O_move rfl rfl) ?_
            refine F_val rfl rfl rfl (O_makeFunc (cs := [.tmp 2]) rfl rfl) ?_
            obtain ⟨z57, h56, H⟩ := of_bind H
            refine F_call (xs := [.tmp 45, .tmp 46]) rfl rfl rfl rfl Try.func47 nm47 rfl rfl ((slices_SortStableFunc_int_int_cbuild_Limited_1.calls (HS49.give [3] rfl (Lent.box HS49 (Lent.rd HS49 (Lent.nil) (i := 0) rfl ((HS49.cells_rd (i := 0) rfl).self)) (i := 1) rfl rfl (HS49.cells_box (i := 1) rfl).self)) hc_freq_0 h56).mono (fun e w hc => ?_))
            obtain ⟨rfl, HSo, hl60⟩ := hc
            refine ⟨.tuple #[], rfl, ?_⟩
            have HS59 : Hp S0 w0 w [.rd A_freq_0 (rowC (Eint .i64) l_freq_0), .box g3 [.slice A_freq_0 l_freq_0.length c_freq_0] 22, .own A20 c21 (rowC (Eint .i64) z16) 3 (Eint .i64).sz, .own A50 c51 (rowC (Eint .i64) z57) 3 (Eint .i64).sz] := (HS49.back [3] HSo rfl).sel [0, 1, 2, 4] rfl
            have e61 : z47.length = z57.length := hl60.symm
            refine F_know (i := 8) rfl (congrArg (fun n => Value.slice A50 n c51) e61) ?_
            refine F_nil ?_
            refine L_seq ?_
            refine L_region ?_
            refine F_val rfl rfl rfl (O_assign rfl rfl) ?_
            have HS62 := (HS59.addNil 69 E_coin.sz).dzNil D_coin S0 w0.heap.size
            have HS62 : Hp S0 w0 w [.rd A_freq_0 (rowC (Eint .i64) l_freq_0), .box g3 [.slice A_freq_0 l_freq_0.length c_freq_0] 22, .own A20 c21 (rowC (Eint .i64) z16) 3 (Eint .i64).sz, .own A50 c51 (rowC (Eint .i64) z57) 3 (Eint .i64).sz, .own none 0 (rowC E_coin ([] : List DC)) 69 E_coin.sz, Dz D_coin S0 w0.heap.size NoB ([] : List DC) ([] : List Co)] := HS62
            refine F_nil ?_
            refine L_seq ?_
            refine L_seq ?_
            refine L_region ?_
            refine F_val rfl rfl rfl (O_move rfl rfl) ?_
            refine F_val rfl rfl rfl (O_len rfl rfl Try.underlying22) ?_
            refine F_val rfl rfl rfl (O_move rfl rfl) ?_
            refine F_nil ?_
            obtain ⟨yj65, Hyj65, H⟩ := of_bind H
            refine L_join (fun a w => ∃ (l164 : List Co), ∃ (A160 : Option Addr), ∃ (c161 : Nat), ∃ (ds162 : List DC), ∃ (B163 : Nat → Prop), yj65 = l164 ∧ Is Try.f28.ntmps a [(1, .int .i64 limit_1), (2, .pointer (some ⟨g3, 0, none⟩)), (6, .slice A20 z16.length c21), (9, .slice A160 l164.length c161)] ∧ Hp S0 w0 w [.rd A_freq_0 (rowC (Eint .i64) l_freq_0), .box g3 [.slice A_freq_0 l_freq_0.length c_freq_0] 22, .own A20 c21 (rowC (Eint .i64) z16) 3 (Eint .i64).sz, .own A160 c161 (rowC E_coin ds162) 69 E_coin.sz, Dz D_coin S0 w0.heap.size B163 ds162 l164]) (fun Qj65 hNj65 hOj65 => ?_) (fun a w hR => ?_)
            · skip
              have H := Hyj65
              refine L_blk (fun Qb165 hNb165 hXb165 hOb165 => ?_)
              refine L_lp (fun k a w => ∃ (l229 : List Co), ∃ (t230 : Int), ∃ (A225 : Option Addr), ∃ (c226 : Nat), ∃ (ds227 : List DC), ∃ (B228 : Nat → Prop), Is Try.f28.ntmps a [(1, .int .i64 limit_1), (2, .pointer (some ⟨g3, 0, none⟩)), (6, .slice A20 z16.length c21), (9, .slice A225 l229.length c226), (48, .slice A50 z57.length c51), (49, .int .i64 (z57.length : Int)), (50, .int .i64 t230)] ∧ Hp S0 w0 w [.rd A_freq_0 (rowC (Eint .i64) l_freq_0), .box g3 [.slice A_freq_0 l_freq_0.length c_freq_0] 22, .own A20 c21 (rowC (Eint .i64) z16) 3 (Eint .i64).sz, .own A225 c226 (rowC E_coin ds227) 69 E_coin.sz, Dz D_coin S0 w0.heap.size B228 ds227 l229, .own A50 c51 (rowC (Eint .i64) z57) 3 (Eint .i64).sz] ∧ build_Limited.l1 k l229 t230 l_freq_0 z57 = some yj65) FU (fun a ha => ⟨_, _, _, _, _, _, Is.cons ha (Is.cons ha (Is.cons ha (Is.cons ha (Is.cons ha (Is.cons ha (Is.cons ha (Is.nil ha) rfl) rfl) rfl) rfl) rfl) rfl) rfl, HS62.sel [0, 1, 2, 4, 5, 3] rfl, H⟩) (fun kp224 a w231 hI Qp224 hNp224 hOp224 => ?_)
              obtain ⟨l229, t230, A225, c226, ds227, B228, ha, HS232, HAp224⟩ := hI
              cases kp224 with
              | zero => cases (show (none : Option _) = some _ from HAp224)
              | succ kp224 =>
                have H := (build_Limited.l1.eq_2 ..).symm.trans HAp224
                refine wpLF_app ?_ ha
                refine L_seq ?_
                refine L_region ?_
                refine F_val rfl rfl rfl (O_lt rfl rfl rfl) ?_
                refine F_nil ?_
                refine L_seq ?_
                refine L_condP rfl (fun c233 => ?_) (fun c233 => ?_)
                · have H := of_pos H c233
                  refine L_skip ?_
                  refine L_seq ?_
                  refine L_blk (fun Q234 hN234 hX234 hO234 => ?_)
                  refine L_seq ?_
                  refine L_region ?_
                  obtain ⟨⟨g235, g236⟩, H⟩ := of_gd H
                  refine F_val rfl rfl rfl (O_idx rfl rfl rfl Try.underlying22 size3 g235 g236 (Cells.isA (HS232.cells_own (i := 5) rfl) (rowC_ne (E := (Eint .i64)) g235 g236 (by decide)))) ?_
                  refine F_val rfl rfl rfl (O_loadC rfl rfl flat3 (HS232.cells_own (i := 5) rfl) (int_cell g235 g236)) ?_
                  obtain ⟨x237, h238, H⟩ := of_bnd H
                  refine F_val rfl rfl rfl (O_assign' rfl rfl (congrArg (Value.int .i64) h238)) ?_
                  refine F_nil ?_
                  refine L_region ?_
                  refine F_val rfl rfl rfl (O_move rfl rfl) ?_
                  refine F_val rfl rfl rfl (O_loadB rfl rfl flat22 (HS232.cells_box (i := 1) rfl) rfl) ?_
                  refine F_val rfl rfl rfl (O_move rfl rfl) ?_
                  obtain ⟨⟨g239, g240⟩, H⟩ := of_gd H
                  refine F_val rfl rfl rfl (O_idx rfl rfl rfl Try.underlying22 size3 g239 g240 (Cells.isA (HS232.cells_rd (i := 0) rfl) (rowC_ne (E := (Eint .i64)) g239 g240 (by decide)))) ?_
                  refine F_val rfl rfl rfl (O_loadC rfl rfl flat3 (HS232.cells_rd (i := 0) rfl) (int_cell g239 g240)) ?_
                  refine F_val rfl rfl rfl (O_move rfl rfl) ?_
                  refine F_val rfl rfl rfl (O_build (vs := [(0, .int .i64 (rd l_freq_0 x237)), (1, .int .i64 x237)]) (v := .agg #[.int .i64 (rd l_freq_0 x237), .int .i64 x237, .pointer none]) rfl rfl rfl (fun w => by kernel_rfl)) ?_
                  have HS244 : Hp S0 w0 w231 [.rd A_freq_0 (rowC (Eint .i64) l_freq_0), .box g3 [.slice A_freq_0 l_freq_0.length c_freq_0] 22, .own A20 c21 (rowC (Eint .i64) z16) 3 (Eint .i64).sz, .own A225 c226 (rowC E_coin ds227) 69 E_coin.sz, Dz D_coin S0 w0.heap.size B228 ds227 l229, .own A50 c51 (rowC (Eint .i64) z57) 3 (Eint .i64).sz, Dz D_coin S0 w0.heap.size NoB [(DC.leaf (rd l_freq_0 x237) x237)] [(Co.leaf (rd l_freq_0 x237) x237)]] := HS232.coLeaf S0 w0.heap.size (rd l_freq_0 x237) x237
                  refine F_litE (E := E_coin) (e := 69) [(0, .agg #[.int .i64 (rd l_freq_0 x237), .int .i64 x237, .pointer none])] [(DC.leaf (rd l_freq_0 x237) x237)] rfl rfl rfl rfl rfl rfl rfl (by decide) (fun w => by kernel_rfl) HS244 (fun w241 A245 c246 HS242 => ?_)
                  have HS242 : Hp S0 w0 w241 [.rd A_freq_0 (rowC (Eint .i64) l_freq_0), .box g3 [.slice A_freq_0 l_freq_0.length c_freq_0] 22, .own A20 c21 (rowC (Eint .i64) z16) 3 (Eint .i64).sz, .own A225 c226 (rowC E_coin ds227) 69 E_coin.sz, Dz D_coin S0 w0.heap.size B228 ds227 l229, .own A50 c51 (rowC (Eint .i64) z57) 3 (Eint .i64).sz, Dz D_coin S0 w0.heap.size NoB [(DC.leaf (rd l_freq_0 x237) x237)] [(Co.leaf (rd l_freq_0 x237) x237)], .own A245 c246 (rowC E_coin [(DC.leaf (rd l_freq_0 x237) x237)]) 69 E_coin.sz] := HS242
                  have HS249 : Hp S0 w0 w241 [.rd A_freq_0 (rowC (Eint .i64) l_freq_0), .box g3 [.slice A_freq_0 l_freq_0.length c_freq_0] 22, .own A20 c21 (rowC (Eint .i64) z16) 3 (Eint .i64).sz, .own A225 c226 (rowC E_coin ds227) 69 E_coin.sz, Dz D_coin S0 w0.heap.size B228 ds227 l229, .own A50 c51 (rowC (Eint .i64) z57) 3 (Eint .i64).sz, Dz D_coin S0 w0.heap.size NoB [(DC.leaf (rd l_freq_0 x237) x237)] [(Co.leaf (rd l_freq_0 x237) x237)], .own A245 c246 (rowC E_coin [(DC.leaf (rd l_freq_0 x237) x237)]) 69 E_coin.sz, Dz D_coin S0 w0.heap.size NoB [(DC.leaf (rd l_freq_0 x237) x237)] [(Co.leaf (rd l_freq_0 x237) x237)]] := HS242.dzSub (i := 6) rfl dz_self (HS242.dze (i := 6) rfl)
                  obtain ⟨l252, h253, H⟩ := of_bnd H
                  obtain ⟨g254, H⟩ := of_gd H
                  refine F_appD (D := D_coin) (ds := ds227) (ds' := [(DC.leaf (rd l_freq_0 x237) x237)]) (xs := l229) (ys := [(Co.leaf (rd l_freq_0 x237) x237)]) (i := 3) rfl rfl rfl rfl Try.underlying66 info69 rfl (by decide) (by decide) rfl rfl HS249 rfl (HS249.dze (i := 4) rfl) (HS249.dze (i := 8) rfl) (HS249.cells_own (i := 7) rfl) h253 g254 (fun w250 A255 c256 HS251 => ?_)
                  have HS251 : Hp S0 w0 w250 [.rd A_freq_0 (rowC (Eint .i64) l_freq_0), .box g3 [.slice A_freq_0 l_freq_0.length c_freq_0] 22, .own A20 c21 (rowC (Eint .i64) z16) 3 (Eint .i64).sz, .own A255 c256 (rowC E_coin (ds227 ++ [(DC.leaf (rd l_freq_0 x237) x237)])) 69 E_coin.sz, Dz D_coin S0 w0.heap.size B228 ds227 l229, .own A50 c51 (rowC (Eint .i64) z57) 3 (Eint .i64).sz, Dz D_coin S0 w0.heap.size NoB [(DC.leaf (rd l_freq_0 x237) x237)] [(Co.leaf (rd l_freq_0 x237) x237)], .own A245 c246 (rowC E_coin [(DC.leaf (rd l_freq_0 x237) x237)]) 69 E_coin.sz, Dz D_coin S0 w0.heap.size NoB [(DC.leaf (rd l_freq_0 x237) x237)] [(Co.leaf (rd l_freq_0 x237) x237)]] := HS251
                  have HS257 : Hp S0 w0 w250 [.rd A_freq_0 (rowC (Eint .i64) l_freq_0), .box g3 [.slice A_freq_0 l_freq_0.length c_freq_0] 22, .own A20 c21 (rowC (Eint .i64) z16) 3 (Eint .i64).sz, .own A255 c256 (rowC E_coin (ds227 ++ [(DC.leaf (rd l_freq_0 x237) x237)])) 69 E_coin.sz, Dz D_coin S0 w0.heap.size (orB B228 NoB) (ds227 ++ [(DC.leaf (rd l_freq_0 x237) x237)]) l252, .own A50 c51 (rowC (Eint .i64) z57) 3 (Eint .i64).sz, Dz D_coin S0 w0.heap.size NoB [(DC.leaf (rd l_freq_0 x237) x237)] [(Co.leaf (rd l_freq_0 x237) x237)], .own A245 c246 (rowC E_coin [(DC.leaf (rd l_freq_0 x237) x237)]) 69 E_coin.sz, Dz D_coin S0 w0.heap.size NoB [(DC.leaf (rd l_freq_0 x237) x237)] [(Co.leaf (rd l_freq_0 x237) x237)]] := HS251.dzApp (i := 4) (j := 8) rfl rfl h253
                  refine F_val rfl rfl rfl (O_assign rfl rfl) ?_
                  refine F_nil ?_
                  refine L_endB hN234 ?_
                  have HS258 : Hp S0 w0 w250 [.rd A_freq_0 (rowC (Eint .i64) l_freq_0), .box g3 [.slice A_freq_0 l_freq_0.length c_freq_0] 22, .own A20 c21 (rowC (Eint .i64) z16) 3 (Eint .i64).sz, .own A255 c256 (rowC E_coin (ds227 ++ [(DC.leaf (rd l_freq_0 x237) x237)])) 69 E_coin.sz, Dz D_coin S0 w0.heap.size (orB B228 NoB) (ds227 ++ [(DC.leaf (rd l_freq_0 x237) x237)]) l252, .own A50 c51 (rowC (Eint .i64) z57) 3 (Eint .i64).sz] := HS257.sel [0, 1, 2, 3, 4, 5] rfl
                  refine L_region ?_
                  refine F_val rfl rfl rfl (O_add rfl rfl rfl) ?_
                  refine F_val rfl rfl rfl (O_move rfl rfl) ?_
                  refine F_nil ?_
                  refine L_nil (fun a ha => hNp224 _ a _ (Nat.lt_succ_self _) ⟨_, _, _, _, _, _, Is.cons ha (Is.cons ha (Is.cons ha (Is.cons ha (Is.cons ha (Is.cons ha (Is.cons ha (Is.nil ha) rfl) rfl) rfl) rfl) rfl) rfl) rfl, HS258.sel [0, 1, 2, 3, 4, 5] rfl, H⟩)
                · have H := of_neg H c233
                  refine L_exitB (fun a w h => hOp224 (.exit 0) a w rfl (hXb165 a w h)) ?_
                  refine L_nil (fun a ha => hNj65 a _ ⟨_, _, _, _, _, (Option.some.inj H).symm, Is.cons ha (Is.cons ha (Is.cons ha (Is.cons ha (Is.nil ha) rfl) rfl) rfl) rfl, HS232.sel [0, 1, 2, 3, 4] rfl⟩)
            · obtain ⟨l164, A160, c161, ds162, B163, ej, ha, HS260⟩ := hR
              obtain rfl := ej.symm
              refine wpLF_app ?_ ha
              refine L_seq ?_
              refine L_region ?_
              refine F_val rfl rfl rfl (O_move rfl rfl) ?_
              refine F_val rfl rfl rfl (O_assign rfl rfl) ?_
              refine F_nil ?_
              refine L_seq ?_
              refine L_seq ?_
              refine L_region ?_
              refine F_val rfl rfl rfl (O_move rfl rfl) ?_
              refine F_val rfl rfl rfl (O_sub rfl rfl rfl) ?_
              refine F_val rfl rfl rfl (O_move rfl rfl) ?_
              refine F_nil ?_
              obtain ⟨yj261, Hyj261, H⟩ := of_bind H
              refine L_join (fun a w => ∃ (l406 : List Co), ∃ (A402 : Option Addr), ∃ (c403 : Nat), ∃ (ds404 : List DC), ∃ (B405 : Nat → Prop), yj261 = l406 ∧ Is Try.f28.ntmps a [(2, .pointer (some ⟨g3, 0, none⟩)), (6, .slice A20 z16.length c21), (12, .slice A402 l406.length c403)] ∧ Hp S0 w0 w [.rd A_freq_0 (rowC (Eint .i64) l_freq_0), .box g3 [.slice A_freq_0 l_freq_0.length c_freq_0] 22, .own A20 c21 (rowC (Eint .i64) z16) 3 (Eint .i64).sz, Rdc l406.length c403 A402 (rowC E_coin ds404), Dz D_coin S0 w0.heap.size B405 ds404 l406]) (fun Qj261 hNj261 hOj261 => ?_) (fun a w hR => ?_)
              · skip
                have H := Hyj261
                refine L_blk (fun Qb407 hNb407 hXb407 hOb407 => ?_)
                have HS438 : Hp S0 w0 w [.rd A_freq_0 (rowC (Eint .i64) l_freq_0), .box g3 [.slice A_freq_0 l_freq_0.length c_freq_0] 22, .own A20 c21 (rowC (Eint .i64) z16) 3 (Eint .i64).sz, Rdc l164.length c161 A160 (rowC E_coin ds162), Dz D_coin S0 w0.heap.size B163 ds162 l164] := HS260.ownRdc (i := 3) rfl (dz_capx (HS260.dze (i := 4) rfl) (HS260.own_capE (i := 3) rfl (by decide)))
                have HS440 : Hp S0 w0 w [.rd A_freq_0 (rowC (Eint .i64) l_freq_0), .box g3 [.slice A_freq_0 l_freq_0.length c_freq_0] 22, .own A20 c21 (rowC (Eint .i64) z16) 3 (Eint .i64).sz, Rdc l164.length c161 A160 (rowC E_coin ds162), Dz D_coin S0 w0.heap.size B163 ds162 l164, Rdc l164.length c161 A160 (rowC E_coin ds162)] := HS438.rdcSub (i := 3) rfl ((HS438.cells_rdc (i := 3) rfl).self) (HS438.rdc_cap (i := 3) rfl)
                have HS442 : Hp S0 w0 w [.rd A_freq_0 (rowC (Eint .i64) l_freq_0), .box g3 [.slice A_freq_0 l_freq_0.length c_freq_0] 22, .own A20 c21 (rowC (Eint .i64) z16) 3 (Eint .i64).sz, Rdc l164.length c161 A160 (rowC E_coin ds162), Dz D_coin S0 w0.heap.size B163 ds162 l164, Rdc l164.length c161 A160 (rowC E_coin ds162), Dz D_coin S0 w0.heap.size B163 ds162 l164] := HS440.dzSub (i := 4) rfl dz_self (HS438.dze (i := 4) rfl)
                refine L_lp (fun k a w => ∃ (l514 : List Co), ∃ (t515 : Int), ∃ (A510 : Option Addr), ∃ (c511 : Nat), ∃ (ds512 : List DC), ∃ (B513 : Nat → Prop), Is Try.f28.ntmps a [(2, .pointer (some ⟨g3, 0, none⟩)), (6, .slice A20 z16.length c21), (9, .slice A160 l164.length c161), (12, .slice A510 l514.length c511), (66, .int .i64 (IntKind.i64.wrap (limit_1 - 1))), (67, .int .i64 t515)] ∧ Hp S0 w0 w [.rd A_freq_0 (rowC (Eint .i64) l_freq_0), .box g3 [.slice A_freq_0 l_freq_0.length c_freq_0] 22, .own A20 c21 (rowC (Eint .i64) z16) 3 (Eint .i64).sz, Rdc l164.length c161 A160 (rowC E_coin ds162), Dz D_coin S0 w0.heap.size B163 ds162 l164, Rdc l514.length c511 A510 (rowC E_coin ds512), Dz D_coin S0 w0.heap.size B513 ds512 l514] ∧ build_Limited.l3 k l514 t515 limit_1 l164 = some yj261) FU (fun a ha => ⟨_, _, _, _, _, _, Is.cons ha (Is.cons ha (Is.cons ha (Is.cons ha (Is.cons ha (Is.cons ha (Is.nil ha) rfl) rfl) rfl) rfl) rfl) rfl, HS442.sel [0, 1, 2, 3, 4, 5, 6] rfl, H⟩) (fun kp509 a w516 hI Qp509 hNp509 hOp509 => ?_)
                obtain ⟨l514, t515, A510, c511, ds512, B513, ha, HS517, HAp509⟩ := hI
                cases kp509 with
                | zero => cases (show (none : Option _) = some _ from HAp509)
                | succ kp509 =>
                  have H := (build_Limited.l3.eq_2 ..).symm.trans HAp509
                  refine wpLF_app ?_ ha
                  refine L_seq ?_
                  refine L_region ?_
                  refine F_val rfl rfl rfl (O_lt rfl rfl rfl) ?_
                  refine F_nil ?_
                  refine L_seq ?_
                  refine L_condP rfl (fun c518 => ?_) (fun c518 => ?_)
                  · have H := of_pos H c518
                    refine L_skip ?_
                    refine L_seq ?_
                    refine L_blk (fun Q519 hN519 hX519 hO519 => ?_)
                    refine L_region ?_
                    refine F_val rfl rfl rfl (O_move rfl rfl) ?_
                    refine F_val rfl rfl rfl (O_move rfl rfl) ?_
                    obtain ⟨z524, h523, H⟩ := of_bind H
                    refine F_call (xs := [.tmp 70]) rfl rfl rfl rfl Try.func51 nm51 rfl rfl ((build_packages.calls (HS517.give [] rfl (Lent.rdc HS517 (Lent.dz HS517 (Lent.nil) (i := 6) rfl dz_self (HS517.dze (i := 6) rfl)) (i := 5) rfl ((HS517.cells_rdc (i := 5) rfl).self))) (HS517.rdc_cap (i := 5) rfl) h523).mono (fun e w hc => ?_))
                    obtain ⟨A527, c528, ds530, B531, rfl, HSo⟩ := hc
                    refine ⟨.slice A527 z524.length c528, rfl, ?_⟩
                    have HS526 : Hp S0 w0 w [.rd A_freq_0 (rowC (Eint .i64) l_freq_0), .box g3 [.slice A_freq_0 l_freq_0.length c_freq_0] 22, .own A20 c21 (rowC (Eint .i64) z16) 3 (Eint .i64).sz, Rdc l164.length c161 A160 (rowC E_coin ds162), Dz D_coin S0 w0.heap.size B163 ds162 l164, Rdc l514.length c511 A510 (rowC E_coin ds512), Dz D_coin S0 w0.heap.size B513 ds512 l514, .own A527 c528 (rowC E_coin ds530) 69 E_coin.sz, Dz D_coin S0 w0.heap.size B531 ds530 z524] := ((HS517.backD [] HSo (Pv.backG (Pv.own (Pv.per (HSo.dz (i := 1) rfl).1 Pv.nil)) (fun b => (fun hb => Or.elim hb (fun hb => .inl hb) (fun hb => .inr ⟨_, _, nth_mem (i := 6) rfl, hb⟩))))).sel [0, 1, 2, 3, 4, 5, 6, 7, 8] rfl).dzProv (i := 8) rfl (fun b hb _ => Or.elim hb (fun hb => Or.elim hb (fun hb => (HS517.mine _ (feet_pick_le hb)).elim (hSF _) .inr) (fun hb => (HS517.dz (i := 6) rfl).1 _ hb)) (fun h => .inr (Nat.le_trans HS517.chg.size h)))
                    obtain ⟨z537, h536, H⟩ := of_bind H
                    refine F_call (xs := [.tmp 69, .tmp 71]) rfl rfl rfl rfl Try.func50 nm50 rfl rfl ((build_merged.calls (HS526.give [] rfl (Lent.rdc HS526 (Lent.dz HS526 (Lent.own HS526 (Lent.dz HS526 (Lent.nil) (i := 8) rfl dz_self (HS526.dze (i := 8) rfl)) (i := 7) rfl rfl ((HS526.cells_own (i := 7) rfl).self)) (i := 4) rfl dz_self (HS526.dze (i := 4) rfl)) (i := 3) rfl ((HS526.cells_rdc (i := 3) rfl).self))) (HS526.rdc_cap (i := 3) rfl) (dz_capx (HS526.dze (i := 8) rfl) (HS526.own_capE (i := 7) rfl (by decide))) h536).mono (fun e w hc => ?_))
                    obtain ⟨A540, c541, ds543, B544, rfl, HSo⟩ := hc
                    refine ⟨.slice A540 z537.length c541, rfl, ?_⟩
                    have HS539 : Hp S0 w0 w [.rd A_freq_0 (rowC (Eint .i64) l_freq_0), .box g3 [.slice A_freq_0 l_freq_0.length c_freq_0] 22, .own A20 c21 (rowC (Eint .i64) z16) 3 (Eint .i64).sz, Rdc l164.length c161 A160 (rowC E_coin ds162), Dz D_coin S0 w0.heap.size B163 ds162 l164, Rdc l514.length c511 A510 (rowC E_coin ds512), Dz D_coin S0 w0.heap.size B513 ds512 l514, .own A527 c528 (rowC E_coin ds530) 69 E_coin.sz, Dz D_coin S0 w0.heap.size B531 ds530 z524, .own A540 c541 (rowC E_coin ds543) 69 E_coin.sz, Dz D_coin S0 w0.heap.size B544 ds543 z537] := ((HS526.backD [] HSo (Pv.backG (Pv.own (Pv.per (HSo.dz (i := 1) rfl).1 Pv.nil)) (fun b => (fun hb => Or.elim hb (fun hb => Or.elim hb (fun hb => .inl hb) (fun hb => .inr ⟨_, _, nth_mem (i := 4) rfl, hb⟩)) (fun hb => .inr ⟨_, _, nth_mem (i := 8) rfl, hb⟩))))).sel [0, 1, 2, 3, 4, 5, 6, 7, 8, 9, 10] rfl).dzProv (i := 10) rfl (fun b hb _ => Or.elim hb (fun hb => Or.elim hb (fun hb => Or.elim hb (fun hb => (HS526.mine _ (feet_pick_le hb)).elim (hSF _) .inr) (fun hb => (HS526.dz (i := 4) rfl).1 _ hb)) (fun hb => (HS526.dz (i := 8) rfl).1 _ hb)) (fun h => .inr (Nat.le_trans HS526.chg.size h)))
                    refine F_val rfl rfl rfl (O_assign rfl rfl) ?_
                    refine F_nil ?_
                    refine L_endB hN519 ?_
                    have HS546 : Hp S0 w0 w [.rd A_freq_0 (rowC (Eint .i64) l_freq_0), .box g3 [.slice A_freq_0 l_freq_0.length c_freq_0] 22, .own A20 c21 (rowC (Eint .i64) z16) 3 (Eint .i64).sz, Rdc l164.length c161 A160 (rowC E_coin ds162), Dz D_coin S0 w0.heap.size B163 ds162 l164, Rdc l514.length c511 A510 (rowC E_coin ds512), Dz D_coin S0 w0.heap.size B513 ds512 l514, .own A540 c541 (rowC E_coin ds543) 69 E_coin.sz, Dz D_coin S0 w0.heap.size B544 ds543 z537] := HS539.sel [0, 1, 2, 3, 4, 5, 6, 9, 10] rfl
                    refine L_region ?_
                    refine F_val rfl rfl rfl (O_add rfl rfl rfl) ?_
                    refine F_val rfl rfl rfl (O_move rfl rfl) ?_
                    refine F_nil ?_
                    have HS547 : Hp S0 w0 w [.rd A_freq_0 (rowC (Eint .i64) l_freq_0), .box g3 [.slice A_freq_0 l_freq_0.length c_freq_0] 22, .own A20 c21 (rowC (Eint .i64) z16) 3 (Eint .i64).sz, Rdc l164.length c161 A160 (rowC E_coin ds162), Dz D_coin S0 w0.heap.size B163 ds162 l164, Rdc l514.length c511 A510 (rowC E_coin ds512), Dz D_coin S0 w0.heap.size B513 ds512 l514, Rdc z537.length c541 A540 (rowC E_coin ds543), Dz D_coin S0 w0.heap.size B544 ds543 z537] := HS546.ownRdc (i := 7) rfl (dz_capx (HS546.dze (i := 8) rfl) (HS546.own_capE (i := 7) rfl (by decide)))
                    refine L_nil (fun a ha => hNp509 _ a _ (Nat.lt_succ_self _) ⟨_, _, _, _, _, _, Is.cons ha (Is.cons ha (Is.cons ha (Is.cons ha (Is.cons ha (Is.cons ha (Is.nil ha) rfl) rfl) rfl) rfl) rfl) rfl, HS547.sel [0, 1, 2, 3, 4, 7, 8] rfl, H⟩)
                  · have H := of_neg H c518
                    refine L_exitB (fun a w h => hOp509 (.exit 2) a w rfl (hXb407 a w h)) ?_
                    refine L_nil (fun a ha => hNj261 a _ ⟨_, _, _, _, _, (Option.some.inj H).symm, Is.cons ha (Is.cons ha (Is.cons ha (Is.nil ha) rfl) rfl) rfl, HS517.sel [0, 1, 2, 5, 6] rfl⟩)
              · obtain ⟨l406, A402, c403, ds404, B405, ej, ha, HS549⟩ := hR
                obtain rfl := ej.symm
                refine wpLF_app ?_ ha
                refine L_seq ?_
                refine L_region ?_
                refine F_val rfl rfl rfl (O_loadB rfl rfl flat22 (HS549.cells_box (i := 1) rfl) rfl) ?_
                refine F_val rfl rfl rfl (O_len rfl rfl Try.underlying22) ?_
                obtain ⟨⟨g552, g553⟩, H⟩ := of_gd H
                obtain ⟨l554, h555, H⟩ := of_bnd H
                refine F_makeE (E := (Eint .i64)) rfl rfl rfl rfl rfl rfl Try.underlying22 info3 rfl (by decide) (by decide) g552 g553 HS549 h555 (fun w550 A556 c557 HS551 => ?_)
                have HS551 : Hp S0 w0 w550 [.rd A_freq_0 (rowC (Eint .i64) l_freq_0), .box g3 [.slice A_freq_0 l_freq_0.length c_freq_0] 22, .own A20 c21 (rowC (Eint .i64) z16) 3 (Eint .i64).sz, Rdc l406.length c403 A402 (rowC E_coin ds404), Dz D_coin S0 w0.heap.size B405 ds404 l406, .own A556 c557 (rowC (Eint .i64) l554) 3 (Eint .i64).sz] := HS551
                refine F_val rfl rfl rfl (O_assign rfl rfl) ?_
                refine F_nil ?_
                refine L_seq ?_
                refine L_seq ?_
                refine L_region ?_
                refine F_val rfl rfl rfl (O_move rfl rfl) ?_
                refine F_val rfl rfl rfl (O_move rfl rfl) ?_
                refine F_val rfl rfl rfl (O_len rfl rfl Try.underlying22) ?_
                refine F_val rfl rfl rfl (O_mul rfl rfl rfl) ?_
                refine F_val rfl rfl rfl (O_sub rfl rfl rfl) ?_
                obtain ⟨⟨g559, g560⟩, H⟩ := of_gd H
                refine F_val rfl rfl rfl (O_toE l406 rfl rfl rfl Try.underlying66 size69 g559 g560 (HS551.rdc_cap (i := 3) rfl)) ?_
                refine F_val rfl rfl rfl (O_len rfl rfl Try.underlying66) ?_
                refine F_val rfl rfl rfl (O_move rfl rfl) ?_
                refine F_nil ?_
                obtain ⟨yj561, Hyj561, H⟩ := of_bind H
                refine L_join (fun a w => ∃ (l636 : List Int), yj561 = l636 ∧ Is Try.f28.ntmps a [(13, .slice A556 l636.length c557)] ∧ Hp S0 w0 w [.rd A_freq_0 (rowC (Eint .i64) l_freq_0), .own A556 c557 (rowC (Eint .i64) l636) 3 (Eint .i64).sz]) (fun Qj561 hNj561 hOj561 => ?_) (fun a w hR => ?_)
                · skip
                  have H := Hyj561
                  refine L_blk (fun Qb637 hNb637 hXb637 hOb637 => ?_)
                  refine L_lp (fun k a w => ∃ (l685 : List Int), ∃ (t686 : Int), Is Try.f28.ntmps a [(13, .slice A556 l685.length c557), (82, .slice A402 (l406.take (IntKind.i64.wrap ((IntKind.i64.wrap (2 * (z16.length : Int))) - 2) : Int).toNat).length c403), (83, .int .i64 ((l406.take (IntKind.i64.wrap ((IntKind.i64.wrap (2 * (z16.length : Int))) - 2) : Int).toNat).length : Int)), (84, .int .i64 t686)] ∧ Hp S0 w0 w [.rd A_freq_0 (rowC (Eint .i64) l_freq_0), .own A556 c557 (rowC (Eint .i64) l685) 3 (Eint .i64).sz, Rdc l406.length c403 A402 (rowC E_coin ds404), Dz D_coin S0 w0.heap.size B405 ds404 l406] ∧ build_Limited.l5 k l685 t686 z16 l406 = some yj561) FU (fun a ha => ⟨_, _, Is.cons ha (Is.cons ha (Is.cons ha (Is.cons ha (Is.nil ha) rfl) rfl) rfl) rfl, HS551.sel [0, 5, 3, 4] rfl, H⟩) (fun kp684 a w687 hI Qp684 hNp684 hOp684 => ?_)
                  obtain ⟨l685, t686, ha, HS688, HAp684⟩ := hI
                  cases kp684 with
                  | zero => cases (show (none : Option _) = some _ from HAp684)
                  | succ kp684 =>
                    have H := (build_Limited.l5.eq_2 ..).symm.trans HAp684
                    refine wpLF_app ?_ ha
                    refine L_seq ?_
                    refine L_region ?_
                    refine F_val rfl rfl rfl (O_lt rfl rfl rfl) ?_
                    refine F_nil ?_
                    refine L_seq ?_
                    refine L_condP rfl (fun c689 => ?_) (fun c689 => ?_)
                    · have H := of_pos H c689
                      refine L_skip ?_
                      refine L_seq ?_
                      refine L_blk (fun Q690 hN690 hX690 hO690 => ?_)
                      refine L_seq ?_
                      refine L_region ?_
                      obtain ⟨⟨g691, g692⟩, H⟩ := of_gd H
                      refine F_val rfl rfl rfl (O_idx rfl rfl rfl Try.underlying66 size69 g691 g692 (Cells.isA (Cells.sub (HS688.cells_rdc (i := 2) rfl) (Cells.take (HS688.cells_rdc (i := 2) rfl) (IntKind.i64.wrap ((IntKind.i64.wrap (2 * (z16.length : Int))) - 2) : Int).toNat)) (dz_ne (D := D_coin) (dze_take (IntKind.i64.wrap ((IntKind.i64.wrap (2 * (z16.length : Int))) - 2) : Int).toNat (HS688.dze (i := 3) rfl)) g691 g692 (by decide)))) ?_
                      have HS694 : Hp S0 w0 w687 [.rd A_freq_0 (rowC (Eint .i64) l_freq_0), .own A556 c557 (rowC (Eint .i64) l685) 3 (Eint .i64).sz, Rdc l406.length c403 A402 (rowC E_coin ds404), Dz D_coin S0 w0.heap.size B405 ds404 l406, Dz D_coin S0 w0.heap.size B405 [(rdx E_coin (ds404.take (IntKind.i64.wrap ((IntKind.i64.wrap (2 * (z16.length : Int))) - 2) : Int).toNat) t686)] [(rdp (Co.leaf 0 0) (l406.take (IntKind.i64.wrap ((IntKind.i64.wrap (2 * (z16.length : Int))) - 2) : Int).toNat) t686)]] := HS688.dzOne (i := 3) rfl (dz_take (IntKind.i64.wrap ((IntKind.i64.wrap (2 * (z16.length : Int))) - 2) : Int).toNat) (dze_take (IntKind.i64.wrap ((IntKind.i64.wrap (2 * (z16.length : Int))) - 2) : Int).toNat (HS688.dze (i := 3) rfl)) g691 g692
                      refine F_val rfl rfl rfl (O_loadElD (D := D_coin) rfl rfl wide69 (Cells.sub (HS694.cells_rdc (i := 2) rfl) (Cells.take (HS694.cells_rdc (i := 2) rfl) (IntKind.i64.wrap ((IntKind.i64.wrap (2 * (z16.length : Int))) - 2) : Int).toNat)) (dze_take (IntKind.i64.wrap ((IntKind.i64.wrap (2 * (z16.length : Int))) - 2) : Int).toNat (HS694.dze (i := 3) rfl)) g691 g692 (by decide)) ?_
                      refine F_alloc (C := [.int .i64 0, .int .i64 0, .pointer none]) rfl rfl rfl rfl zero69 rfl HS694 (fun w695 g697 HS696 => ?_)
                      have HS696 : Hp S0 w0 w695 [.rd A_freq_0 (rowC (Eint .i64) l_freq_0), .own A556 c557 (rowC (Eint .i64) l685) 3 (Eint .i64).sz, Rdc l406.length c403 A402 (rowC E_coin ds404), Dz D_coin S0 w0.heap.size B405 ds404 l406, Dz D_coin S0 w0.heap.size B405 [(rdx E_coin (ds404.take (IntKind.i64.wrap ((IntKind.i64.wrap (2 * (z16.length : Int))) - 2) : Int).toNat) t686)] [(rdp (Co.leaf 0 0) (l406.take (IntKind.i64.wrap ((IntKind.i64.wrap (2 * (z16.length : Int))) - 2) : Int).toNat) t686)], .box g697 [.int .i64 0, .int .i64 0, .pointer none] 69] := HS696
                      refine F_stB 5 (E_coin.enc (rdx E_coin (ds404.take (IntKind.i64.wrap ((IntKind.i64.wrap (2 * (z16.length : Int))) - 2) : Int).toNat) t686)) rfl rfl rfl rfl rfl size69 HS696 rfl rfl rfl rfl rfl (fun w699 HS700 => ?_)
                      have HS700 : Hp S0 w0 w699 [.rd A_freq_0 (rowC (Eint .i64) l_freq_0), .own A556 c557 (rowC (Eint .i64) l685) 3 (Eint .i64).sz, Rdc l406.length c403 A402 (rowC E_coin ds404), Dz D_coin S0 w0.heap.size B405 ds404 l406, Dz D_coin S0 w0.heap.size B405 [(rdx E_coin (ds404.take (IntKind.i64.wrap ((IntKind.i64.wrap (2 * (z16.length : Int))) - 2) : Int).toNat) t686)] [(rdp (Co.leaf 0 0) (l406.take (IntKind.i64.wrap ((IntKind.i64.wrap (2 * (z16.length : Int))) - 2) : Int).toNat) t686)], .box g697 (E_coin.enc (rdx E_coin (ds404.take (IntKind.i64.wrap ((IntKind.i64.wrap (2 * (z16.length : Int))) - 2) : Int).toNat) t686)) 69] := HS700
                      refine F_nil ?_
                      refine L_region ?_
                      refine F_val rfl rfl rfl (O_loadWB' (k := 0) (vs := E_coin.enc (rdx E_coin (ds404.take (IntKind.i64.wrap ((IntKind.i64.wrap (2 * (z16.length : Int))) - 2) : Int).toNat) t686)) rfl rfl wide69 (HS700.cells_box (i := 5) rfl) rfl rfl (List.cons_ne_nil _ _)) ?_
                      refine F_val rfl rfl rfl (O_move rfl rfl) ?_
                      obtain ⟨z705, h704, H⟩ := of_bind H
                      refine F_call (xs := [.tmp 88, .tmp 89]) rfl rfl rfl rfl Try.func52 nm52 rfl rfl ((build_coin_into.calls (HS700.give [1] rfl (Lent.dz HS700 (Lent.nil) (i := 4) rfl dz_self (HS700.dze (i := 4) rfl))) h704).mono (fun e w hc => ?_))
                      obtain ⟨rfl, HSo, hl708⟩ := hc
                      refine ⟨.tuple #[], rfl, ?_⟩
                      have HS707 : Hp S0 w0 w [.rd A_freq_0 (rowC (Eint .i64) l_freq_0), .own A556 c557 (rowC (Eint .i64) z705) 3 (Eint .i64).sz, Rdc l406.length c403 A402 (rowC E_coin ds404), Dz D_coin S0 w0.heap.size B405 ds404 l406, Dz D_coin S0 w0.heap.size B405 [(rdx E_coin (ds404.take (IntKind.i64.wrap ((IntKind.i64.wrap (2 * (z16.length : Int))) - 2) : Int).toNat) t686)] [(rdp (Co.leaf 0 0) (l406.take (IntKind.i64.wrap ((IntKind.i64.wrap (2 * (z16.length : Int))) - 2) : Int).toNat) t686)], .box g697 (E_coin.enc (rdx E_coin (ds404.take (IntKind.i64.wrap ((IntKind.i64.wrap (2 * (z16.length : Int))) - 2) : Int).toNat) t686)) 69] := (HS700.back [1] HSo rfl).sel [0, 6, 2, 3, 4, 5] rfl
                      have e709 : l685.length = z705.length := hl708.symm
                      refine F_know (i := 13) rfl (congrArg (fun n => Value.slice A556 n c557) e709) ?_
                      refine F_nil ?_
                      refine L_endB hN690 ?_
                      have HS710 : Hp S0 w0 w [.rd A_freq_0 (rowC (Eint .i64) l_freq_0), .own A556 c557 (rowC (Eint .i64) z705) 3 (Eint .i64).sz, Rdc l406.length c403 A402 (rowC E_coin ds404), Dz D_coin S0 w0.heap.size B405 ds404 l406] := HS707.sel [0, 1, 2, 3] rfl
                      refine L_region ?_
                      refine F_val rfl rfl rfl (O_add rfl rfl rfl) ?_
                      refine F_val rfl rfl rfl (O_move rfl rfl) ?_
                      refine F_nil ?_
                      refine L_nil (fun a ha => hNp684 _ a _ (Nat.lt_succ_self _) ⟨_, _, Is.cons ha (Is.cons ha (Is.cons ha (Is.cons ha (Is.nil ha) rfl) rfl) rfl) rfl, HS710.sel [0, 1, 2, 3] rfl, H⟩)
                    · have H := of_neg H c689
                      refine L_exitB (fun a w h => hOp684 (.exit 4) a w rfl (hXb637 a w h)) ?_
                      refine L_nil (fun a ha => hNj561 a _ ⟨_, (Option.some.inj H).symm, Is.cons ha (Is.nil ha) rfl, HS688.sel [0, 1] rfl⟩)
                · obtain ⟨l636, ej, ha, HS712⟩ := hR
                  obtain rfl := ej.symm
                  refine wpLF_app ?_ ha
                  refine L_seq ?_
                  refine L_region ?_
                  refine F_val rfl rfl rfl (O_move rfl rfl) ?_
                  refine F_val rfl rfl rfl (O_assign rfl rfl) ?_
                  refine F_val rfl rfl rfl (O_assign rfl rfl) ?_
                  refine F_nil ?_
                  refine L_ret (fun a ha => (post_ret2 ha rfl rfl rfl ?_))
                  obtain rfl := Option.some.inj H
                  exact ⟨_, _, rfl, HS712.sel [1] rfl⟩

/-! function 36: valise/valiseref6.weighs -/
theorem valiseref6_weighs.calls {S0 : Nat → Prop} {w0 : World} {A_freq_0 : Option Addr} {c_freq_0 : Nat} {l_freq_0 : List Int} {r : Bool} (HS0 : Hp S0 w0 w0 [.rd A_freq_0 (rowC (Eint .i64) l_freq_0)]) (hc_freq_0 : l_freq_0.length ≤ c_freq_0) (h : valiseref6_weighs.f l_freq_0 = some r) :
    Calls Try.prog 36 ([.slice A_freq_0 l_freq_0.length c_freq_0] : List Value).toArray w0 (fun e w => e = .returned (.bool r) ∧ Hp S0 w0 w []) := by
  have H : (((valiseref6_weighs.l1 FU 0 l_freq_0).bind fun (yj1 : Sum (Bool) (Unit)) => onR yj1 (fun r => some r) fun () => some true) : Option (Bool)) = some r := h
  refine calls_start Try.func36 rfl rfl ?_
  refine L_seq ?_
  refine L_region ?_
  refine F_val rfl rfl rfl (O_assign rfl rfl) ?_
  refine F_nil ?_
  refine L_seq ?_
  refine L_seq ?_
  refine L_region ?_
  refine F_val rfl rfl rfl (O_assign rfl rfl) ?_
  refine F_nil ?_
  obtain ⟨yj1, Hyj1, H⟩ := of_bind H
  refine L_join (fun a w => yj1 = Sum.inr () ∧ Is Try.f36.ntmps a [] ∧ Hp S0 w0 w [.rd A_freq_0 (rowC (Eint .i64) l_freq_0)]) (fun Qj1 hNj1 hOj1 => ?_) (fun a w hR => ?_)
  · have HOj1 := H
    have H := Hyj1
    refine L_blk (fun Qb41 hNb41 hXb41 hOb41 => ?_)
    refine L_lp (fun k a w => ∃ (s_66 : Int), Is Try.f36.ntmps a [(0, .slice A_freq_0 l_freq_0.length c_freq_0), (3, .int .i64 s_66)] ∧ Hp S0 w0 w [.rd A_freq_0 (rowC (Eint .i64) l_freq_0)] ∧ valiseref6_weighs.l1 k s_66 l_freq_0 = some yj1) FU (fun a ha => ⟨_, Is.cons ha (Is.cons ha (Is.nil ha) rfl) rfl, HS0.sel [0] rfl, H⟩) (fun kp65 a w67 hI Qp65 hNp65 hOp65 => ?_)
    obtain ⟨s_66, ha, HS68, HAp65⟩ := hI
    cases kp65 with
    | zero => cases (show (none : Option _) = some _ from HAp65)
    | succ kp65 =>
      have H := (valiseref6_weighs.l1.eq_2 ..).symm.trans HAp65
      refine wpLF_app ?_ ha
      refine L_seq ?_
      refine L_seq ?_
      refine L_region ?_
      refine F_val rfl rfl rfl (O_move rfl rfl) ?_
      refine F_val rfl rfl rfl (O_move rfl rfl) ?_
      refine F_val rfl rfl rfl (O_len rfl rfl Try.underlying22) ?_
      refine F_val rfl rfl rfl (O_lt rfl rfl rfl) ?_
      refine F_nil ?_
      refine L_condP rfl (fun c69 => ?_) (fun c69 => ?_)
      · have H := of_pos H c69
        refine L_skip ?_
        refine L_seq ?_
        refine L_blk (fun Q70 hN70 hX70 hO70 => ?_)
        refine L_seq ?_
        refine L_region ?_
        refine F_val rfl rfl rfl (O_move rfl rfl) ?_
        refine F_val rfl rfl rfl (O_move rfl rfl) ?_
        obtain ⟨⟨g71, g72⟩, H⟩ := of_gd H
        refine F_val rfl rfl rfl (O_idx rfl rfl rfl Try.underlying22 size3 g71 g72 (Cells.isA (HS68.cells_rd (i := 0) rfl) (rowC_ne (E := (Eint .i64)) g71 g72 (by decide)))) ?_
        refine F_val rfl rfl rfl (O_loadC rfl rfl flat3 (HS68.cells_rd (i := 0) rfl) (int_cell g71 g72)) ?_
        refine F_val rfl rfl rfl (O_lt rfl rfl rfl) ?_
        refine F_val rfl rfl rfl (O_move rfl rfl) ?_
        refine F_grp 6 [(21, .bool (decide ((rd l_freq_0 s_66 < 0) ∨ (4294967296 < rd l_freq_0 s_66)))), (0, .slice A_freq_0 l_freq_0.length c_freq_0), (3, .int .i64 s_66)] ?_ ?_
        · rcases Decidable.em (rd l_freq_0 s_66 < 0) with c76 | c76
          · refine F_know (i := 15) rfl (dec_t c76) ?_
            refine F_gskip rfl rfl rfl rfl rfl rfl rfl ?_
            refine F_gskip rfl rfl rfl rfl rfl rfl rfl ?_
            refine F_gskip rfl rfl rfl rfl rfl rfl rfl ?_
            refine F_gskip rfl rfl rfl rfl rfl rfl rfl ?_
            refine F_gskip rfl rfl rfl rfl rfl rfl rfl ?_
            refine F_val rfl rfl rfl (O_pickT rfl rfl rfl) ?_
            refine F_know (i := 21) rfl (dec_or_t (q := 4294967296 < rd l_freq_0 s_66) c76) ?_
            exact F_grpE (fun a ha => Is.cons ha (Is.cons ha (Is.cons ha (Is.nil ha) rfl) rfl) rfl)
          · refine F_know (i := 15) rfl (dec_f c76) ?_
            refine F_gval rfl rfl rfl rfl rfl rfl (O_move rfl rfl) ?_
            refine F_gval rfl rfl rfl rfl rfl rfl (O_move rfl rfl) ?_
            refine F_gval rfl rfl rfl rfl rfl rfl (O_idx rfl rfl rfl Try.underlying22 size3 g71 g72 (Cells.isA (HS68.cells_rd (i := 0) rfl) (rowC_ne (E := (Eint .i64)) g71 g72 (by decide)))) ?_
            refine F_gval rfl rfl rfl rfl rfl rfl (O_loadC rfl rfl flat3 (HS68.cells_rd (i := 0) rfl) (int_cell g71 g72)) ?_
            refine F_gval rfl rfl rfl rfl rfl rfl (O_gt rfl rfl rfl) ?_
            refine F_val rfl rfl rfl (O_pickF rfl rfl rfl) ?_
            refine F_know (i := 21) rfl (dec_or_f (q := 4294967296 < rd l_freq_0 s_66) c76) ?_
            exact F_grpE (fun a ha => Is.cons ha (Is.cons ha (Is.cons ha (Is.nil ha) rfl) rfl) rfl)
        · skip
          refine F_nil ?_
          refine L_condP rfl (fun c77 => ?_) (fun c77 => ?_)
          · have H := of_pos H c77
            refine L_seq ?_
            refine L_region ?_
            refine F_val rfl rfl rfl (O_assign rfl rfl) ?_
            refine F_nil ?_
            refine L_ret (fun a ha => (hO70 .ret a _ rfl (hOp65 .ret a _ rfl (hOb41 .ret a _ rfl (hOj1 .ret a _ rfl (post_ret1 ha rfl rfl ?_))))))
            obtain rfl := Option.some.inj H
            obtain rfl := Option.some.inj (show (some false : Option (Bool)) = some _ from HOj1)
            exact ⟨rfl, HS68.sel [] rfl⟩
          · have H := of_neg H c77
            refine L_skip ?_
            refine L_endB hN70 ?_
            refine L_region ?_
            refine F_val rfl rfl rfl (O_move rfl rfl) ?_
            refine F_val rfl rfl rfl (O_add rfl rfl rfl) ?_
            obtain ⟨x78, h79, H⟩ := of_bnd H
            refine F_val rfl rfl rfl (O_assign' rfl rfl (congrArg (Value.int .i64) h79)) ?_
            refine F_nil ?_
            refine L_nil (fun a ha => hNp65 _ a _ (Nat.lt_succ_self _) ⟨_, Is.cons ha (Is.cons ha (Is.nil ha) rfl) rfl, HS68.sel [0] rfl, H⟩)
      · have H := of_neg H c69
        refine L_exitB (fun a w h => hOp65 (.exit 0) a w rfl (hXb41 a w h)) ?_
        refine L_nil (fun a ha => hNj1 a _ ⟨(Option.some.inj H).symm, Is.nil ha, HS68.sel [0] rfl⟩)
  · obtain ⟨rfl, ha, HS81⟩ := hR
    refine wpLF_app ?_ ha
    have H := (onR_inr _ _ _).symm.trans H
    refine L_seq ?_
    refine L_region ?_
    refine F_val rfl rfl rfl (O_assign rfl rfl) ?_
    refine F_nil ?_
    refine L_ret (fun a ha => (post_ret1 ha rfl rfl ?_))
    obtain rfl := Option.some.inj H
    exact ⟨rfl, HS81.sel [] rfl⟩

/-! function 43: valise/valiseref6.used -/
theorem valiseref6_used.calls {S0 : Nat → Prop} {w0 : World} {A_freq_0 : Option Addr} {c_freq_0 : Nat} {l_freq_0 : List Int} {r : List Int} (HS0 : Hp S0 w0 w0 [.rd A_freq_0 (rowC (Eint .i64) l_freq_0)]) (hc_freq_0 : l_freq_0.length ≤ c_freq_0) (h : valiseref6_used.f l_freq_0 = some r) :
    Calls Try.prog 43 ([.slice A_freq_0 l_freq_0.length c_freq_0] : List Value).toArray w0 (fun e w => ∃ (A1 : Option Addr), ∃ (c1 : Nat), e = .returned (.slice A1 r.length c1) ∧ Hp S0 w0 w [.own A1 c1 (rowC (Eint .i64) r) 3 (Eint .i64).sz]) := by
  have H : (((valiseref6_used.l1 FU ([] : List Int) 0 l_freq_0).bind fun l132 => some l132) : Option (List Int)) = some r := h
  refine calls_start Try.func43 rfl rfl ?_
  refine L_seq ?_
  refine L_region ?_
  refine F_val rfl rfl rfl (O_assign rfl rfl) ?_
  refine F_nil ?_
  refine L_seq ?_
  refine L_region ?_
  refine F_val rfl rfl rfl (O_assign rfl rfl) ?_
  have HS1 := HS0.addNil 3 (Eint .i64).sz
  have HS1 : Hp S0 w0 w0 [.rd A_freq_0 (rowC (Eint .i64) l_freq_0), .own none 0 (rowC (Eint .i64) ([] : List Int)) 3 (Eint .i64).sz] := HS1
  refine F_nil ?_
  refine L_seq ?_
  refine L_seq ?_
  refine L_region ?_
  refine F_val rfl rfl rfl (O_assign rfl rfl) ?_
  refine F_nil ?_
  obtain ⟨yj3, Hyj3, H⟩ := of_bind H
  refine L_join (fun a w => ∃ (l132 : List Int), ∃ (A130 : Option Addr), ∃ (c131 : Nat), yj3 = l132 ∧ Is Try.f43.ntmps a [(3, .slice A130 l132.length c131)] ∧ Hp S0 w0 w [.rd A_freq_0 (rowC (Eint .i64) l_freq_0), .own A130 c131 (rowC (Eint .i64) l132) 3 (Eint .i64).sz]) (fun Qj3 hNj3 hOj3 => ?_) (fun a w hR => ?_)
  · skip
    have H := Hyj3
    refine L_blk (fun Qb133 hNb133 hXb133 hOb133 => ?_)
    refine L_lp (fun k a w => ∃ (l217 : List Int), ∃ (s_218 : Int), ∃ (A215 : Option Addr), ∃ (c216 : Nat), Is Try.f43.ntmps a [(0, .slice A_freq_0 l_freq_0.length c_freq_0), (3, .slice A215 l217.length c216), (4, .int .i64 s_218)] ∧ Hp S0 w0 w [.rd A_freq_0 (rowC (Eint .i64) l_freq_0), .own A215 c216 (rowC (Eint .i64) l217) 3 (Eint .i64).sz] ∧ valiseref6_used.l1 k l217 s_218 l_freq_0 = some yj3) FU (fun a ha => ⟨_, _, _, _, Is.cons ha (Is.cons ha (Is.cons ha (Is.nil ha) rfl) rfl) rfl, HS1.sel [0, 1] rfl, H⟩) (fun kp214 a w219 hI Qp214 hNp214 hOp214 => ?_)
    obtain ⟨l217, s_218, A215, c216, ha, HS220, HAp214⟩ := hI
    cases kp214 with
    | zero => cases (show (none : Option _) = some _ from HAp214)
    | succ kp214 =>
      have H := (valiseref6_used.l1.eq_2 ..).symm.trans HAp214
      refine wpLF_app ?_ ha
      refine L_seq ?_
      refine L_seq ?_
      refine L_region ?_
      refine F_val rfl rfl rfl (O_move rfl rfl) ?_
      refine F_val rfl rfl rfl (O_move rfl rfl) ?_
      refine F_val rfl rfl rfl (O_len rfl rfl Try.underlying22) ?_
      refine F_val rfl rfl rfl (O_lt rfl rfl rfl) ?_
      refine F_nil ?_
      refine L_condP rfl (fun c221 => ?_) (fun c221 => ?_)
      · have H := of_pos H c221
        refine L_skip ?_
        refine L_seq ?_
        refine L_blk (fun Q222 hN222 hX222 hO222 => ?_)
        refine L_seq ?_
        refine L_region ?_
        refine F_val rfl rfl rfl (O_move rfl rfl) ?_
        refine F_val rfl rfl rfl (O_move rfl rfl) ?_
        obtain ⟨⟨g223, g224⟩, H⟩ := of_gd H
        refine F_val rfl rfl rfl (O_idx rfl rfl rfl Try.underlying22 size3 g223 g224 (Cells.isA (HS220.cells_rd (i := 0) rfl) (rowC_ne (E := (Eint .i64)) g223 g224 (by decide)))) ?_
        refine F_val rfl rfl rfl (O_loadC rfl rfl flat3 (HS220.cells_rd (i := 0) rfl) (int_cell g223 g224)) ?_
        refine F_val rfl rfl rfl (O_gt rfl rfl rfl) ?_
        refine F_nil ?_
        obtain ⟨yj225, Hyj225, H⟩ := of_bind H
        refine L_join (fun a w => ∃ (l241 : List Int), ∃ (A239 : Option Addr), ∃ (c240 : Nat), yj225 = l241 ∧ Is Try.f43.ntmps a [(0, .slice A_freq_0 l_freq_0.length c_freq_0), (3, .slice A239 l241.length c240), (4, .int .i64 s_218)] ∧ Hp S0 w0 w [.rd A_freq_0 (rowC (Eint .i64) l_freq_0), .own A239 c240 (rowC (Eint .i64) l241) 3 (Eint .i64).sz]) (fun Qj225 hNj225 hOj225 => ?_) (fun a w hR => ?_)
        · skip
          have H := Hyj225
          refine L_condP rfl (fun c242 => ?_) (fun c242 => ?_)
          · have H := of_pos H c242
            refine L_region ?_
            refine F_val rfl rfl rfl (O_move rfl rfl) ?_
            refine F_val rfl rfl rfl (O_move rfl rfl) ?_
            refine F_litE (E := (Eint .i64)) (e := 3) [(0, .int .i64 s_218)] [s_218] rfl rfl rfl rfl rfl rfl rfl (by decide) (fun w => by kernel_rfl) HS220 (fun w243 A245 c246 HS244 => ?_)
            have HS244 : Hp S0 w0 w243 [.rd A_freq_0 (rowC (Eint .i64) l_freq_0), .own A215 c216 (rowC (Eint .i64) l217) 3 (Eint .i64).sz, .own A245 c246 (rowC (Eint .i64) [s_218]) 3 (Eint .i64).sz] := HS244
            obtain ⟨l250, h251, H⟩ := of_bnd H
            obtain ⟨g252, H⟩ := of_gd H
            refine F_appE (E := (Eint .i64)) (xs := l217) (ys := [s_218]) (i := 1) rfl rfl rfl rfl Try.underlying22 info3 rfl (by decide) (by decide) rfl rfl HS244 rfl (HS244.cells_own (i := 2) rfl) h251 g252 (fun w248 A253 c254 HS249 => ?_)
            have HS249 : Hp S0 w0 w248 [.rd A_freq_0 (rowC (Eint .i64) l_freq_0), .own A253 c254 (rowC (Eint .i64) l250) 3 (Eint .i64).sz, .own A245 c246 (rowC (Eint .i64) [s_218]) 3 (Eint .i64).sz] := HS249
            refine F_val rfl rfl rfl (O_assign rfl rfl) ?_
            refine F_nil ?_
            refine L_nil (fun a ha => hNj225 a _ ⟨_, _, _, (Option.some.inj H).symm, Is.cons ha (Is.cons ha (Is.cons ha (Is.nil ha) rfl) rfl) rfl, HS249.sel [0, 1] rfl⟩)
          · have H := of_neg H c242
            refine L_skip ?_
            refine L_nil (fun a ha => hNj225 a _ ⟨_, _, _, (Option.some.inj H).symm, Is.cons ha (Is.cons ha (Is.cons ha (Is.nil ha) rfl) rfl) rfl, HS220.sel [0, 1] rfl⟩)
        · obtain ⟨l241, A239, c240, ej, ha, HS256⟩ := hR
          obtain rfl := ej.symm
          refine wpLF_app ?_ ha
          refine L_endB hN222 ?_
          refine L_region ?_
          refine F_val rfl rfl rfl (O_move rfl rfl) ?_
          refine F_val rfl rfl rfl (O_add rfl rfl rfl) ?_
          obtain ⟨x257, h258, H⟩ := of_bnd H
          refine F_val rfl rfl rfl (O_assign' rfl rfl (congrArg (Value.int .i64) h258)) ?_
          refine F_nil ?_
          refine L_nil (fun a ha => hNp214 _ a _ (Nat.lt_succ_self _) ⟨_, _, _, _, Is.cons ha (Is.cons ha (Is.cons ha (Is.nil ha) rfl) rfl) rfl, HS256.sel [0, 1] rfl, H⟩)
      · have H := of_neg H c221
        refine L_exitB (fun a w h => hOp214 (.exit 0) a w rfl (hXb133 a w h)) ?_
        refine L_nil (fun a ha => hNj3 a _ ⟨_, _, _, (Option.some.inj H).symm, Is.cons ha (Is.nil ha) rfl, HS220.sel [0, 1] rfl⟩)
  · obtain ⟨l132, A130, c131, ej, ha, HS260⟩ := hR
    obtain rfl := ej.symm
    refine wpLF_app ?_ ha
    refine L_seq ?_
    refine L_region ?_
    refine F_val rfl rfl rfl (O_move rfl rfl) ?_
    refine F_val rfl rfl rfl (O_assign rfl rfl) ?_
    refine F_nil ?_
    refine L_ret (fun a ha => (post_ret1 ha rfl rfl ?_))
    obtain rfl := Option.some.inj H
    exact ⟨_, _, rfl, HS260.sel [1] rfl⟩

/-! function 53: valise/valiseref6.leaves -/
theorem valiseref6_leaves.calls {S0 : Nat → Prop} {w0 : World} {A_freq_0 : Option Addr} {c_freq_0 : Nat} {l_freq_0 : List Int} {r : List (Int × List Int)} (HS0 : Hp S0 w0 w0 [.rd A_freq_0 (rowC (Eint .i64) l_freq_0)]) (hc_freq_0 : l_freq_0.length ≤ c_freq_0) (h : valiseref6_leaves.f l_freq_0 = some r) :
    Calls Try.prog 53 ([.slice A_freq_0 l_freq_0.length c_freq_0] : List Value).toArray w0 (fun e w => ∃ (A1 : Option Addr), ∃ (c1 : Nat), ∃ (ds1 : List ((Int × List Int) × Option Addr × Nat)), ∃ (B1 : Nat → Prop), e = .returned (.slice A1 r.length c1) ∧ Hp S0 w0 w [.own A1 c1 (rowC E_valiseref6_Node ds1) 61 E_valiseref6_Node.sz, Dz D_valiseref6_Node S0 w0.heap.size B1 ds1 r]) := by
  have H : (((valiseref6_used.f l_freq_0).bind fun z5 => (valiseref6_leaves.l31 FU ([] : List (Int × List Int)) 0 l_freq_0 z5).bind fun l1733 => some l1733) : Option (List (Int × List Int))) = some r := h
  refine calls_start Try.func53 rfl rfl ?_
  have hSF : ∀ b, S0 b → S0 b ∨ w0.heap.size ≤ b := (fun b hb => .inl hb)
  refine L_seq ?_
  refine L_region ?_
  refine F_val rfl rfl rfl (O_assign rfl rfl) ?_
  refine F_nil ?_
  refine L_seq ?_
  refine L_region ?_
  refine F_val rfl rfl rfl (O_move rfl rfl) ?_
  obtain ⟨z5, h4, H⟩ := of_bind H
  refine F_call (xs := [.tmp 11]) rfl rfl rfl rfl Try.func43 nm43 rfl rfl ((valiseref6_used.calls (HS0.give [] rfl (Lent.rd HS0 (Lent.nil) (i := 0) rfl ((HS0.cells_rd (i := 0) rfl).self))) hc_freq_0 h4).mono (fun e w hc => ?_))
  obtain ⟨A8, c9, rfl, HSo⟩ := hc
  refine ⟨.slice A8 z5.length c9, rfl, ?_⟩
  have HS7 : Hp S0 w0 w [.rd A_freq_0 (rowC (Eint .i64) l_freq_0), .own A8 c9 (rowC (Eint .i64) z5) 3 (Eint .i64).sz] := (HS0.back [] HSo rfl).sel [0, 1] rfl
  refine F_val rfl rfl rfl (O_assign rfl rfl) ?_
  refine F_nil ?_
  refine L_seq ?_
  refine L_region ?_
  refine F_val rfl rfl rfl (O_assign rfl rfl) ?_
  have HS11 := (HS7.addNil 61 E_valiseref6_Node.sz).dzNil D_valiseref6_Node S0 w0.heap.size
  have HS11 : Hp S0 w0 w [.rd A_freq_0 (rowC (Eint .i64) l_freq_0), .own A8 c9 (rowC (Eint .i64) z5) 3 (Eint .i64).sz, .own none 0 (rowC E_valiseref6_Node ([] : List ((Int × List Int) × Option Addr × Nat))) 61 E_valiseref6_Node.sz, Dz D_valiseref6_Node S0 w0.heap.size NoB ([] : List ((Int × List Int) × Option Addr × Nat)) ([] : List (Int × List Int))] := HS11
  refine F_nil ?_
  refine L_seq ?_
  refine L_seq ?_
  refine L_region ?_
  refine F_val rfl rfl rfl (O_assign rfl rfl) ?_
  refine F_nil ?_
  obtain ⟨yj14, Hyj14, H⟩ := of_bind H
  refine L_join (fun a w => ∃ (l1733 : List (Int × List Int)), ∃ (A1729 : Option Addr), ∃ (c1730 : Nat), ∃ (ds1731 : List ((Int × List Int) × Option Addr × Nat)), ∃ (B1732 : Nat → Prop), yj14 = l1733 ∧ Is Try.f53.ntmps a [(4, .slice A1729 l1733.length c1730)] ∧ Hp S0 w0 w [.rd A_freq_0 (rowC (Eint .i64) l_freq_0), .own A1729 c1730 (rowC E_valiseref6_Node ds1731) 61 E_valiseref6_Node.sz, Dz D_valiseref6_Node S0 w0.heap.size B1732 ds1731 l1733]) (fun Qj14 hNj14 hOj14 => ?_) (fun a w hR => ?_)
  · skip
    have H := Hyj14
    refine L_blk (fun Qb1734 hNb1734 hXb1734 hOb1734 => ?_)
    refine L_lp (fun k a w => ∃ (l2878 : List (Int × List Int)), ∃ (i_2879 : Int), ∃ (A2874 : Option Addr), ∃ (c2875 : Nat), ∃ (ds2876 : List ((Int × List Int) × Option Addr × Nat)), ∃ (B2877 : Nat → Prop), Is Try.f53.ntmps a [(0, .slice A_freq_0 l_freq_0.length c_freq_0), (3, .slice A8 z5.length c9), (4, .slice A2874 l2878.length c2875), (5, .int .i64 i_2879)] ∧ Hp S0 w0 w [.rd A_freq_0 (rowC (Eint .i64) l_freq_0), .own A8 c9 (rowC (Eint .i64) z5) 3 (Eint .i64).sz, .own A2874 c2875 (rowC E_valiseref6_Node ds2876) 61 E_valiseref6_Node.sz, Dz D_valiseref6_Node S0 w0.heap.size B2877 ds2876 l2878] ∧ valiseref6_leaves.l31 k l2878 i_2879 l_freq_0 z5 = some yj14) FU (fun a ha => ⟨_, _, _, _, _, _, Is.cons ha (Is.cons ha (Is.cons ha (Is.cons ha (Is.nil ha) rfl) rfl) rfl) rfl, HS11.sel [0, 1, 2, 3] rfl, H⟩) (fun kp2873 a w2880 hI Qp2873 hNp2873 hOp2873 => ?_)
    obtain ⟨l2878, i_2879, A2874, c2875, ds2876, B2877, ha, HS2881, HAp2873⟩ := hI
    cases kp2873 with
    | zero => cases (show (none : Option _) = some _ from HAp2873)
    | succ kp2873 =>
      have H := (valiseref6_leaves.l31.eq_2 ..).symm.trans HAp2873
      refine wpLF_app ?_ ha
      refine L_seq ?_
      refine L_seq ?_
      refine L_region ?_
      refine F_val rfl rfl rfl (O_move rfl rfl) ?_
      refine F_val rfl rfl rfl (O_move rfl rfl) ?_
      refine F_val rfl rfl rfl (O_len rfl rfl Try.underlying22) ?_
      refine F_val rfl rfl rfl (O_lt rfl rfl rfl) ?_
      refine F_nil ?_
      refine L_condP rfl (fun c2882 => ?_) (fun c2882 => ?_)
      · have H := of_pos H c2882
        refine L_skip ?_
        refine L_seq ?_
        refine L_blk (fun Q2883 hN2883 hX2883 hO2883 => ?_)
        refine L_seq ?_
        refine L_region ?_
        refine F_val rfl rfl rfl (O_move rfl rfl) ?_
        refine F_val rfl rfl rfl (O_move rfl rfl) ?_
        obtain ⟨⟨g2884, g2885⟩, H⟩ := of_gd H
        refine F_val rfl rfl rfl (O_idx rfl rfl rfl Try.underlying22 size3 g2884 g2885 (Cells.isA (HS2881.cells_own (i := 1) rfl) (rowC_ne (E := (Eint .i64)) g2884 g2885 (by decide)))) ?_
        refine F_val rfl rfl rfl (O_loadC rfl rfl flat3 (HS2881.cells_own (i := 1) rfl) (int_cell g2884 g2885)) ?_
        obtain ⟨x2886, h2887, H⟩ := of_bnd H
        refine F_val rfl rfl rfl (O_assign' rfl rfl (congrArg (Value.int .i64) h2887)) ?_
        refine F_nil ?_
        refine L_seq ?_
        refine L_region ?_
        refine F_val rfl rfl rfl (O_move rfl rfl) ?_
        refine F_val rfl rfl rfl (O_len rfl rfl Try.underlying59) ?_
        obtain ⟨x2888, h2889, H⟩ := of_bnd H
        refine F_val rfl rfl rfl (O_assign' rfl rfl (congrArg (Value.int .i64) h2889)) ?_
        refine F_nil ?_
        refine L_seq ?_
        obtain ⟨yj2890, Hyj2890, H⟩ := of_bind H
        refine L_join (fun a w => ∃ (at_2969 : Int), yj2890 = at_2969 ∧ Is Try.f53.ntmps a [(0, .slice A_freq_0 l_freq_0.length c_freq_0), (3, .slice A8 z5.length c9), (4, .slice A2874 l2878.length c2875), (5, .int .i64 i_2879), (6, .int .i64 x2886), (7, .int .i64 at_2969)] ∧ Hp S0 w0 w [.rd A_freq_0 (rowC (Eint .i64) l_freq_0), .own A8 c9 (rowC (Eint .i64) z5) 3 (Eint .i64).sz, .own A2874 c2875 (rowC E_valiseref6_Node ds2876) 61 E_valiseref6_Node.sz, Dz D_valiseref6_Node S0 w0.heap.size B2877 ds2876 l2878]) (fun Qj2890 hNj2890 hOj2890 => ?_) (fun a w hR => ?_)
        · skip
          have H := Hyj2890
          refine L_blk (fun Qb2970 hNb2970 hXb2970 hOb2970 => ?_)
          refine L_lp (fun k a w => ∃ (at_3021 : Int), Is Try.f53.ntmps a [(0, .slice A_freq_0 l_freq_0.length c_freq_0), (3, .slice A8 z5.length c9), (4, .slice A2874 l2878.length c2875), (5, .int .i64 i_2879), (6, .int .i64 x2886), (7, .int .i64 at_3021)] ∧ Hp S0 w0 w [.rd A_freq_0 (rowC (Eint .i64) l_freq_0), .own A8 c9 (rowC (Eint .i64) z5) 3 (Eint .i64).sz, .own A2874 c2875 (rowC E_valiseref6_Node ds2876) 61 E_valiseref6_Node.sz, Dz D_valiseref6_Node S0 w0.heap.size B2877 ds2876 l2878] ∧ valiseref6_leaves.l33 k at_3021 l_freq_0 l2878 x2886 = some yj2890) FU (fun a ha => ⟨_, Is.cons ha (Is.cons ha (Is.cons ha (Is.cons ha (Is.cons ha (Is.cons ha (Is.nil ha) rfl) rfl) rfl) rfl) rfl) rfl, HS2881.sel [0, 1, 2, 3] rfl, H⟩) (fun kp3020 a w3022 hI Qp3020 hNp3020 hOp3020 => ?_)
          obtain ⟨at_3021, ha, HS3023, HAp3020⟩ := hI
          cases kp3020 with
          | zero => cases (show (none : Option _) = some _ from HAp3020)
          | succ kp3020 =>
            have H := (valiseref6_leaves.l33.eq_2 ..).symm.trans HAp3020
            refine wpLF_app ?_ ha
            refine L_seq ?_
            refine L_seq ?_
            refine L_quiet mix (by kernel_rfl) ?_
            refine Q_val rfl rfl rfl (fun wq hq => O_move rfl rfl) ?_
            refine Q_val rfl rfl rfl (fun wq hq => O_gt rfl rfl rfl) ?_
            refine Q_val rfl rfl rfl (fun wq hq => O_move rfl rfl) ?_
            obtain ⟨b3030, Hb3030, H⟩ := of_bind H
            refine Q_grp 12 [(39, .bool b3030), (0, .slice A_freq_0 l_freq_0.length c_freq_0), (3, .slice A8 z5.length c9), (4, .slice A2874 l2878.length c2875), (5, .int .i64 i_2879), (6, .int .i64 x2886), (7, .int .i64 at_3021)] ?_ ?_
            · rcases Decidable.em (0 < at_3021) with c3034 | c3034
              · refine Q_know (i := 27) rfl (dec_t c3034) ?_
                have H := of_pos Hb3030 c3034
                refine Q_gval rfl rfl rfl rfl rfl rfl (fun wq hq => O_move rfl rfl) ?_
                refine Q_gval rfl rfl rfl rfl rfl rfl (fun wq hq => O_move rfl rfl) ?_
                refine Q_gval rfl rfl rfl rfl rfl rfl (fun wq hq => O_sub rfl rfl rfl) ?_
                obtain ⟨⟨g3035, g3036⟩, H⟩ := of_gd H
                refine Q_gval rfl rfl rfl rfl rfl rfl (fun wq hq => O_idx rfl rfl rfl Try.underlying59 size61 g3035 g3036 (Cells.isA ((HS3023.keep hq).cells_own (i := 2) rfl) (dz_ne (D := D_valiseref6_Node) ((HS3023.keep hq).dze (i := 3) rfl) g3035 g3036 (by decide)))) ?_
                refine Q_gval rfl rfl rfl rfl rfl rfl (fun wq hq => O_fieldC rfl rfl (Cells.isA ((HS3023.keep hq).cells_own (i := 2) rfl) (dz_ne (D := D_valiseref6_Node) ((HS3023.keep hq).dze (i := 3) rfl) g3035 g3036 (by decide))) field61_0) ?_
                have HS3038 : Hp S0 w0 w3022 [.rd A_freq_0 (rowC (Eint .i64) l_freq_0), .own A8 c9 (rowC (Eint .i64) z5) 3 (Eint .i64).sz, .own A2874 c2875 (rowC E_valiseref6_Node ds2876) 61 E_valiseref6_Node.sz, Dz D_valiseref6_Node S0 w0.heap.size B2877 ds2876 l2878, Dz D_valiseref6_Node S0 w0.heap.size B2877 [(rdx E_valiseref6_Node ds2876 (IntKind.i64.wrap (at_3021 - 1)))] ([(rdp ((0, []) : (Int × List Int)) l2878 (IntKind.i64.wrap (at_3021 - 1)))])] := HS3023.dzOne (i := 3) rfl dz_self (HS3023.dze (i := 3) rfl) g3035 g3036
                refine Q_gval rfl rfl rfl rfl rfl rfl (fun wq hq => O_loadC rfl rfl flat3 ((HS3038.keep hq).cells_own (i := 2) rfl) (dz_cell (D := D_valiseref6_Node) (f := fun x => .int .i64 x.1) 0 (fun d => rfl) ((HS3038.keep hq).dze (i := 3) rfl) g3035 g3036)) ?_
                refine Q_gval rfl rfl rfl rfl rfl rfl (fun wq hq => O_move rfl rfl) ?_
                refine Q_gval rfl rfl rfl rfl rfl rfl (fun wq hq => O_move rfl rfl) ?_
                obtain ⟨⟨g3039, g3040⟩, H⟩ := of_gd H
                refine Q_gval rfl rfl rfl rfl rfl rfl (fun wq hq => O_idx rfl rfl rfl Try.underlying22 size3 g3039 g3040 (Cells.isA ((HS3038.keep hq).cells_rd (i := 0) rfl) (rowC_ne (E := (Eint .i64)) g3039 g3040 (by decide)))) ?_
                refine Q_gval rfl rfl rfl rfl rfl rfl (fun wq hq => O_loadC rfl rfl flat3 ((HS3038.keep hq).cells_rd (i := 0) rfl) (int_cell g3039 g3040)) ?_
                refine Q_gval rfl rfl rfl rfl rfl rfl (fun wq hq => O_gt rfl rfl rfl) ?_
                refine Q_val rfl rfl rfl (fun wq hq => O_pickT rfl rfl rfl) ?_
                refine Q_know (i := 39) rfl (congrArg Value.bool (Option.some.inj H)) ?_
                exact Q_grpE (fun a ha => Is.cons ha (Is.cons ha (Is.cons ha (Is.cons ha (Is.cons ha (Is.cons ha (Is.cons ha (Is.nil ha) rfl) rfl) rfl) rfl) rfl) rfl) rfl)
              · refine Q_know (i := 27) rfl (dec_f c3034) ?_
                have H := of_neg Hb3030 c3034
                refine Q_gskip rfl rfl rfl rfl rfl rfl rfl ?_
                refine Q_gskip rfl rfl rfl rfl rfl rfl rfl ?_
                refine Q_gskip rfl rfl rfl rfl rfl rfl rfl ?_
                refine Q_gskip rfl rfl rfl rfl rfl rfl rfl ?_
                refine Q_gskip rfl rfl rfl rfl rfl rfl rfl ?_
                refine Q_gskip rfl rfl rfl rfl rfl rfl rfl ?_
                refine Q_gskip rfl rfl rfl rfl rfl rfl rfl ?_
                refine Q_gskip rfl rfl rfl rfl rfl rfl rfl ?_
                refine Q_gskip rfl rfl rfl rfl rfl rfl rfl ?_
                refine Q_gskip rfl rfl rfl rfl rfl rfl rfl ?_
                refine Q_gskip rfl rfl rfl rfl rfl rfl rfl ?_
                refine Q_val rfl rfl rfl (fun wq hq => O_pickF rfl rfl rfl) ?_
                refine Q_know (i := 39) rfl (congrArg Value.bool (Option.some.inj H)) ?_
                exact Q_grpE (fun a ha => Is.cons ha (Is.cons ha (Is.cons ha (Is.cons ha (Is.cons ha (Is.cons ha (Is.cons ha (Is.nil ha) rfl) rfl) rfl) rfl) rfl) rfl) rfl)
            · skip
              refine Q_nil (fun w3041 hw3042 => ?_)
              have HS3043 := HS3023.keep hw3042
              refine L_cond rfl (fun c3044 => ?_) (fun c3044 => ?_)
              · have H := of_pos H c3044
                refine L_skip ?_
                refine L_blk (fun Q3045 hN3045 hX3045 hO3045 => ?_)
                refine L_region ?_
                refine F_val rfl rfl rfl (O_move rfl rfl) ?_
                refine F_val rfl rfl rfl (O_sub rfl rfl rfl) ?_
                obtain ⟨x3046, h3047, H⟩ := of_bnd H
                refine F_val rfl rfl rfl (O_assign' rfl rfl (congrArg (Value.int .i64) h3047)) ?_
                refine F_nil ?_
                refine L_endB hN3045 ?_
                refine L_nil (fun a ha => hNp3020 _ a _ (Nat.lt_succ_self _) ⟨_, Is.cons ha (Is.cons ha (Is.cons ha (Is.cons ha (Is.cons ha (Is.cons ha (Is.nil ha) rfl) rfl) rfl) rfl) rfl) rfl, HS3043.sel [0, 1, 2, 3] rfl, H⟩)
              · have H := of_neg H (by rw [c3044]; exact Bool.false_ne_true)
                refine L_exitB (fun a w h => hOp3020 (.exit 2) a w rfl (hXb2970 a w h)) ?_
                refine L_nil (fun a ha => hNj2890 a _ ⟨_, (Option.some.inj H).symm, Is.cons ha (Is.cons ha (Is.cons ha (Is.cons ha (Is.cons ha (Is.cons ha (Is.nil ha) rfl) rfl) rfl) rfl) rfl) rfl, HS3043.sel [0, 1, 2, 3] rfl⟩)
        · obtain ⟨at_2969, ej, ha, HS3049⟩ := hR
          obtain rfl := ej.symm
          refine wpLF_app ?_ ha
          refine L_seq ?_
          refine L_region ?_
          refine F_val rfl rfl rfl (O_assign rfl rfl) ?_
          have HS3050 := (HS3049.addNil 61 E_valiseref6_Node.sz).dzNil D_valiseref6_Node S0 w0.heap.size
          have HS3050 : Hp S0 w0 w [.rd A_freq_0 (rowC (Eint .i64) l_freq_0), .own A8 c9 (rowC (Eint .i64) z5) 3 (Eint .i64).sz, .own A2874 c2875 (rowC E_valiseref6_Node ds2876) 61 E_valiseref6_Node.sz, Dz D_valiseref6_Node S0 w0.heap.size B2877 ds2876 l2878, .own none 0 (rowC E_valiseref6_Node ([] : List ((Int × List Int) × Option Addr × Nat))) 61 E_valiseref6_Node.sz, Dz D_valiseref6_Node S0 w0.heap.size NoB ([] : List ((Int × List Int) × Option Addr × Nat)) ([] : List (Int × List Int))] := HS3050
          refine F_nil ?_
          refine L_seq ?_
          refine L_seq ?_
          refine L_region ?_
          refine F_val rfl rfl rfl (O_assign rfl rfl) ?_
          refine F_nil ?_
          obtain ⟨yj3053, Hyj3053, H⟩ := of_bind H
          refine L_join (fun a w => ∃ (l3146 : List (Int × List Int)), ∃ (A3142 : Option Addr), ∃ (c3143 : Nat), ∃ (ds3144 : List ((Int × List Int) × Option Addr × Nat)), ∃ (B3145 : Nat → Prop), yj3053 = l3146 ∧ Is Try.f53.ntmps a [(0, .slice A_freq_0 l_freq_0.length c_freq_0), (3, .slice A8 z5.length c9), (4, .slice A2874 l2878.length c2875), (5, .int .i64 i_2879), (6, .int .i64 x2886), (7, .int .i64 at_2969), (8, .slice A3142 l3146.length c3143)] ∧ Hp S0 w0 w [.rd A_freq_0 (rowC (Eint .i64) l_freq_0), .own A8 c9 (rowC (Eint .i64) z5) 3 (Eint .i64).sz, .own A2874 c2875 (rowC E_valiseref6_Node ds2876) 61 E_valiseref6_Node.sz, Dz D_valiseref6_Node S0 w0.heap.size B2877 ds2876 l2878, .own A3142 c3143 (rowC E_valiseref6_Node ds3144) 61 E_valiseref6_Node.sz, Dz D_valiseref6_Node S0 w0.heap.size B3145 ds3144 l3146]) (fun Qj3053 hNj3053 hOj3053 => ?_) (fun a w hR => ?_)
          · skip
            have H := Hyj3053
            refine L_blk (fun Qb3147 hNb3147 hXb3147 hOb3147 => ?_)
            refine L_lp (fun k a w => ∃ (l3207 : List (Int × List Int)), ∃ (k_3208 : Int), ∃ (A3203 : Option Addr), ∃ (c3204 : Nat), ∃ (ds3205 : List ((Int × List Int) × Option Addr × Nat)), ∃ (B3206 : Nat → Prop), Is Try.f53.ntmps a [(0, .slice A_freq_0 l_freq_0.length c_freq_0), (3, .slice A8 z5.length c9), (4, .slice A2874 l2878.length c2875), (5, .int .i64 i_2879), (6, .int .i64 x2886), (7, .int .i64 at_2969), (8, .slice A3203 l3207.length c3204), (9, .int .i64 k_3208)] ∧ Hp S0 w0 w [.rd A_freq_0 (rowC (Eint .i64) l_freq_0), .own A8 c9 (rowC (Eint .i64) z5) 3 (Eint .i64).sz, .own A2874 c2875 (rowC E_valiseref6_Node ds2876) 61 E_valiseref6_Node.sz, Dz D_valiseref6_Node S0 w0.heap.size B2877 ds2876 l2878, .own A3203 c3204 (rowC E_valiseref6_Node ds3205) 61 E_valiseref6_Node.sz, Dz D_valiseref6_Node S0 w0.heap.size B3206 ds3205 l3207] ∧ valiseref6_leaves.l35 k l3207 k_3208 l2878 at_2969 = some yj3053) FU (fun a ha => ⟨_, _, _, _, _, _, Is.cons ha (Is.cons ha (Is.cons ha (Is.cons ha (Is.cons ha (Is.cons ha (Is.cons ha (Is.cons ha (Is.nil ha) rfl) rfl) rfl) rfl) rfl) rfl) rfl) rfl, HS3050.sel [0, 1, 2, 3, 4, 5] rfl, H⟩) (fun kp3202 a w3209 hI Qp3202 hNp3202 hOp3202 => ?_)
            obtain ⟨l3207, k_3208, A3203, c3204, ds3205, B3206, ha, HS3210, HAp3202⟩ := hI
            cases kp3202 with
            | zero => cases (show (none : Option _) = some _ from HAp3202)
            | succ kp3202 =>
              have H := (valiseref6_leaves.l35.eq_2 ..).symm.trans HAp3202
              refine wpLF_app ?_ ha
              refine L_seq ?_
              refine L_seq ?_
              refine L_region ?_
              refine F_val rfl rfl rfl (O_move rfl rfl) ?_
              refine F_val rfl rfl rfl (O_move rfl rfl) ?_
              refine F_val rfl rfl rfl (O_lt rfl rfl rfl) ?_
              refine F_nil ?_
              refine L_condP rfl (fun c3211 => ?_) (fun c3211 => ?_)
              · have H := of_pos H c3211
                refine L_skip ?_
                refine L_seq ?_
                refine L_blk (fun Q3212 hN3212 hX3212 hO3212 => ?_)
                refine L_region ?_
                refine F_val rfl rfl rfl (O_move rfl rfl) ?_
                refine F_val rfl rfl rfl (O_move rfl rfl) ?_
                refine F_val rfl rfl rfl (O_move rfl rfl) ?_
                obtain ⟨⟨g3213, g3214⟩, H⟩ := of_gd H
                refine F_val rfl rfl rfl (O_idx rfl rfl rfl Try.underlying59 size61 g3213 g3214 (Cells.isA (HS3210.cells_own (i := 2) rfl) (dz_ne (D := D_valiseref6_Node) (HS3210.dze (i := 3) rfl) g3213 g3214 (by decide)))) ?_
                have HS3216 : Hp S0 w0 w3209 [.rd A_freq_0 (rowC (Eint .i64) l_freq_0), .own A8 c9 (rowC (Eint .i64) z5) 3 (Eint .i64).sz, .own A2874 c2875 (rowC E_valiseref6_Node ds2876) 61 E_valiseref6_Node.sz, Dz D_valiseref6_Node S0 w0.heap.size B2877 ds2876 l2878, .own A3203 c3204 (rowC E_valiseref6_Node ds3205) 61 E_valiseref6_Node.sz, Dz D_valiseref6_Node S0 w0.heap.size B3206 ds3205 l3207, Dz D_valiseref6_Node S0 w0.heap.size B2877 [(rdx E_valiseref6_Node ds2876 k_3208)] ([(rdp ((0, []) : (Int × List Int)) l2878 k_3208)])] := HS3210.dzOne (i := 3) rfl dz_self (HS3210.dze (i := 3) rfl) g3213 g3214
                refine F_val rfl rfl rfl (O_loadElD (D := D_valiseref6_Node) rfl rfl wide61 (HS3216.cells_own (i := 2) rfl) (HS3216.dze (i := 3) rfl) g3213 g3214 (by decide)) ?_
                refine F_litE (E := E_valiseref6_Node) (e := 61) [(0, .agg (E_valiseref6_Node.enc (rdx E_valiseref6_Node ds2876 k_3208)).toArray)] [(rdx E_valiseref6_Node ds2876 k_3208)] rfl rfl rfl rfl rfl rfl rfl (by decide) (fun w => by kernel_rfl) HS3216 (fun w3217 A3219 c3220 HS3218 => ?_)
                have HS3218 : Hp S0 w0 w3217 [.rd A_freq_0 (rowC (Eint .i64) l_freq_0), .own A8 c9 (rowC (Eint .i64) z5) 3 (Eint .i64).sz, .own A2874 c2875 (rowC E_valiseref6_Node ds2876) 61 E_valiseref6_Node.sz, Dz D_valiseref6_Node S0 w0.heap.size B2877 ds2876 l2878, .own A3203 c3204 (rowC E_valiseref6_Node ds3205) 61 E_valiseref6_Node.sz, Dz D_valiseref6_Node S0 w0.heap.size B3206 ds3205 l3207, Dz D_valiseref6_Node S0 w0.heap.size B2877 [(rdx E_valiseref6_Node ds2876 k_3208)] ([(rdp ((0, []) : (Int × List Int)) l2878 k_3208)]), .own A3219 c3220 (rowC E_valiseref6_Node [(rdx E_valiseref6_Node ds2876 k_3208)]) 61 E_valiseref6_Node.sz] := HS3218
                have HS3223 : Hp S0 w0 w3217 [.rd A_freq_0 (rowC (Eint .i64) l_freq_0), .own A8 c9 (rowC (Eint .i64) z5) 3 (Eint .i64).sz, .own A2874 c2875 (rowC E_valiseref6_Node ds2876) 61 E_valiseref6_Node.sz, Dz D_valiseref6_Node S0 w0.heap.size B2877 ds2876 l2878, .own A3203 c3204 (rowC E_valiseref6_Node ds3205) 61 E_valiseref6_Node.sz, Dz D_valiseref6_Node S0 w0.heap.size B3206 ds3205 l3207, Dz D_valiseref6_Node S0 w0.heap.size B2877 [(rdx E_valiseref6_Node ds2876 k_3208)] ([(rdp ((0, []) : (Int × List Int)) l2878 k_3208)]), .own A3219 c3220 (rowC E_valiseref6_Node [(rdx E_valiseref6_Node ds2876 k_3208)]) 61 E_valiseref6_Node.sz, Dz D_valiseref6_Node S0 w0.heap.size B2877 [(rdx E_valiseref6_Node ds2876 k_3208)] ([(rdp ((0, []) : (Int × List Int)) l2878 k_3208)])] := HS3218.dzSub (i := 6) rfl dz_self (HS3218.dze (i := 6) rfl)
                obtain ⟨l3226, h3227, H⟩ := of_bnd H
                obtain ⟨g3228, H⟩ := of_gd H
                refine F_appD (D := D_valiseref6_Node) (ds := ds3205) (ds' := [(rdx E_valiseref6_Node ds2876 k_3208)]) (xs := l3207) (ys := ([(rdp ((0, []) : (Int × List Int)) l2878 k_3208)])) (i := 4) rfl rfl rfl rfl Try.underlying59 info61 rfl (by decide) (by decide) rfl rfl HS3223 rfl (HS3223.dze (i := 5) rfl) (HS3223.dze (i := 8) rfl) (HS3223.cells_own (i := 7) rfl) h3227 g3228 (fun w3224 A3229 c3230 HS3225 => ?_)
                have HS3225 : Hp S0 w0 w3224 [.rd A_freq_0 (rowC (Eint .i64) l_freq_0), .own A8 c9 (rowC (Eint .i64) z5) 3 (Eint .i64).sz, .own A2874 c2875 (rowC E_valiseref6_Node ds2876) 61 E_valiseref6_Node.sz, Dz D_valiseref6_Node S0 w0.heap.size B2877 ds2876 l2878, .own A3229 c3230 (rowC E_valiseref6_Node (ds3205 ++ [(rdx E_valiseref6_Node ds2876 k_3208)])) 61 E_valiseref6_Node.sz, Dz D_valiseref6_Node S0 w0.heap.size B3206 ds3205 l3207, Dz D_valiseref6_Node S0 w0.heap.size B2877 [(rdx E_valiseref6_Node ds2876 k_3208)] ([(rdp ((0, []) : (Int × List Int)) l2878 k_3208)]), .own A3219 c3220 (rowC E_valiseref6_Node [(rdx E_valiseref6_Node ds2876 k_3208)]) 61 E_valiseref6_Node.sz, Dz D_valiseref6_Node S0 w0.heap.size B2877 [(rdx E_valiseref6_Node ds2876 k_3208)] ([(rdp ((0, []) : (Int × List Int)) l2878 k_3208)])] := HS3225
                have HS3231 : Hp S0 w0 w3224 [.rd A_freq_0 (rowC (Eint .i64) l_freq_0), .own A8 c9 (rowC (Eint .i64) z5) 3 (Eint .i64).sz, .own A2874 c2875 (rowC E_valiseref6_Node ds2876) 61 E_valiseref6_Node.sz, Dz D_valiseref6_Node S0 w0.heap.size B2877 ds2876 l2878, .own A3229 c3230 (rowC E_valiseref6_Node (ds3205 ++ [(rdx E_valiseref6_Node ds2876 k_3208)])) 61 E_valiseref6_Node.sz, Dz D_valiseref6_Node S0 w0.heap.size (orB B3206 B2877) (ds3205 ++ [(rdx E_valiseref6_Node ds2876 k_3208)]) l3226, Dz D_valiseref6_Node S0 w0.heap.size B2877 [(rdx E_valiseref6_Node ds2876 k_3208)] ([(rdp ((0, []) : (Int × List Int)) l2878 k_3208)]), .own A3219 c3220 (rowC E_valiseref6_Node [(rdx E_valiseref6_Node ds2876 k_3208)]) 61 E_valiseref6_Node.sz, Dz D_valiseref6_Node S0 w0.heap.size B2877 [(rdx E_valiseref6_Node ds2876 k_3208)] ([(rdp ((0, []) : (Int × List Int)) l2878 k_3208)])] := HS3225.dzApp (i := 5) (j := 8) rfl rfl h3227
                refine F_val rfl rfl rfl (O_assign rfl rfl) ?_
                refine F_nil ?_
                refine L_endB hN3212 ?_
                have HS3232 : Hp S0 w0 w3224 [.rd A_freq_0 (rowC (Eint .i64) l_freq_0), .own A8 c9 (rowC (Eint .i64) z5) 3 (Eint .i64).sz, .own A2874 c2875 (rowC E_valiseref6_Node ds2876) 61 E_valiseref6_Node.sz, Dz D_valiseref6_Node S0 w0.heap.size B2877 ds2876 l2878, .own A3229 c3230 (rowC E_valiseref6_Node (ds3205 ++ [(rdx E_valiseref6_Node ds2876 k_3208)])) 61 E_valiseref6_Node.sz, Dz D_valiseref6_Node S0 w0.heap.size (orB B3206 B2877) (ds3205 ++ [(rdx E_valiseref6_Node ds2876 k_3208)]) l3226] := HS3231.sel [0, 1, 2, 3, 4, 5] rfl
                refine L_region ?_
                refine F_val rfl rfl rfl (O_move rfl rfl) ?_
                refine F_val rfl rfl rfl (O_add rfl rfl rfl) ?_
                obtain ⟨x3233, h3234, H⟩ := of_bnd H
                refine F_val rfl rfl rfl (O_assign' rfl rfl (congrArg (Value.int .i64) h3234)) ?_
                refine F_nil ?_
                refine L_nil (fun a ha => hNp3202 _ a _ (Nat.lt_succ_self _) ⟨_, _, _, _, _, _, Is.cons ha (Is.cons ha (Is.cons ha (Is.cons ha (Is.cons ha (Is.cons ha (Is.cons ha (Is.cons ha (Is.nil ha) rfl) rfl) rfl) rfl) rfl) rfl) rfl) rfl, HS3232.sel [0, 1, 2, 3, 4, 5] rfl, H⟩)
              · have H := of_neg H c3211
                refine L_exitB (fun a w h => hOp3202 (.exit 4) a w rfl (hXb3147 a w h)) ?_
                refine L_nil (fun a ha => hNj3053 a _ ⟨_, _, _, _, _, (Option.some.inj H).symm, Is.cons ha (Is.cons ha (Is.cons ha (Is.cons ha (Is.cons ha (Is.cons ha (Is.cons ha (Is.nil ha) rfl) rfl) rfl) rfl) rfl) rfl) rfl, HS3210.sel [0, 1, 2, 3, 4, 5] rfl⟩)
          · obtain ⟨l3146, A3142, c3143, ds3144, B3145, ej, ha, HS3236⟩ := hR
            obtain rfl := ej.symm
            refine wpLF_app ?_ ha
            refine L_seq ?_
            refine L_region ?_
            refine F_val rfl rfl rfl (O_move rfl rfl) ?_
            refine F_val rfl rfl rfl (O_move rfl rfl) ?_
            refine F_val rfl rfl rfl (O_move rfl rfl) ?_
            obtain ⟨⟨g3237, g3238⟩, H⟩ := of_gd H
            refine F_val rfl rfl rfl (O_idx rfl rfl rfl Try.underlying22 size3 g3237 g3238 (Cells.isA (HS3236.cells_rd (i := 0) rfl) (rowC_ne (E := (Eint .i64)) g3237 g3238 (by decide)))) ?_
            refine F_val rfl rfl rfl (O_loadC rfl rfl flat3 (HS3236.cells_rd (i := 0) rfl) (int_cell g3237 g3238)) ?_
            refine F_val rfl rfl rfl (O_move rfl rfl) ?_
            refine F_litE (E := (Eint .i64)) (e := 3) [(0, .int .i64 x2886)] [x2886] rfl rfl rfl rfl rfl rfl rfl (by decide) (fun w => by kernel_rfl) HS3236 (fun w3239 A3241 c3242 HS3240 => ?_)
            have HS3240 : Hp S0 w0 w3239 [.rd A_freq_0 (rowC (Eint .i64) l_freq_0), .own A8 c9 (rowC (Eint .i64) z5) 3 (Eint .i64).sz, .own A2874 c2875 (rowC E_valiseref6_Node ds2876) 61 E_valiseref6_Node.sz, Dz D_valiseref6_Node S0 w0.heap.size B2877 ds2876 l2878, .own A3142 c3143 (rowC E_valiseref6_Node ds3144) 61 E_valiseref6_Node.sz, Dz D_valiseref6_Node S0 w0.heap.size B3145 ds3144 l3146, .own A3241 c3242 (rowC (Eint .i64) [x2886]) 3 (Eint .i64).sz] := HS3240
            refine F_val rfl rfl rfl (O_build (vs := [(0, .int .i64 (rd l_freq_0 x2886)), (1, .slice A3241 [x2886].length c3242)]) (v := .agg #[.int .i64 (rd l_freq_0 x2886), .slice A3241 [x2886].length c3242]) rfl rfl rfl (fun w => by kernel_rfl)) ?_
            have HS3247 : Hp S0 w0 w3239 [.rd A_freq_0 (rowC (Eint .i64) l_freq_0), .own A8 c9 (rowC (Eint .i64) z5) 3 (Eint .i64).sz, .own A2874 c2875 (rowC E_valiseref6_Node ds2876) 61 E_valiseref6_Node.sz, Dz D_valiseref6_Node S0 w0.heap.size B2877 ds2876 l2878, .own A3142 c3143 (rowC E_valiseref6_Node ds3144) 61 E_valiseref6_Node.sz, Dz D_valiseref6_Node S0 w0.heap.size B3145 ds3144 l3146, Dz D_valiseref6_Node S0 w0.heap.size (blk A3241 (rowC (Eint .i64) [x2886])) ([((rd l_freq_0 x2886, [x2886]), A3241, c3242)]) ([(rd l_freq_0 x2886, [x2886])])] := HS3240.ndFreeze (i := 6) (rd l_freq_0 x2886, [x2886]) rfl rfl (by decide) hSF (Nat.le_refl _)
            refine F_litE (E := E_valiseref6_Node) (e := 61) [(0, .agg #[.int .i64 (rd l_freq_0 x2886), .slice A3241 [x2886].length c3242])] [((rd l_freq_0 x2886, [x2886]), A3241, c3242)] rfl rfl rfl rfl rfl rfl rfl (by decide) (fun w => by kernel_rfl) HS3247 (fun w3244 A3248 c3249 HS3245 => ?_)
            have HS3245 : Hp S0 w0 w3244 [.rd A_freq_0 (rowC (Eint .i64) l_freq_0), .own A8 c9 (rowC (Eint .i64) z5) 3 (Eint .i64).sz, .own A2874 c2875 (rowC E_valiseref6_Node ds2876) 61 E_valiseref6_Node.sz, Dz D_valiseref6_Node S0 w0.heap.size B2877 ds2876 l2878, .own A3142 c3143 (rowC E_valiseref6_Node ds3144) 61 E_valiseref6_Node.sz, Dz D_valiseref6_Node S0 w0.heap.size B3145 ds3144 l3146, Dz D_valiseref6_Node S0 w0.heap.size (blk A3241 (rowC (Eint .i64) [x2886])) ([((rd l_freq_0 x2886, [x2886]), A3241, c3242)]) ([(rd l_freq_0 x2886, [x2886])]), .own A3248 c3249 (rowC E_valiseref6_Node ([((rd l_freq_0 x2886, [x2886]), A3241, c3242)])) 61 E_valiseref6_Node.sz] := HS3245
            have HS3252 : Hp S0 w0 w3244 [.rd A_freq_0 (rowC (Eint .i64) l_freq_0), .own A8 c9 (rowC (Eint .i64) z5) 3 (Eint .i64).sz, .own A2874 c2875 (rowC E_valiseref6_Node ds2876) 61 E_valiseref6_Node.sz, Dz D_valiseref6_Node S0 w0.heap.size B2877 ds2876 l2878, .own A3142 c3143 (rowC E_valiseref6_Node ds3144) 61 E_valiseref6_Node.sz, Dz D_valiseref6_Node S0 w0.heap.size B3145 ds3144 l3146, Dz D_valiseref6_Node S0 w0.heap.size (blk A3241 (rowC (Eint .i64) [x2886])) ([((rd l_freq_0 x2886, [x2886]), A3241, c3242)]) ([(rd l_freq_0 x2886, [x2886])]), .own A3248 c3249 (rowC E_valiseref6_Node ([((rd l_freq_0 x2886, [x2886]), A3241, c3242)])) 61 E_valiseref6_Node.sz, Dz D_valiseref6_Node S0 w0.heap.size (blk A3241 (rowC (Eint .i64) [x2886])) ([((rd l_freq_0 x2886, [x2886]), A3241, c3242)]) ([(rd l_freq_0 x2886, [x2886])])] := HS3245.dzSub (i := 6) rfl dz_self (HS3245.dze (i := 6) rfl)
            obtain ⟨l3255, h3256, H⟩ := of_bnd H
            obtain ⟨g3257, H⟩ := of_gd H
            refine F_appD (D := D_valiseref6_Node) (ds := ds3144) (ds' := ([((rd l_freq_0 x2886, [x2886]), A3241, c3242)])) (xs := l3146) (ys := ([(rd l_freq_0 x2886, [x2886])])) (i := 4) rfl rfl rfl rfl Try.underlying59 info61 rfl (by decide) (by decide) rfl rfl HS3252 rfl (HS3252.dze (i := 5) rfl) (HS3252.dze (i := 8) rfl) (HS3252.cells_own (i := 7) rfl) h3256 g3257 (fun w3253 A3258 c3259 HS3254 => ?_)
            have HS3254 : Hp S0 w0 w3253 [.rd A_freq_0 (rowC (Eint .i64) l_freq_0), .own A8 c9 (rowC (Eint .i64) z5) 3 (Eint .i64).sz, .own A2874 c2875 (rowC E_valiseref6_Node ds2876) 61 E_valiseref6_Node.sz, Dz D_valiseref6_Node S0 w0.heap.size B2877 ds2876 l2878, .own A3258 c3259 (rowC E_valiseref6_Node (ds3144 ++ ([((rd l_freq_0 x2886, [x2886]), A3241, c3242)]))) 61 E_valiseref6_Node.sz, Dz D_valiseref6_Node S0 w0.heap.size B3145 ds3144 l3146, Dz D_valiseref6_Node S0 w0.heap.size (blk A3241 (rowC (Eint .i64) [x2886])) ([((rd l_freq_0 x2886, [x2886]), A3241, c3242)]) ([(rd l_freq_0 x2886, [x2886])]), .own A3248 c3249 (rowC E_valiseref6_Node ([((rd l_freq_0 x2886, [x2886]), A3241, c3242)])) 61 E_valiseref6_Node.sz, Dz D_valiseref6_Node S0 w0.heap.size (blk A3241 (rowC (Eint .i64) [x2886])) ([((rd l_freq_0 x2886, [x2886]), A3241, c3242)]) ([(rd l_freq_0 x2886, [x2886])])] := HS3254
            have HS3260 : Hp S0 w0 w3253 [.rd A_freq_0 (rowC (Eint .i64) l_freq_0), .own A8 c9 (rowC (Eint .i64) z5) 3 (Eint .i64).sz, .own A2874 c2875 (rowC E_valiseref6_Node ds2876) 61 E_valiseref6_Node.sz, Dz D_valiseref6_Node S0 w0.heap.size B2877 ds2876 l2878, .own A3258 c3259 (rowC E_valiseref6_Node (ds3144 ++ ([((rd l_freq_0 x2886, [x2886]), A3241, c3242)]))) 61 E_valiseref6_Node.sz, Dz D_valiseref6_Node S0 w0.heap.size (orB B3145 (blk A3241 (rowC (Eint .i64) [x2886]))) (ds3144 ++ ([((rd l_freq_0 x2886, [x2886]), A3241, c3242)])) l3255, Dz D_valiseref6_Node S0 w0.heap.size (blk A3241 (rowC (Eint .i64) [x2886])) ([((rd l_freq_0 x2886, [x2886]), A3241, c3242)]) ([(rd l_freq_0 x2886, [x2886])]), .own A3248 c3249 (rowC E_valiseref6_Node ([((rd l_freq_0 x2886, [x2886]), A3241, c3242)])) 61 E_valiseref6_Node.sz, Dz D_valiseref6_Node S0 w0.heap.size (blk A3241 (rowC (Eint .i64) [x2886])) ([((rd l_freq_0 x2886, [x2886]), A3241, c3242)]) ([(rd l_freq_0 x2886, [x2886])])] := HS3254.dzApp (i := 5) (j := 8) rfl rfl h3256
            refine F_val rfl rfl rfl (O_assign rfl rfl) ?_
            refine F_nil ?_
            refine L_seq ?_
            refine L_seq ?_
            have HS3261 : Hp S0 w0 w3253 [.rd A_freq_0 (rowC (Eint .i64) l_freq_0), .own A8 c9 (rowC (Eint .i64) z5) 3 (Eint .i64).sz, .own A2874 c2875 (rowC E_valiseref6_Node ds2876) 61 E_valiseref6_Node.sz, Dz D_valiseref6_Node S0 w0.heap.size B2877 ds2876 l2878, .own A3258 c3259 (rowC E_valiseref6_Node (ds3144 ++ ([((rd l_freq_0 x2886, [x2886]), A3241, c3242)]))) 61 E_valiseref6_Node.sz, Dz D_valiseref6_Node S0 w0.heap.size (orB B3145 (blk A3241 (rowC (Eint .i64) [x2886]))) (ds3144 ++ ([((rd l_freq_0 x2886, [x2886]), A3241, c3242)])) l3255] := HS3260.sel [0, 1, 2, 3, 4, 5] rfl
            refine L_region ?_
            refine F_val rfl rfl rfl (O_move rfl rfl) ?_
            refine F_val rfl rfl rfl (O_assign rfl rfl) ?_
            refine F_nil ?_
            obtain ⟨yj3262, Hyj3262, H⟩ := of_bind H
            refine L_join (fun a w => ∃ (l3355 : List (Int × List Int)), ∃ (A3351 : Option Addr), ∃ (c3352 : Nat), ∃ (ds3353 : List ((Int × List Int) × Option Addr × Nat)), ∃ (B3354 : Nat → Prop), yj3262 = l3355 ∧ Is Try.f53.ntmps a [(0, .slice A_freq_0 l_freq_0.length c_freq_0), (3, .slice A8 z5.length c9), (5, .int .i64 i_2879), (8, .slice A3351 l3355.length c3352)] ∧ Hp S0 w0 w [.rd A_freq_0 (rowC (Eint .i64) l_freq_0), .own A8 c9 (rowC (Eint .i64) z5) 3 (Eint .i64).sz, .own A3351 c3352 (rowC E_valiseref6_Node ds3353) 61 E_valiseref6_Node.sz, Dz D_valiseref6_Node S0 w0.heap.size B3354 ds3353 l3355]) (fun Qj3262 hNj3262 hOj3262 => ?_) (fun a w hR => ?_)
            · skip
              have H := Hyj3262
              refine L_blk (fun Qb3356 hNb3356 hXb3356 hOb3356 => ?_)
              refine L_lp (fun k a w => ∃ (l3416 : List (Int × List Int)), ∃ (k_3417 : Int), ∃ (A3412 : Option Addr), ∃ (c3413 : Nat), ∃ (ds3414 : List ((Int × List Int) × Option Addr × Nat)), ∃ (B3415 : Nat → Prop), Is Try.f53.ntmps a [(0, .slice A_freq_0 l_freq_0.length c_freq_0), (3, .slice A8 z5.length c9), (4, .slice A2874 l2878.length c2875), (5, .int .i64 i_2879), (8, .slice A3412 l3416.length c3413), (10, .int .i64 k_3417)] ∧ Hp S0 w0 w [.rd A_freq_0 (rowC (Eint .i64) l_freq_0), .own A8 c9 (rowC (Eint .i64) z5) 3 (Eint .i64).sz, .own A2874 c2875 (rowC E_valiseref6_Node ds2876) 61 E_valiseref6_Node.sz, Dz D_valiseref6_Node S0 w0.heap.size B2877 ds2876 l2878, .own A3412 c3413 (rowC E_valiseref6_Node ds3414) 61 E_valiseref6_Node.sz, Dz D_valiseref6_Node S0 w0.heap.size B3415 ds3414 l3416] ∧ valiseref6_leaves.l37 k l3416 k_3417 l2878 = some yj3262) FU (fun a ha => ⟨_, _, _, _, _, _, Is.cons ha (Is.cons ha (Is.cons ha (Is.cons ha (Is.cons ha (Is.cons ha (Is.nil ha) rfl) rfl) rfl) rfl) rfl) rfl, HS3261.sel [0, 1, 2, 3, 4, 5] rfl, H⟩) (fun kp3411 a w3418 hI Qp3411 hNp3411 hOp3411 => ?_)
              obtain ⟨l3416, k_3417, A3412, c3413, ds3414, B3415, ha, HS3419, HAp3411⟩ := hI
              cases kp3411 with
              | zero => cases (show (none : Option _) = some _ from HAp3411)
              | succ kp3411 =>
                have H := (valiseref6_leaves.l37.eq_2 ..).symm.trans HAp3411
                refine wpLF_app ?_ ha
                refine L_seq ?_
                refine L_seq ?_
                refine L_region ?_
                refine F_val rfl rfl rfl (O_move rfl rfl) ?_
                refine F_val rfl rfl rfl (O_move rfl rfl) ?_
                refine F_val rfl rfl rfl (O_len rfl rfl Try.underlying59) ?_
                refine F_val rfl rfl rfl (O_lt rfl rfl rfl) ?_
                refine F_nil ?_
                refine L_condP rfl (fun c3420 => ?_) (fun c3420 => ?_)
                · have H := of_pos H c3420
                  refine L_skip ?_
                  refine L_seq ?_
                  refine L_blk (fun Q3421 hN3421 hX3421 hO3421 => ?_)
                  refine L_region ?_
                  refine F_val rfl rfl rfl (O_move rfl rfl) ?_
                  refine F_val rfl rfl rfl (O_move rfl rfl) ?_
                  refine F_val rfl rfl rfl (O_move rfl rfl) ?_
                  obtain ⟨⟨g3422, g3423⟩, H⟩ := of_gd H
                  refine F_val rfl rfl rfl (O_idx rfl rfl rfl Try.underlying59 size61 g3422 g3423 (Cells.isA (HS3419.cells_own (i := 2) rfl) (dz_ne (D := D_valiseref6_Node) (HS3419.dze (i := 3) rfl) g3422 g3423 (by decide)))) ?_
                  have HS3425 : Hp S0 w0 w3418 [.rd A_freq_0 (rowC (Eint .i64) l_freq_0), .own A8 c9 (rowC (Eint .i64) z5) 3 (Eint .i64).sz, .own A2874 c2875 (rowC E_valiseref6_Node ds2876) 61 E_valiseref6_Node.sz, Dz D_valiseref6_Node S0 w0.heap.size B2877 ds2876 l2878, .own A3412 c3413 (rowC E_valiseref6_Node ds3414) 61 E_valiseref6_Node.sz, Dz D_valiseref6_Node S0 w0.heap.size B3415 ds3414 l3416, Dz D_valiseref6_Node S0 w0.heap.size B2877 [(rdx E_valiseref6_Node ds2876 k_3417)] ([(rdp ((0, []) : (Int × List Int)) l2878 k_3417)])] := HS3419.dzOne (i := 3) rfl dz_self (HS3419.dze (i := 3) rfl) g3422 g3423
                  refine F_val rfl rfl rfl (O_loadElD (D := D_valiseref6_Node) rfl rfl wide61 (HS3425.cells_own (i := 2) rfl) (HS3425.dze (i := 3) rfl) g3422 g3423 (by decide)) ?_
                  refine F_litE (E := E_valiseref6_Node) (e := 61) [(0, .agg (E_valiseref6_Node.enc (rdx E_valiseref6_Node ds2876 k_3417)).toArray)] [(rdx E_valiseref6_Node ds2876 k_3417)] rfl rfl rfl rfl rfl rfl rfl (by decide) (fun w => by kernel_rfl) HS3425 (fun w3426 A3428 c3429 HS3427 => ?_)
                  have HS3427 : Hp S0 w0 w3426 [.rd A_freq_0 (rowC (Eint .i64) l_freq_0), .own A8 c9 (rowC (Eint .i64) z5) 3 (Eint .i64).sz, .own A2874 c2875 (rowC E_valiseref6_Node ds2876) 61 E_valiseref6_Node.sz, Dz D_valiseref6_Node S0 w0.heap.size B2877 ds2876 l2878, .own A3412 c3413 (rowC E_valiseref6_Node ds3414) 61 E_valiseref6_Node.sz, Dz D_valiseref6_Node S0 w0.heap.size B3415 ds3414 l3416, Dz D_valiseref6_Node S0 w0.heap.size B2877 [(rdx E_valiseref6_Node ds2876 k_3417)] ([(rdp ((0, []) : (Int × List Int)) l2878 k_3417)]), .own A3428 c3429 (rowC E_valiseref6_Node [(rdx E_valiseref6_Node ds2876 k_3417)]) 61 E_valiseref6_Node.sz] := HS3427
                  have HS3432 : Hp S0 w0 w3426 [.rd A_freq_0 (rowC (Eint .i64) l_freq_0), .own A8 c9 (rowC (Eint .i64) z5) 3 (Eint .i64).sz, .own A2874 c2875 (rowC E_valiseref6_Node ds2876) 61 E_valiseref6_Node.sz, Dz D_valiseref6_Node S0 w0.heap.size B2877 ds2876 l2878, .own A3412 c3413 (rowC E_valiseref6_Node ds3414) 61 E_valiseref6_Node.sz, Dz D_valiseref6_Node S0 w0.heap.size B3415 ds3414 l3416, Dz D_valiseref6_Node S0 w0.heap.size B2877 [(rdx E_valiseref6_Node ds2876 k_3417)] ([(rdp ((0, []) : (Int × List Int)) l2878 k_3417)]), .own A3428 c3429 (rowC E_valiseref6_Node [(rdx E_valiseref6_Node ds2876 k_3417)]) 61 E_valiseref6_Node.sz, Dz D_valiseref6_Node S0 w0.heap.size B2877 [(rdx E_valiseref6_Node ds2876 k_3417)] ([(rdp ((0, []) : (Int × List Int)) l2878 k_3417)])] := HS3427.dzSub (i := 6) rfl dz_self (HS3427.dze (i := 6) rfl)
                  obtain ⟨l3435, h3436, H⟩ := of_bnd H
                  obtain ⟨g3437, H⟩ := of_gd H
                  refine F_appD (D := D_valiseref6_Node) (ds := ds3414) (ds' := [(rdx E_valiseref6_Node ds2876 k_3417)]) (xs := l3416) (ys := ([(rdp ((0, []) : (Int × List Int)) l2878 k_3417)])) (i := 4) rfl rfl rfl rfl Try.underlying59 info61 rfl (by decide) (by decide) rfl rfl HS3432 rfl (HS3432.dze (i := 5) rfl) (HS3432.dze (i := 8) rfl) (HS3432.cells_own (i := 7) rfl) h3436 g3437 (fun w3433 A3438 c3439 HS3434 => ?_)
                  have HS3434 : Hp S0 w0 w3433 [.rd A_freq_0 (rowC (Eint .i64) l_freq_0), .own A8 c9 (rowC (Eint .i64) z5) 3 (Eint .i64).sz, .own A2874 c2875 (rowC E_valiseref6_Node ds2876) 61 E_valiseref6_Node.sz, Dz D_valiseref6_Node S0 w0.heap.size B2877 ds2876 l2878, .own A3438 c3439 (rowC E_valiseref6_Node (ds3414 ++ [(rdx E_valiseref6_Node ds2876 k_3417)])) 61 E_valiseref6_Node.sz, Dz D_valiseref6_Node S0 w0.heap.size B3415 ds3414 l3416, Dz D_valiseref6_Node S0 w0.heap.size B2877 [(rdx E_valiseref6_Node ds2876 k_3417)] ([(rdp ((0, []) : (Int × List Int)) l2878 k_3417)]), .own A3428 c3429 (rowC E_valiseref6_Node [(rdx E_valiseref6_Node ds2876 k_3417)]) 61 E_valiseref6_Node.sz, Dz D_valiseref6_Node S0 w0.heap.size B2877 [(rdx E_valiseref6_Node ds2876 k_3417)] ([(rdp ((0, []) : (Int × List Int)) l2878 k_3417)])] := HS3434
                  have HS3440 : Hp S0 w0 w3433 [.rd A_freq_0 (rowC (Eint .i64) l_freq_0), .own A8 c9 (rowC (Eint .i64) z5) 3 (Eint .i64).sz, .own A2874 c2875 (rowC E_valiseref6_Node ds2876) 61 E_valiseref6_Node.sz, Dz D_valiseref6_Node S0 w0.heap.size B2877 ds2876 l2878, .own A3438 c3439 (rowC E_valiseref6_Node (ds3414 ++ [(rdx E_valiseref6_Node ds2876 k_3417)])) 61 E_valiseref6_Node.sz, Dz D_valiseref6_Node S0 w0.heap.size (orB B3415 B2877) (ds3414 ++ [(rdx E_valiseref6_Node ds2876 k_3417)]) l3435, Dz D_valiseref6_Node S0 w0.heap.size B2877 [(rdx E_valiseref6_Node ds2876 k_3417)] ([(rdp ((0, []) : (Int × List Int)) l2878 k_3417)]), .own A3428 c3429 (rowC E_valiseref6_Node [(rdx E_valiseref6_Node ds2876 k_3417)]) 61 E_valiseref6_Node.sz, Dz D_valiseref6_Node S0 w0.heap.size B2877 [(rdx E_valiseref6_Node ds2876 k_3417)] ([(rdp ((0, []) : (Int × List Int)) l2878 k_3417)])] := HS3434.dzApp (i := 5) (j := 8) rfl rfl h3436
                  refine F_val rfl rfl rfl (O_assign rfl rfl) ?_
                  refine F_nil ?_
                  refine L_endB hN3421 ?_
                  have HS3441 : Hp S0 w0 w3433 [.rd A_freq_0 (rowC (Eint .i64) l_freq_0), .own A8 c9 (rowC (Eint .i64) z5) 3 (Eint .i64).sz, .own A2874 c2875 (rowC E_valiseref6_Node ds2876) 61 E_valiseref6_Node.sz, Dz D_valiseref6_Node S0 w0.heap.size B2877 ds2876 l2878, .own A3438 c3439 (rowC E_valiseref6_Node (ds3414 ++ [(rdx E_valiseref6_Node ds2876 k_3417)])) 61 E_valiseref6_Node.sz, Dz D_valiseref6_Node S0 w0.heap.size (orB B3415 B2877) (ds3414 ++ [(rdx E_valiseref6_Node ds2876 k_3417)]) l3435] := HS3440.sel [0, 1, 2, 3, 4, 5] rfl
                  refine L_region ?_
                  refine F_val rfl rfl rfl (O_move rfl rfl) ?_
                  refine F_val rfl rfl rfl (O_add rfl rfl rfl) ?_
                  obtain ⟨x3442, h3443, H⟩ := of_bnd H
                  refine F_val rfl rfl rfl (O_assign' rfl rfl (congrArg (Value.int .i64) h3443)) ?_
                  refine F_nil ?_
                  refine L_nil (fun a ha => hNp3411 _ a _ (Nat.lt_succ_self _) ⟨_, _, _, _, _, _, Is.cons ha (Is.cons ha (Is.cons ha (Is.cons ha (Is.cons ha (Is.cons ha (Is.nil ha) rfl) rfl) rfl) rfl) rfl) rfl, HS3441.sel [0, 1, 2, 3, 4, 5] rfl, H⟩)
                · have H := of_neg H c3420
                  refine L_exitB (fun a w h => hOp3411 (.exit 6) a w rfl (hXb3356 a w h)) ?_
                  refine L_nil (fun a ha => hNj3262 a _ ⟨_, _, _, _, _, (Option.some.inj H).symm, Is.cons ha (Is.cons ha (Is.cons ha (Is.cons ha (Is.nil ha) rfl) rfl) rfl) rfl, HS3419.sel [0, 1, 4, 5] rfl⟩)
            · obtain ⟨l3355, A3351, c3352, ds3353, B3354, ej, ha, HS3445⟩ := hR
              obtain rfl := ej.symm
              refine wpLF_app ?_ ha
              refine L_region ?_
              refine F_val rfl rfl rfl (O_move rfl rfl) ?_
              refine F_val rfl rfl rfl (O_assign rfl rfl) ?_
              refine F_nil ?_
              refine L_endB hN2883 ?_
              refine L_region ?_
              refine F_val rfl rfl rfl (O_move rfl rfl) ?_
              refine F_val rfl rfl rfl (O_add rfl rfl rfl) ?_
              obtain ⟨x3446, h3447, H⟩ := of_bnd H
              refine F_val rfl rfl rfl (O_assign' rfl rfl (congrArg (Value.int .i64) h3447)) ?_
              refine F_nil ?_
              refine L_nil (fun a ha => hNp2873 _ a _ (Nat.lt_succ_self _) ⟨_, _, _, _, _, _, Is.cons ha (Is.cons ha (Is.cons ha (Is.cons ha (Is.nil ha) rfl) rfl) rfl) rfl, HS3445.sel [0, 1, 2, 3] rfl, H⟩)
      · have H := of_neg H c2882
        refine L_exitB (fun a w h => hOp2873 (.exit 0) a w rfl (hXb1734 a w h)) ?_
        refine L_nil (fun a ha => hNj14 a _ ⟨_, _, _, _, _, (Option.some.inj H).symm, Is.cons ha (Is.nil ha) rfl, HS2881.sel [0, 2, 3] rfl⟩)
  · obtain ⟨l1733, A1729, c1730, ds1731, B1732, ej, ha, HS3449⟩ := hR
    obtain rfl := ej.symm
    refine wpLF_app ?_ ha
    refine L_seq ?_
    refine L_region ?_
    refine F_val rfl rfl rfl (O_move rfl rfl) ?_
    refine F_val rfl rfl rfl (O_assign rfl rfl) ?_
    refine F_nil ?_
    refine L_ret (fun a ha => (post_ret1 ha rfl rfl ?_))
    obtain rfl := Option.some.inj H
    exact ⟨_, _, _, _, rfl, HS3449.sel [1, 2] rfl⟩

/-! function 42: valise/valiseref6.zeros -/
theorem valiseref6_zeros.calls {S0 : Nat → Prop} {w0 : World} {n_0 : Int} {r : List Int} (HS0 : Hp S0 w0 w0 []) (h : valiseref6_zeros.f n_0 = some r) :
    Calls Try.prog 42 ([.int .i64 n_0] : List Value).toArray w0 (fun e w => ∃ (A1 : Option Addr), ∃ (c1 : Nat), e = .returned (.slice A1 r.length c1) ∧ Hp S0 w0 w [.own A1 c1 (rowC (Eint .i64) r) 3 (Eint .i64).sz]) := by
  have H : (((valiseref6_zeros.l1 FU ([] : List Int) 0 n_0).bind fun l66 => some l66) : Option (List Int)) = some r := h
  refine calls_start Try.func42 rfl rfl ?_
  refine L_seq ?_
  refine L_region ?_
  refine F_val rfl rfl rfl (O_assign rfl rfl) ?_
  refine F_nil ?_
  refine L_seq ?_
  refine L_region ?_
  refine F_val rfl rfl rfl (O_assign rfl rfl) ?_
  have HS1 := HS0.addNil 3 (Eint .i64).sz
  have HS1 : Hp S0 w0 w0 [.own none 0 (rowC (Eint .i64) ([] : List Int)) 3 (Eint .i64).sz] := HS1
  refine F_nil ?_
  refine L_seq ?_
  refine L_seq ?_
  refine L_region ?_
  refine F_val rfl rfl rfl (O_assign rfl rfl) ?_
  refine F_nil ?_
  obtain ⟨yj3, Hyj3, H⟩ := of_bind H
  refine L_join (fun a w => ∃ (l66 : List Int), ∃ (A64 : Option Addr), ∃ (c65 : Nat), yj3 = l66 ∧ Is Try.f42.ntmps a [(3, .slice A64 l66.length c65)] ∧ Hp S0 w0 w [.own A64 c65 (rowC (Eint .i64) l66) 3 (Eint .i64).sz]) (fun Qj3 hNj3 hOj3 => ?_) (fun a w hR => ?_)
  · skip
    have H := Hyj3
    refine L_blk (fun Qb67 hNb67 hXb67 hOb67 => ?_)
    refine L_lp (fun k a w => ∃ (l107 : List Int), ∃ (i_108 : Int), ∃ (A105 : Option Addr), ∃ (c106 : Nat), Is Try.f42.ntmps a [(0, .int .i64 n_0), (3, .slice A105 l107.length c106), (4, .int .i64 i_108)] ∧ Hp S0 w0 w [.own A105 c106 (rowC (Eint .i64) l107) 3 (Eint .i64).sz] ∧ valiseref6_zeros.l1 k l107 i_108 n_0 = some yj3) FU (fun a ha => ⟨_, _, _, _, Is.cons ha (Is.cons ha (Is.cons ha (Is.nil ha) rfl) rfl) rfl, HS1.sel [0] rfl, H⟩) (fun kp104 a w109 hI Qp104 hNp104 hOp104 => ?_)
    obtain ⟨l107, i_108, A105, c106, ha, HS110, HAp104⟩ := hI
    cases kp104 with
    | zero => cases (show (none : Option _) = some _ from HAp104)
    | succ kp104 =>
      have H := (valiseref6_zeros.l1.eq_2 ..).symm.trans HAp104
      refine wpLF_app ?_ ha
      refine L_seq ?_
      refine L_seq ?_
      refine L_region ?_
      refine F_val rfl rfl rfl (O_move rfl rfl) ?_
      refine F_val rfl rfl rfl (O_move rfl rfl) ?_
      refine F_val rfl rfl rfl (O_lt rfl rfl rfl) ?_
      refine F_nil ?_
      refine L_condP rfl (fun c111 => ?_) (fun c111 => ?_)
      · have H := of_pos H c111
        refine L_skip ?_
        refine L_seq ?_
        refine L_blk (fun Q112 hN112 hX112 hO112 => ?_)
        refine L_region ?_
        refine F_val rfl rfl rfl (O_move rfl rfl) ?_
        refine F_litE (E := (Eint .i64)) (e := 3) [(0, .int .i64 0)] [0] rfl rfl rfl rfl rfl rfl rfl (by decide) (fun w => by kernel_rfl) HS110 (fun w113 A115 c116 HS114 => ?_)
        have HS114 : Hp S0 w0 w113 [.own A105 c106 (rowC (Eint .i64) l107) 3 (Eint .i64).sz, .own A115 c116 (rowC (Eint .i64) [0]) 3 (Eint .i64).sz] := HS114
        obtain ⟨l120, h121, H⟩ := of_bnd H
        obtain ⟨g122, H⟩ := of_gd H
        refine F_appE (E := (Eint .i64)) (xs := l107) (ys := [0]) (i := 0) rfl rfl rfl rfl Try.underlying22 info3 rfl (by decide) (by decide) rfl rfl HS114 rfl (HS114.cells_own (i := 1) rfl) h121 g122 (fun w118 A123 c124 HS119 => ?_)
        have HS119 : Hp S0 w0 w118 [.own A123 c124 (rowC (Eint .i64) l120) 3 (Eint .i64).sz, .own A115 c116 (rowC (Eint .i64) [0]) 3 (Eint .i64).sz] := HS119
        refine F_val rfl rfl rfl (O_assign rfl rfl) ?_
        refine F_nil ?_
        refine L_endB hN112 ?_
        refine L_region ?_
        refine F_val rfl rfl rfl (O_move rfl rfl) ?_
        refine F_val rfl rfl rfl (O_add rfl rfl rfl) ?_
        obtain ⟨x125, h126, H⟩ := of_bnd H
        refine F_val rfl rfl rfl (O_assign' rfl rfl (congrArg (Value.int .i64) h126)) ?_
        refine F_nil ?_
        refine L_nil (fun a ha => hNp104 _ a _ (Nat.lt_succ_self _) ⟨_, _, _, _, Is.cons ha (Is.cons ha (Is.cons ha (Is.nil ha) rfl) rfl) rfl, HS119.sel [0] rfl, H⟩)
      · have H := of_neg H c111
        refine L_exitB (fun a w h => hOp104 (.exit 0) a w rfl (hXb67 a w h)) ?_
        refine L_nil (fun a ha => hNj3 a _ ⟨_, _, _, (Option.some.inj H).symm, Is.cons ha (Is.nil ha) rfl, HS110.sel [0] rfl⟩)
  · obtain ⟨l66, A64, c65, ej, ha, HS128⟩ := hR
    obtain rfl := ej.symm
    refine wpLF_app ?_ ha
    refine L_seq ?_
    refine L_region ?_
    refine F_val rfl rfl rfl (O_move rfl rfl) ?_
    refine F_val rfl rfl rfl (O_assign rfl rfl) ?_
    refine F_nil ?_
    refine L_ret (fun a ha => (post_ret1 ha rfl rfl ?_))
    obtain rfl := Option.some.inj H
    exact ⟨_, _, rfl, HS128.sel [0] rfl⟩

/-! function 54: valise/valiseref6.packages -/
theorem valiseref6_packages.calls {S0 : Nat → Prop} {w0 : World} {A_row_0 : Option Addr} {c_row_0 : Nat} {ds_row_0 : List ((Int × List Int) × Option Addr × Nat)} {B_row_0 : Nat → Prop} {l_row_0 : List (Int × List Int)} {r : List (Int × List Int)} (HS0 : Hp S0 w0 w0 [.rd A_row_0 (rowC E_valiseref6_Node ds_row_0), Dz D_valiseref6_Node anyB 0 B_row_0 ds_row_0 l_row_0]) (hc_row_0 : l_row_0.length ≤ c_row_0) (h : valiseref6_packages.f l_row_0 = some r) :
    Calls Try.prog 54 ([.slice A_row_0 l_row_0.length c_row_0] : List Value).toArray w0 (fun e w => ∃ (A1 : Option Addr), ∃ (c1 : Nat), ∃ (ds1 : List ((Int × List Int) × Option Addr × Nat)), ∃ (B1 : Nat → Prop), e = .returned (.slice A1 r.length c1) ∧ Hp S0 w0 w [.own A1 c1 (rowC E_valiseref6_Node ds1) 61 E_valiseref6_Node.sz, Dz D_valiseref6_Node (orB S0 B_row_0) w0.heap.size B1 ds1 r]) := by
  have H : (((valiseref6_packages.l21 FU ([] : List (Int × List Int)) 0 l_row_0).bind fun l2513 => some l2513) : Option (List (Int × List Int))) = some r := h
  refine calls_start Try.func54 rfl rfl ?_
  have hSF : ∀ b, S0 b → (orB S0 B_row_0) b ∨ w0.heap.size ≤ b := (fun b hb => .inl (.inl hb))
  have HS1 : Hp S0 w0 w0 [.rd A_row_0 (rowC E_valiseref6_Node ds_row_0), Dz D_valiseref6_Node (orB S0 B_row_0) w0.heap.size B_row_0 ds_row_0 l_row_0] := HS0.dzProv (i := 1) rfl (fun b _ hb => .inl (.inr hb))
  refine L_seq ?_
  refine L_region ?_
  refine F_val rfl rfl rfl (O_assign rfl rfl) ?_
  refine F_nil ?_
  refine L_seq ?_
  refine L_region ?_
  refine F_val rfl rfl rfl (O_assign rfl rfl) ?_
  have HS2 := (HS1.addNil 61 E_valiseref6_Node.sz).dzNil D_valiseref6_Node (orB S0 B_row_0) w0.heap.size
  have HS2 : Hp S0 w0 w0 [.rd A_row_0 (rowC E_valiseref6_Node ds_row_0), Dz D_valiseref6_Node (orB S0 B_row_0) w0.heap.size B_row_0 ds_row_0 l_row_0, .own none 0 (rowC E_valiseref6_Node ([] : List ((Int × List Int) × Option Addr × Nat))) 61 E_valiseref6_Node.sz, Dz D_valiseref6_Node (orB S0 B_row_0) w0.heap.size NoB ([] : List ((Int × List Int) × Option Addr × Nat)) ([] : List (Int × List Int))] := HS2
  refine F_nil ?_
  refine L_seq ?_
  refine L_seq ?_
  refine L_region ?_
  refine F_val rfl rfl rfl (O_assign rfl rfl) ?_
  refine F_nil ?_
  obtain ⟨yj5, Hyj5, H⟩ := of_bind H
  refine L_join (fun a w => ∃ (l2513 : List (Int × List Int)), ∃ (A2509 : Option Addr), ∃ (c2510 : Nat), ∃ (ds2511 : List ((Int × List Int) × Option Addr × Nat)), ∃ (B2512 : Nat → Prop), yj5 = l2513 ∧ Is Try.f54.ntmps a [(3, .slice A2509 l2513.length c2510)] ∧ Hp S0 w0 w [.rd A_row_0 (rowC E_valiseref6_Node ds_row_0), Dz D_valiseref6_Node (orB S0 B_row_0) w0.heap.size B_row_0 ds_row_0 l_row_0, .own A2509 c2510 (rowC E_valiseref6_Node ds2511) 61 E_valiseref6_Node.sz, Dz D_valiseref6_Node (orB S0 B_row_0) w0.heap.size B2512 ds2511 l2513]) (fun Qj5 hNj5 hOj5 => ?_) (fun a w hR => ?_)
  · skip
    have H := Hyj5
    refine L_blk (fun Qb2514 hNb2514 hXb2514 hOb2514 => ?_)
    refine L_lp (fun k a w => ∃ (l4184 : List (Int × List Int)), ∃ (i_4185 : Int), ∃ (A4180 : Option Addr), ∃ (c4181 : Nat), ∃ (ds4182 : List ((Int × List Int) × Option Addr × Nat)), ∃ (B4183 : Nat → Prop), Is Try.f54.ntmps a [(0, .slice A_row_0 l_row_0.length c_row_0), (3, .slice A4180 l4184.length c4181), (4, .int .i64 i_4185)] ∧ Hp S0 w0 w [.rd A_row_0 (rowC E_valiseref6_Node ds_row_0), Dz D_valiseref6_Node (orB S0 B_row_0) w0.heap.size B_row_0 ds_row_0 l_row_0, .own A4180 c4181 (rowC E_valiseref6_Node ds4182) 61 E_valiseref6_Node.sz, Dz D_valiseref6_Node (orB S0 B_row_0) w0.heap.size B4183 ds4182 l4184] ∧ valiseref6_packages.l21 k l4184 i_4185 l_row_0 = some yj5) FU (fun a ha => ⟨_, _, _, _, _, _, Is.cons ha (Is.cons ha (Is.cons ha (Is.nil ha) rfl) rfl) rfl, HS2.sel [0, 1, 2, 3] rfl, H⟩) (fun kp4179 a w4186 hI Qp4179 hNp4179 hOp4179 => ?_)
    obtain ⟨l4184, i_4185, A4180, c4181, ds4182, B4183, ha, HS4187, HAp4179⟩ := hI
    cases kp4179 with
    | zero => cases (show (none : Option _) = some _ from HAp4179)
    | succ kp4179 =>
      have H := (valiseref6_packages.l21.eq_2 ..).symm.trans HAp4179
      refine wpLF_app ?_ ha
      refine L_seq ?_
      refine L_seq ?_
      refine L_region ?_
      refine F_val rfl rfl rfl (O_move rfl rfl) ?_
      refine F_val rfl rfl rfl (O_add rfl rfl rfl) ?_
      refine F_val rfl rfl rfl (O_move rfl rfl) ?_
      refine F_val rfl rfl rfl (O_len rfl rfl Try.underlying59) ?_
      refine F_val rfl rfl rfl (O_lt rfl rfl rfl) ?_
      refine F_nil ?_
      refine L_condP rfl (fun c4188 => ?_) (fun c4188 => ?_)
      · have H := of_pos H c4188
        refine L_skip ?_
        refine L_seq ?_
        refine L_blk (fun Q4189 hN4189 hX4189 hO4189 => ?_)
        refine L_seq ?_
        obtain ⟨⟨g4190, g4191⟩, H⟩ := of_gd H
        have HS4193 : Hp S0 w0 w4186 [.rd A_row_0 (rowC E_valiseref6_Node ds_row_0), Dz D_valiseref6_Node (orB S0 B_row_0) w0.heap.size B_row_0 ds_row_0 l_row_0, .own A4180 c4181 (rowC E_valiseref6_Node ds4182) 61 E_valiseref6_Node.sz, Dz D_valiseref6_Node (orB S0 B_row_0) w0.heap.size B4183 ds4182 l4184, Dz D_valiseref6_Node (orB S0 B_row_0) w0.heap.size B_row_0 [(rdx E_valiseref6_Node ds_row_0 i_4185)] ([(rdp ((0, []) : (Int × List Int)) l_row_0 i_4185)])] := HS4187.dzOne (i := 1) rfl dz_self (HS4187.dze (i := 1) rfl) g4190 g4191
        obtain ⟨⟨g4194, g4195⟩, H⟩ := of_gd H
        have HS4197 : Hp S0 w0 w4186 [.rd A_row_0 (rowC E_valiseref6_Node ds_row_0), Dz D_valiseref6_Node (orB S0 B_row_0) w0.heap.size B_row_0 ds_row_0 l_row_0, .own A4180 c4181 (rowC E_valiseref6_Node ds4182) 61 E_valiseref6_Node.sz, Dz D_valiseref6_Node (orB S0 B_row_0) w0.heap.size B4183 ds4182 l4184, Dz D_valiseref6_Node (orB S0 B_row_0) w0.heap.size B_row_0 [(rdx E_valiseref6_Node ds_row_0 i_4185)] ([(rdp ((0, []) : (Int × List Int)) l_row_0 i_4185)]), Dz D_valiseref6_Node (orB S0 B_row_0) w0.heap.size B_row_0 [(rdx E_valiseref6_Node ds_row_0 (IntKind.i64.wrap (i_4185 + 1)))] ([(rdp ((0, []) : (Int × List Int)) l_row_0 (IntKind.i64.wrap (i_4185 + 1)))])] := HS4193.dzOne (i := 1) rfl dz_self (HS4193.dze (i := 1) rfl) g4194 g4195
        refine L_heldS 15 0 [] mix rfl (fun w4208 hw4209 => ?_)
        have HS4210 := HS4197.keep hw4209
        refine ⟨HS4210.turns [], ?_⟩
        have HR4211 : Hp (HS4210.ft []) w4208 w4208 [.rd A_row_0 (rowC E_valiseref6_Node ds_row_0), Dz D_valiseref6_Node anyB 0 B_row_0 ds_row_0 l_row_0, .rd A4180 (rowC E_valiseref6_Node ds4182), Dz D_valiseref6_Node anyB 0 B4183 ds4182 l4184, Dz D_valiseref6_Node anyB 0 B_row_0 [(rdx E_valiseref6_Node ds_row_0 i_4185)] ([(rdp ((0, []) : (Int × List Int)) l_row_0 i_4185)]), Dz D_valiseref6_Node anyB 0 B_row_0 [(rdx E_valiseref6_Node ds_row_0 (IntKind.i64.wrap (i_4185 + 1)))] ([(rdp ((0, []) : (Int × List Int)) l_row_0 (IntKind.i64.wrap (i_4185 + 1)))])] := HS4210.give [] rfl (Lent.rd HS4210 (Lent.dz HS4210 (Lent.own HS4210 (Lent.dz HS4210 (Lent.dz HS4210 (Lent.dz HS4210 (Lent.nil) (i := 5) rfl dz_self (HS4210.dze (i := 5) rfl)) (i := 4) rfl dz_self (HS4210.dze (i := 4) rfl)) (i := 3) rfl dz_self (HS4210.dze (i := 3) rfl)) (i := 2) rfl rfl (HS4210.cells_own (i := 2) rfl).self) (i := 1) rfl dz_self (HS4210.dze (i := 1) rfl)) (i := 0) rfl (HS4210.cells_rd (i := 0) rfl).self)
        have hSF4212 : ∀ b, HS4210.ft [] b → (orB (orB (orB (orB (HS4210.ft []) B_row_0) B4183) B_row_0) B_row_0) b ∨ w4208.heap.size ≤ b := fun b hb => .inl (.inl (.inl (.inl (.inl hb))))
        have HS4213 : Hp (HS4210.ft []) w4208 w4208 [.rd A_row_0 (rowC E_valiseref6_Node ds_row_0), Dz D_valiseref6_Node (orB (orB (orB (orB (HS4210.ft []) B_row_0) B4183) B_row_0) B_row_0) w4208.heap.size B_row_0 ds_row_0 l_row_0, .rd A4180 (rowC E_valiseref6_Node ds4182), Dz D_valiseref6_Node anyB 0 B4183 ds4182 l4184, Dz D_valiseref6_Node anyB 0 B_row_0 [(rdx E_valiseref6_Node ds_row_0 i_4185)] ([(rdp ((0, []) : (Int × List Int)) l_row_0 i_4185)]), Dz D_valiseref6_Node anyB 0 B_row_0 [(rdx E_valiseref6_Node ds_row_0 (IntKind.i64.wrap (i_4185 + 1)))] ([(rdp ((0, []) : (Int × List Int)) l_row_0 (IntKind.i64.wrap (i_4185 + 1)))])] := HR4211.dzProv (i := 1) rfl (fun b _ hb => .inl (.inl (.inl (.inl (.inr hb)))))
        have HS4214 : Hp (HS4210.ft []) w4208 w4208 [.rd A_row_0 (rowC E_valiseref6_Node ds_row_0), Dz D_valiseref6_Node (orB (orB (orB (orB (HS4210.ft []) B_row_0) B4183) B_row_0) B_row_0) w4208.heap.size B_row_0 ds_row_0 l_row_0, .rd A4180 (rowC E_valiseref6_Node ds4182), Dz D_valiseref6_Node (orB (orB (orB (orB (HS4210.ft []) B_row_0) B4183) B_row_0) B_row_0) w4208.heap.size B4183 ds4182 l4184, Dz D_valiseref6_Node anyB 0 B_row_0 [(rdx E_valiseref6_Node ds_row_0 i_4185)] ([(rdp ((0, []) : (Int × List Int)) l_row_0 i_4185)]), Dz D_valiseref6_Node anyB 0 B_row_0 [(rdx E_valiseref6_Node ds_row_0 (IntKind.i64.wrap (i_4185 + 1)))] ([(rdp ((0, []) : (Int × List Int)) l_row_0 (IntKind.i64.wrap (i_4185 + 1)))])] := HS4213.dzProv (i := 3) rfl (fun b _ hb => .inl (.inl (.inl (.inr hb))))
        have HS4215 : Hp (HS4210.ft []) w4208 w4208 [.rd A_row_0 (rowC E_valiseref6_Node ds_row_0), Dz D_valiseref6_Node (orB (orB (orB (orB (HS4210.ft []) B_row_0) B4183) B_row_0) B_row_0) w4208.heap.size B_row_0 ds_row_0 l_row_0, .rd A4180 (rowC E_valiseref6_Node ds4182), Dz D_valiseref6_Node (orB (orB (orB (orB (HS4210.ft []) B_row_0) B4183) B_row_0) B_row_0) w4208.heap.size B4183 ds4182 l4184, Dz D_valiseref6_Node (orB (orB (orB (orB (HS4210.ft []) B_row_0) B4183) B_row_0) B_row_0) w4208.heap.size B_row_0 [(rdx E_valiseref6_Node ds_row_0 i_4185)] ([(rdp ((0, []) : (Int × List Int)) l_row_0 i_4185)]), Dz D_valiseref6_Node anyB 0 B_row_0 [(rdx E_valiseref6_Node ds_row_0 (IntKind.i64.wrap (i_4185 + 1)))] ([(rdp ((0, []) : (Int × List Int)) l_row_0 (IntKind.i64.wrap (i_4185 + 1)))])] := HS4214.dzProv (i := 4) rfl (fun b _ hb => .inl (.inl (.inr hb)))
        have HS4216 : Hp (HS4210.ft []) w4208 w4208 [.rd A_row_0 (rowC E_valiseref6_Node ds_row_0), Dz D_valiseref6_Node (orB (orB (orB (orB (HS4210.ft []) B_row_0) B4183) B_row_0) B_row_0) w4208.heap.size B_row_0 ds_row_0 l_row_0, .rd A4180 (rowC E_valiseref6_Node ds4182), Dz D_valiseref6_Node (orB (orB (orB (orB (HS4210.ft []) B_row_0) B4183) B_row_0) B_row_0) w4208.heap.size B4183 ds4182 l4184, Dz D_valiseref6_Node (orB (orB (orB (orB (HS4210.ft []) B_row_0) B4183) B_row_0) B_row_0) w4208.heap.size B_row_0 [(rdx E_valiseref6_Node ds_row_0 i_4185)] ([(rdp ((0, []) : (Int × List Int)) l_row_0 i_4185)]), Dz D_valiseref6_Node (orB (orB (orB (orB (HS4210.ft []) B_row_0) B4183) B_row_0) B_row_0) w4208.heap.size B_row_0 [(rdx E_valiseref6_Node ds_row_0 (IntKind.i64.wrap (i_4185 + 1)))] ([(rdp ((0, []) : (Int × List Int)) l_row_0 (IntKind.i64.wrap (i_4185 + 1)))])] := HS4215.dzProv (i := 5) rfl (fun b _ hb => .inl (.inr hb))
        refine H_val (i := 0) rfl (by kernel_rfl) (by kernel_rfl) (by kernel_rfl) (by kernel_rfl) rfl rfl rfl HS4216.chg (fun wq hq => O_move rfl rfl) ?_
        refine H_val (i := 1) rfl (by kernel_rfl) (by kernel_rfl) (by kernel_rfl) (by kernel_rfl) rfl rfl rfl HS4216.chg (fun wq hq => O_move rfl rfl) ?_
        refine H_val (i := 2) rfl (by kernel_rfl) (by kernel_rfl) (by kernel_rfl) (by kernel_rfl) rfl rfl rfl HS4216.chg (fun wq hq => O_idx rfl rfl rfl Try.underlying59 size61 g4190 g4191 (Cells.isA ((HS4210.keepT [] hq).cells_rd (i := 0) rfl) (dz_ne (D := D_valiseref6_Node) ((HS4210.keepT [] hq).dze (i := 1) rfl) g4190 g4191 (by decide)))) ?_
        refine H_val (i := 3) rfl (by kernel_rfl) (by kernel_rfl) (by kernel_rfl) (by kernel_rfl) rfl rfl rfl HS4216.chg (fun wq hq => O_fieldC rfl rfl (Cells.isA ((HS4210.keepT [] hq).cells_rd (i := 0) rfl) (dz_ne (D := D_valiseref6_Node) ((HS4210.keepT [] hq).dze (i := 1) rfl) g4190 g4191 (by decide))) field61_0) ?_
        refine H_val (i := 4) rfl (by kernel_rfl) (by kernel_rfl) (by kernel_rfl) (by kernel_rfl) rfl rfl rfl HS4216.chg (fun wq hq => O_loadC rfl rfl flat3 ((HS4210.keepT [] hq).cells_rd (i := 0) rfl) (dz_cell (D := D_valiseref6_Node) (f := fun x => .int .i64 x.1) 0 (fun d => rfl) ((HS4210.keepT [] hq).dze (i := 1) rfl) g4190 g4191)) ?_
        refine H_val (i := 5) rfl (by kernel_rfl) (by kernel_rfl) (by kernel_rfl) (by kernel_rfl) rfl rfl rfl HS4216.chg (fun wq hq => O_move rfl rfl) ?_
        refine H_val (i := 6) rfl (by kernel_rfl) (by kernel_rfl) (by kernel_rfl) (by kernel_rfl) rfl rfl rfl HS4216.chg (fun wq hq => O_move rfl rfl) ?_
        refine H_val (i := 7) rfl (by kernel_rfl) (by kernel_rfl) (by kernel_rfl) (by kernel_rfl) rfl rfl rfl HS4216.chg (fun wq hq => O_add rfl rfl rfl) ?_
        refine H_val (i := 8) rfl (by kernel_rfl) (by kernel_rfl) (by kernel_rfl) (by kernel_rfl) rfl rfl rfl HS4216.chg (fun wq hq => O_idx rfl rfl rfl Try.underlying59 size61 g4194 g4195 (Cells.isA ((HS4210.keepT [] hq).cells_rd (i := 0) rfl) (dz_ne (D := D_valiseref6_Node) ((HS4210.keepT [] hq).dze (i := 1) rfl) g4194 g4195 (by decide)))) ?_
        refine H_val (i := 9) rfl (by kernel_rfl) (by kernel_rfl) (by kernel_rfl) (by kernel_rfl) rfl rfl rfl HS4216.chg (fun wq hq => O_fieldC rfl rfl (Cells.isA ((HS4210.keepT [] hq).cells_rd (i := 0) rfl) (dz_ne (D := D_valiseref6_Node) ((HS4210.keepT [] hq).dze (i := 1) rfl) g4194 g4195 (by decide))) field61_0) ?_
        refine H_val (i := 10) rfl (by kernel_rfl) (by kernel_rfl) (by kernel_rfl) (by kernel_rfl) rfl rfl rfl HS4216.chg (fun wq hq => O_loadC rfl rfl flat3 ((HS4210.keepT [] hq).cells_rd (i := 0) rfl) (dz_cell (D := D_valiseref6_Node) (f := fun x => .int .i64 x.1) 0 (fun d => rfl) ((HS4210.keepT [] hq).dze (i := 1) rfl) g4194 g4195)) ?_
        refine H_val (i := 11) rfl (by kernel_rfl) (by kernel_rfl) (by kernel_rfl) (by kernel_rfl) rfl rfl rfl HS4216.chg (fun wq hq => O_add rfl rfl rfl) ?_
        refine H_val (i := 12) rfl (by kernel_rfl) (by kernel_rfl) (by kernel_rfl) (by kernel_rfl) rfl rfl rfl HS4216.chg (fun wq hq => O_build (vs := [(0, .int .i64 (IntKind.i64.wrap (((rdp ((0, []) : (Int × List Int)) l_row_0 i_4185).1) + ((rdp ((0, []) : (Int × List Int)) l_row_0 (IntKind.i64.wrap (i_4185 + 1))).1))))]) (v := .agg #[.int .i64 (IntKind.i64.wrap (((rdp ((0, []) : (Int × List Int)) l_row_0 i_4185).1) + ((rdp ((0, []) : (Int × List Int)) l_row_0 (IntKind.i64.wrap (i_4185 + 1))).1))), .slice none 0 0]) rfl rfl rfl (fun w => by kernel_rfl)) ?_
        refine H_one (i := 13) rfl (by kernel_rfl) (by kernel_rfl) ?_
        refine F_alloc (C := [.int .i64 0, .slice none 0 0]) rfl rfl rfl rfl zero61 rfl HS4216 (fun w4219 g4221 HS4220 => ?_)
        have HS4220 : Hp (HS4210.ft []) w4208 w4219 [.rd A_row_0 (rowC E_valiseref6_Node ds_row_0), Dz D_valiseref6_Node (orB (orB (orB (orB (HS4210.ft []) B_row_0) B4183) B_row_0) B_row_0) w4208.heap.size B_row_0 ds_row_0 l_row_0, .rd A4180 (rowC E_valiseref6_Node ds4182), Dz D_valiseref6_Node (orB (orB (orB (orB (HS4210.ft []) B_row_0) B4183) B_row_0) B_row_0) w4208.heap.size B4183 ds4182 l4184, Dz D_valiseref6_Node (orB (orB (orB (orB (HS4210.ft []) B_row_0) B4183) B_row_0) B_row_0) w4208.heap.size B_row_0 [(rdx E_valiseref6_Node ds_row_0 i_4185)] ([(rdp ((0, []) : (Int × List Int)) l_row_0 i_4185)]), Dz D_valiseref6_Node (orB (orB (orB (orB (HS4210.ft []) B_row_0) B4183) B_row_0) B_row_0) w4208.heap.size B_row_0 [(rdx E_valiseref6_Node ds_row_0 (IntKind.i64.wrap (i_4185 + 1)))] ([(rdp ((0, []) : (Int × List Int)) l_row_0 (IntKind.i64.wrap (i_4185 + 1)))]), .box g4221 [.int .i64 0, .slice none 0 0] 61] := HS4220
        refine H_next HS4220.chg ?_
        refine H_one (i := 14) rfl (by kernel_rfl) (by kernel_rfl) ?_
        have HS4225 := HS4220.addNil 3 (Eint .i64).sz
        have HS4225 : Hp (HS4210.ft []) w4208 w4219 [.rd A_row_0 (rowC E_valiseref6_Node ds_row_0), Dz D_valiseref6_Node (orB (orB (orB (orB (HS4210.ft []) B_row_0) B4183) B_row_0) B_row_0) w4208.heap.size B_row_0 ds_row_0 l_row_0, .rd A4180 (rowC E_valiseref6_Node ds4182), Dz D_valiseref6_Node (orB (orB (orB (orB (HS4210.ft []) B_row_0) B4183) B_row_0) B_row_0) w4208.heap.size B4183 ds4182 l4184, Dz D_valiseref6_Node (orB (orB (orB (orB (HS4210.ft []) B_row_0) B4183) B_row_0) B_row_0) w4208.heap.size B_row_0 [(rdx E_valiseref6_Node ds_row_0 i_4185)] ([(rdp ((0, []) : (Int × List Int)) l_row_0 i_4185)]), Dz D_valiseref6_Node (orB (orB (orB (orB (HS4210.ft []) B_row_0) B4183) B_row_0) B_row_0) w4208.heap.size B_row_0 [(rdx E_valiseref6_Node ds_row_0 (IntKind.i64.wrap (i_4185 + 1)))] ([(rdp ((0, []) : (Int × List Int)) l_row_0 (IntKind.i64.wrap (i_4185 + 1)))]), .box g4221 [.int .i64 0, .slice none 0 0] 61, .own none 0 (rowC (Eint .i64) ([] : List Int)) 3 (Eint .i64).sz] := HS4225
        refine F_stB 6 ([.int .i64 (IntKind.i64.wrap (((rdp ((0, []) : (Int × List Int)) l_row_0 i_4185).1) + ((rdp ((0, []) : (Int × List Int)) l_row_0 (IntKind.i64.wrap (i_4185 + 1))).1))), .slice none ([] : List Int).length 0]) rfl rfl rfl rfl rfl size61 HS4225 rfl rfl rfl rfl rfl (fun w4223 HS4224 => ?_)
        have HS4224 : Hp (HS4210.ft []) w4208 w4223 [.rd A_row_0 (rowC E_valiseref6_Node ds_row_0), Dz D_valiseref6_Node (orB (orB (orB (orB (HS4210.ft []) B_row_0) B4183) B_row_0) B_row_0) w4208.heap.size B_row_0 ds_row_0 l_row_0, .rd A4180 (rowC E_valiseref6_Node ds4182), Dz D_valiseref6_Node (orB (orB (orB (orB (HS4210.ft []) B_row_0) B4183) B_row_0) B_row_0) w4208.heap.size B4183 ds4182 l4184, Dz D_valiseref6_Node (orB (orB (orB (orB (HS4210.ft []) B_row_0) B4183) B_row_0) B_row_0) w4208.heap.size B_row_0 [(rdx E_valiseref6_Node ds_row_0 i_4185)] ([(rdp ((0, []) : (Int × List Int)) l_row_0 i_4185)]), Dz D_valiseref6_Node (orB (orB (orB (orB (HS4210.ft []) B_row_0) B4183) B_row_0) B_row_0) w4208.heap.size B_row_0 [(rdx E_valiseref6_Node ds_row_0 (IntKind.i64.wrap (i_4185 + 1)))] ([(rdp ((0, []) : (Int × List Int)) l_row_0 (IntKind.i64.wrap (i_4185 + 1)))]), .box g4221 ([.int .i64 (IntKind.i64.wrap (((rdp ((0, []) : (Int × List Int)) l_row_0 i_4185).1) + ((rdp ((0, []) : (Int × List Int)) l_row_0 (IntKind.i64.wrap (i_4185 + 1))).1))), .slice none ([] : List Int).length 0]) 61, .own none 0 (rowC (Eint .i64) ([] : List Int)) 3 (Eint .i64).sz] := HS4224
        refine H_next HS4224.chg ?_
        refine H_end (by kernel_rfl) ?_
        have HS4227 : Hp S0 w0 w4223 [.rd A_row_0 (rowC E_valiseref6_Node ds_row_0), Dz D_valiseref6_Node (orB S0 B_row_0) w0.heap.size B_row_0 ds_row_0 l_row_0, .own A4180 c4181 (rowC E_valiseref6_Node ds4182) 61 E_valiseref6_Node.sz, Dz D_valiseref6_Node (orB S0 B_row_0) w0.heap.size B4183 ds4182 l4184, Dz D_valiseref6_Node (orB S0 B_row_0) w0.heap.size B_row_0 [(rdx E_valiseref6_Node ds_row_0 i_4185)] ([(rdp ((0, []) : (Int × List Int)) l_row_0 i_4185)]), Dz D_valiseref6_Node (orB S0 B_row_0) w0.heap.size B_row_0 [(rdx E_valiseref6_Node ds_row_0 (IntKind.i64.wrap (i_4185 + 1)))] ([(rdp ((0, []) : (Int × List Int)) l_row_0 (IntKind.i64.wrap (i_4185 + 1)))]), .box g4221 ([.int .i64 (IntKind.i64.wrap (((rdp ((0, []) : (Int × List Int)) l_row_0 i_4185).1) + ((rdp ((0, []) : (Int × List Int)) l_row_0 (IntKind.i64.wrap (i_4185 + 1))).1))), .slice none ([] : List Int).length 0]) 61, .own none 0 (rowC (Eint .i64) ([] : List Int)) 3 (Eint .i64).sz] := (HS4210.back [] (HS4224.sel [6, 7] rfl) rfl).sel [0, 1, 2, 3, 4, 5, 6, 7] rfl
        refine T_done (by kernel_rfl) ?_
        refine L_seq ?_
        refine L_seq ?_
        have HS4228 : Hp S0 w0 w4223 [.rd A_row_0 (rowC E_valiseref6_Node ds_row_0), Dz D_valiseref6_Node (orB S0 B_row_0) w0.heap.size B_row_0 ds_row_0 l_row_0, .own A4180 c4181 (rowC E_valiseref6_Node ds4182) 61 E_valiseref6_Node.sz, Dz D_valiseref6_Node (orB S0 B_row_0) w0.heap.size B4183 ds4182 l4184, .box g4221 ([.int .i64 (IntKind.i64.wrap (((rdp ((0, []) : (Int × List Int)) l_row_0 i_4185).1) + ((rdp ((0, []) : (Int × List Int)) l_row_0 (IntKind.i64.wrap (i_4185 + 1))).1))), .slice none ([] : List Int).length 0]) 61, .own none 0 (rowC (Eint .i64) ([] : List Int)) 3 (Eint .i64).sz] := HS4227.sel [0, 1, 2, 3, 6, 7] rfl
        refine L_region ?_
        refine F_val rfl rfl rfl (O_assign rfl rfl) ?_
        refine F_nil ?_
        obtain ⟨yj4229, Hyj4229, H⟩ := of_bind H
        refine L_join (fun a w => ∃ (l4421 : List Int), ∃ (A4419 : Option Addr), ∃ (c4420 : Nat), yj4229 = l4421 ∧ Is Try.f54.ntmps a [(0, .slice A_row_0 l_row_0.length c_row_0), (3, .slice A4180 l4184.length c4181), (4, .int .i64 i_4185), (5, .pointer (some ⟨g4221, 0, none⟩))] ∧ Hp S0 w0 w [.rd A_row_0 (rowC E_valiseref6_Node ds_row_0), Dz D_valiseref6_Node (orB S0 B_row_0) w0.heap.size B_row_0 ds_row_0 l_row_0, .own A4180 c4181 (rowC E_valiseref6_Node ds4182) 61 E_valiseref6_Node.sz, Dz D_valiseref6_Node (orB S0 B_row_0) w0.heap.size B4183 ds4182 l4184, .box g4221 ([.int .i64 (IntKind.i64.wrap (((rdp ((0, []) : (Int × List Int)) l_row_0 i_4185).1) + ((rdp ((0, []) : (Int × List Int)) l_row_0 (IntKind.i64.wrap (i_4185 + 1))).1))), .slice A4419 l4421.length c4420]) 61, .own A4419 c4420 (rowC (Eint .i64) l4421) 3 (Eint .i64).sz]) (fun Qj4229 hNj4229 hOj4229 => ?_) (fun a w hR => ?_)
        · skip
          have H := Hyj4229
          refine L_blk (fun Qb4422 hNb4422 hXb4422 hOb4422 => ?_)
          refine L_lp (fun k a w => ∃ (l4548 : List Int), ∃ (k_4549 : Int), ∃ (A4546 : Option Addr), ∃ (c4547 : Nat), Is Try.f54.ntmps a [(0, .slice A_row_0 l_row_0.length c_row_0), (3, .slice A4180 l4184.length c4181), (4, .int .i64 i_4185), (5, .pointer (some ⟨g4221, 0, none⟩)), (6, .int .i64 k_4549)] ∧ Hp S0 w0 w [.rd A_row_0 (rowC E_valiseref6_Node ds_row_0), Dz D_valiseref6_Node (orB S0 B_row_0) w0.heap.size B_row_0 ds_row_0 l_row_0, .own A4180 c4181 (rowC E_valiseref6_Node ds4182) 61 E_valiseref6_Node.sz, Dz D_valiseref6_Node (orB S0 B_row_0) w0.heap.size B4183 ds4182 l4184, .box g4221 ([.int .i64 (IntKind.i64.wrap (((rdp ((0, []) : (Int × List Int)) l_row_0 i_4185).1) + ((rdp ((0, []) : (Int × List Int)) l_row_0 (IntKind.i64.wrap (i_4185 + 1))).1))), .slice A4546 l4548.length c4547]) 61, .own A4546 c4547 (rowC (Eint .i64) l4548) 3 (Eint .i64).sz] ∧ valiseref6_packages.l23 k l4548 k_4549 l_row_0 i_4185 = some yj4229) FU (fun a ha => ⟨_, _, _, _, Is.cons ha (Is.cons ha (Is.cons ha (Is.cons ha (Is.cons ha (Is.nil ha) rfl) rfl) rfl) rfl) rfl, HS4228.sel [0, 1, 2, 3, 4, 5] rfl, H⟩) (fun kp4545 a w4550 hI Qp4545 hNp4545 hOp4545 => ?_)
          obtain ⟨l4548, k_4549, A4546, c4547, ha, HS4551, HAp4545⟩ := hI
          cases kp4545 with
          | zero => cases (show (none : Option _) = some _ from HAp4545)
          | succ kp4545 =>
            have H := (valiseref6_packages.l23.eq_2 ..).symm.trans HAp4545
            refine wpLF_app ?_ ha
            refine L_seq ?_
            refine L_seq ?_
            refine L_region ?_
            refine F_val rfl rfl rfl (O_move rfl rfl) ?_
            refine F_val rfl rfl rfl (O_move rfl rfl) ?_
            refine F_val rfl rfl rfl (O_move rfl rfl) ?_
            refine F_val rfl rfl rfl (O_idx rfl rfl rfl Try.underlying59 size61 g4190 g4191 (Cells.isA (HS4551.cells_rd (i := 0) rfl) (dz_ne (D := D_valiseref6_Node) (HS4551.dze (i := 1) rfl) g4190 g4191 (by decide)))) ?_
            refine F_val rfl rfl rfl (O_fieldC rfl rfl (Cells.isA (HS4551.cells_rd (i := 0) rfl) (dz_ne (D := D_valiseref6_Node) (HS4551.dze (i := 1) rfl) g4190 g4191 (by decide))) field61_1) ?_
            have HS4553 : Hp S0 w0 w4550 [.rd A_row_0 (rowC E_valiseref6_Node ds_row_0), Dz D_valiseref6_Node (orB S0 B_row_0) w0.heap.size B_row_0 ds_row_0 l_row_0, .own A4180 c4181 (rowC E_valiseref6_Node ds4182) 61 E_valiseref6_Node.sz, Dz D_valiseref6_Node (orB S0 B_row_0) w0.heap.size B4183 ds4182 l4184, .box g4221 ([.int .i64 (IntKind.i64.wrap (((rdp ((0, []) : (Int × List Int)) l_row_0 i_4185).1) + ((rdp ((0, []) : (Int × List Int)) l_row_0 (IntKind.i64.wrap (i_4185 + 1))).1))), .slice A4546 l4548.length c4547]) 61, .own A4546 c4547 (rowC (Eint .i64) l4548) 3 (Eint .i64).sz, Dz D_valiseref6_Node (orB S0 B_row_0) w0.heap.size B_row_0 [(rdx E_valiseref6_Node ds_row_0 i_4185)] ([(rdp ((0, []) : (Int × List Int)) l_row_0 i_4185)])] := HS4551.dzOne (i := 1) rfl dz_self (HS4551.dze (i := 1) rfl) g4190 g4191
            have hc4554 := HS4553.ndCap (i := 6) rfl (rfl : _ = (rdp ((0, []) : (Int × List Int)) l_row_0 i_4185).2)
            have HS4556 : Hp S0 w0 w4550 [.rd A_row_0 (rowC E_valiseref6_Node ds_row_0), Dz D_valiseref6_Node (orB S0 B_row_0) w0.heap.size B_row_0 ds_row_0 l_row_0, .own A4180 c4181 (rowC E_valiseref6_Node ds4182) 61 E_valiseref6_Node.sz, Dz D_valiseref6_Node (orB S0 B_row_0) w0.heap.size B4183 ds4182 l4184, .box g4221 ([.int .i64 (IntKind.i64.wrap (((rdp ((0, []) : (Int × List Int)) l_row_0 i_4185).1) + ((rdp ((0, []) : (Int × List Int)) l_row_0 (IntKind.i64.wrap (i_4185 + 1))).1))), .slice A4546 l4548.length c4547]) 61, .own A4546 c4547 (rowC (Eint .i64) l4548) 3 (Eint .i64).sz, Dz D_valiseref6_Node (orB S0 B_row_0) w0.heap.size B_row_0 [(rdx E_valiseref6_Node ds_row_0 i_4185)] ([(rdp ((0, []) : (Int × List Int)) l_row_0 i_4185)]), .rd ((rdx E_valiseref6_Node ds_row_0 i_4185).2.1) (rowC (Eint .i64) ((rdp ((0, []) : (Int × List Int)) l_row_0 i_4185).2))] := HS4553.ndRd (i := 6) rfl rfl
            refine F_val rfl rfl rfl (O_loadC rfl rfl flat22 (HS4556.cells_rd (i := 0) rfl) (dz_cellS (D := D_valiseref6_Node) (f := fun x A c => .slice A x.2.length c) 1 (fun d => rfl) rfl (HS4556.dze (i := 1) rfl) g4190 g4191)) ?_
            refine F_val rfl rfl rfl (O_len rfl rfl Try.underlying22) ?_
            refine F_val rfl rfl rfl (O_lt rfl rfl rfl) ?_
            refine F_nil ?_
            refine L_condP rfl (fun c4557 => ?_) (fun c4557 => ?_)
            · have H := of_pos H c4557
              refine L_skip ?_
              refine L_seq ?_
              refine L_blk (fun Q4558 hN4558 hX4558 hO4558 => ?_)
              have HS4559 : Hp S0 w0 w4550 [.rd A_row_0 (rowC E_valiseref6_Node ds_row_0), Dz D_valiseref6_Node (orB S0 B_row_0) w0.heap.size B_row_0 ds_row_0 l_row_0, .own A4180 c4181 (rowC E_valiseref6_Node ds4182) 61 E_valiseref6_Node.sz, Dz D_valiseref6_Node (orB S0 B_row_0) w0.heap.size B4183 ds4182 l4184, .box g4221 ([.int .i64 (IntKind.i64.wrap (((rdp ((0, []) : (Int × List Int)) l_row_0 i_4185).1) + ((rdp ((0, []) : (Int × List Int)) l_row_0 (IntKind.i64.wrap (i_4185 + 1))).1))), .slice A4546 l4548.length c4547]) 61, .own A4546 c4547 (rowC (Eint .i64) l4548) 3 (Eint .i64).sz] := HS4556.sel [0, 1, 2, 3, 4, 5] rfl
              have HS4561 : Hp S0 w0 w4550 [.rd A_row_0 (rowC E_valiseref6_Node ds_row_0), Dz D_valiseref6_Node (orB S0 B_row_0) w0.heap.size B_row_0 ds_row_0 l_row_0, .own A4180 c4181 (rowC E_valiseref6_Node ds4182) 61 E_valiseref6_Node.sz, Dz D_valiseref6_Node (orB S0 B_row_0) w0.heap.size B4183 ds4182 l4184, .box g4221 ([.int .i64 (IntKind.i64.wrap (((rdp ((0, []) : (Int × List Int)) l_row_0 i_4185).1) + ((rdp ((0, []) : (Int × List Int)) l_row_0 (IntKind.i64.wrap (i_4185 + 1))).1))), .slice A4546 l4548.length c4547]) 61, .own A4546 c4547 (rowC (Eint .i64) l4548) 3 (Eint .i64).sz, Dz D_valiseref6_Node (orB S0 B_row_0) w0.heap.size B_row_0 [(rdx E_valiseref6_Node ds_row_0 i_4185)] ([(rdp ((0, []) : (Int × List Int)) l_row_0 i_4185)])] := HS4559.dzOne (i := 1) rfl dz_self (HS4559.dze (i := 1) rfl) g4190 g4191
              have hc4562 := HS4561.ndCap (i := 6) rfl (rfl : _ = (rdp ((0, []) : (Int × List Int)) l_row_0 i_4185).2)
              have HS4564 : Hp S0 w0 w4550 [.rd A_row_0 (rowC E_valiseref6_Node ds_row_0), Dz D_valiseref6_Node (orB S0 B_row_0) w0.heap.size B_row_0 ds_row_0 l_row_0, .own A4180 c4181 (rowC E_valiseref6_Node ds4182) 61 E_valiseref6_Node.sz, Dz D_valiseref6_Node (orB S0 B_row_0) w0.heap.size B4183 ds4182 l4184, .box g4221 ([.int .i64 (IntKind.i64.wrap (((rdp ((0, []) : (Int × List Int)) l_row_0 i_4185).1) + ((rdp ((0, []) : (Int × List Int)) l_row_0 (IntKind.i64.wrap (i_4185 + 1))).1))), .slice A4546 l4548.length c4547]) 61, .own A4546 c4547 (rowC (Eint .i64) l4548) 3 (Eint .i64).sz, Dz D_valiseref6_Node (orB S0 B_row_0) w0.heap.size B_row_0 [(rdx E_valiseref6_Node ds_row_0 i_4185)] ([(rdp ((0, []) : (Int × List Int)) l_row_0 i_4185)]), .rd ((rdx E_valiseref6_Node ds_row_0 i_4185).2.1) (rowC (Eint .i64) ((rdp ((0, []) : (Int × List Int)) l_row_0 i_4185).2))] := HS4561.ndRd (i := 6) rfl rfl
              obtain ⟨⟨g4565, g4566⟩, H⟩ := of_gd H
              refine L_heldS 13 1 [13] mix rfl (fun w4582 hw4583 => ?_)
              have HS4584 := HS4564.keep hw4583
              refine ⟨HS4584.turns [5], ?_⟩
              have HR4585 : Hp (HS4584.ft [5]) w4582 w4582 [.own A4546 c4547 (rowC (Eint .i64) l4548) 3 (Eint .i64).sz, .rd A_row_0 (rowC E_valiseref6_Node ds_row_0), Dz D_valiseref6_Node anyB 0 B_row_0 ds_row_0 l_row_0, .rd A4180 (rowC E_valiseref6_Node ds4182), Dz D_valiseref6_Node anyB 0 B4183 ds4182 l4184, .rd (some ⟨g4221, 0, none⟩) ([.int .i64 (IntKind.i64.wrap (((rdp ((0, []) : (Int × List Int)) l_row_0 i_4185).1) + ((rdp ((0, []) : (Int × List Int)) l_row_0 (IntKind.i64.wrap (i_4185 + 1))).1))), .slice A4546 l4548.length c4547]), Dz D_valiseref6_Node anyB 0 B_row_0 [(rdx E_valiseref6_Node ds_row_0 i_4185)] ([(rdp ((0, []) : (Int × List Int)) l_row_0 i_4185)]), .rd ((rdx E_valiseref6_Node ds_row_0 i_4185).2.1) (rowC (Eint .i64) ((rdp ((0, []) : (Int × List Int)) l_row_0 i_4185).2))] := HS4584.give [5] rfl (Lent.rd HS4584 (Lent.dz HS4584 (Lent.own HS4584 (Lent.dz HS4584 (Lent.box HS4584 (Lent.dz HS4584 (Lent.rd HS4584 (Lent.nil) (i := 7) rfl (HS4584.cells_rd (i := 7) rfl).self) (i := 6) rfl dz_self (HS4584.dze (i := 6) rfl)) (i := 4) rfl rfl (HS4584.cells_box (i := 4) rfl).self) (i := 3) rfl dz_self (HS4584.dze (i := 3) rfl)) (i := 2) rfl rfl (HS4584.cells_own (i := 2) rfl).self) (i := 1) rfl dz_self (HS4584.dze (i := 1) rfl)) (i := 0) rfl (HS4584.cells_rd (i := 0) rfl).self)
              have hSF4586 : ∀ b, HS4584.ft [5] b → (orB (orB (orB (HS4584.ft [5]) B_row_0) B4183) B_row_0) b ∨ w4582.heap.size ≤ b := fun b hb => .inl (.inl (.inl (.inl hb)))
              have HS4587 : Hp (HS4584.ft [5]) w4582 w4582 [.own A4546 c4547 (rowC (Eint .i64) l4548) 3 (Eint .i64).sz, .rd A_row_0 (rowC E_valiseref6_Node ds_row_0), Dz D_valiseref6_Node (orB (orB (orB (HS4584.ft [5]) B_row_0) B4183) B_row_0) w4582.heap.size B_row_0 ds_row_0 l_row_0, .rd A4180 (rowC E_valiseref6_Node ds4182), Dz D_valiseref6_Node anyB 0 B4183 ds4182 l4184, .rd (some ⟨g4221, 0, none⟩) ([.int .i64 (IntKind.i64.wrap (((rdp ((0, []) : (Int × List Int)) l_row_0 i_4185).1) + ((rdp ((0, []) : (Int × List Int)) l_row_0 (IntKind.i64.wrap (i_4185 + 1))).1))), .slice A4546 l4548.length c4547]), Dz D_valiseref6_Node anyB 0 B_row_0 [(rdx E_valiseref6_Node ds_row_0 i_4185)] ([(rdp ((0, []) : (Int × List Int)) l_row_0 i_4185)]), .rd ((rdx E_valiseref6_Node ds_row_0 i_4185).2.1) (rowC (Eint .i64) ((rdp ((0, []) : (Int × List Int)) l_row_0 i_4185).2))] := HR4585.dzProv (i := 2) rfl (fun b _ hb => .inl (.inl (.inl (.inr hb))))
              have HS4588 : Hp (HS4584.ft [5]) w4582 w4582 [.own A4546 c4547 (rowC (Eint .i64) l4548) 3 (Eint .i64).sz, .rd A_row_0 (rowC E_valiseref6_Node ds_row_0), Dz D_valiseref6_Node (orB (orB (orB (HS4584.ft [5]) B_row_0) B4183) B_row_0) w4582.heap.size B_row_0 ds_row_0 l_row_0, .rd A4180 (rowC E_valiseref6_Node ds4182), Dz D_valiseref6_Node (orB (orB (orB (HS4584.ft [5]) B_row_0) B4183) B_row_0) w4582.heap.size B4183 ds4182 l4184, .rd (some ⟨g4221, 0, none⟩) ([.int .i64 (IntKind.i64.wrap (((rdp ((0, []) : (Int × List Int)) l_row_0 i_4185).1) + ((rdp ((0, []) : (Int × List Int)) l_row_0 (IntKind.i64.wrap (i_4185 + 1))).1))), .slice A4546 l4548.length c4547]), Dz D_valiseref6_Node anyB 0 B_row_0 [(rdx E_valiseref6_Node ds_row_0 i_4185)] ([(rdp ((0, []) : (Int × List Int)) l_row_0 i_4185)]), .rd ((rdx E_valiseref6_Node ds_row_0 i_4185).2.1) (rowC (Eint .i64) ((rdp ((0, []) : (Int × List Int)) l_row_0 i_4185).2))] := HS4587.dzProv (i := 4) rfl (fun b _ hb => .inl (.inl (.inr hb)))
              have HS4589 : Hp (HS4584.ft [5]) w4582 w4582 [.own A4546 c4547 (rowC (Eint .i64) l4548) 3 (Eint .i64).sz, .rd A_row_0 (rowC E_valiseref6_Node ds_row_0), Dz D_valiseref6_Node (orB (orB (orB (HS4584.ft [5]) B_row_0) B4183) B_row_0) w4582.heap.size B_row_0 ds_row_0 l_row_0, .rd A4180 (rowC E_valiseref6_Node ds4182), Dz D_valiseref6_Node (orB (orB (orB (HS4584.ft [5]) B_row_0) B4183) B_row_0) w4582.heap.size B4183 ds4182 l4184, .rd (some ⟨g4221, 0, none⟩) ([.int .i64 (IntKind.i64.wrap (((rdp ((0, []) : (Int × List Int)) l_row_0 i_4185).1) + ((rdp ((0, []) : (Int × List Int)) l_row_0 (IntKind.i64.wrap (i_4185 + 1))).1))), .slice A4546 l4548.length c4547]), Dz D_valiseref6_Node (orB (orB (orB (HS4584.ft [5]) B_row_0) B4183) B_row_0) w4582.heap.size B_row_0 [(rdx E_valiseref6_Node ds_row_0 i_4185)] ([(rdp ((0, []) : (Int × List Int)) l_row_0 i_4185)]), .rd ((rdx E_valiseref6_Node ds_row_0 i_4185).2.1) (rowC (Eint .i64) ((rdp ((0, []) : (Int × List Int)) l_row_0 i_4185).2))] := HS4588.dzProv (i := 6) rfl (fun b _ hb => .inl (.inr hb))
              refine H_val (i := 0) rfl (by kernel_rfl) (by kernel_rfl) (by kernel_rfl) (by kernel_rfl) rfl rfl rfl HS4589.chg (fun wq hq => O_fieldB rfl rfl field61_1) ?_
              refine H_val (i := 1) rfl (by kernel_rfl) (by kernel_rfl) (by kernel_rfl) (by kernel_rfl) rfl rfl rfl HS4589.chg (fun wq hq => O_loadB rfl rfl flat22 ((HS4584.keepT [5] hq).cells_box (i := 4) rfl) rfl) ?_
              refine H_val (i := 2) rfl (by kernel_rfl) (by kernel_rfl) (by kernel_rfl) (by kernel_rfl) rfl rfl rfl HS4589.chg (fun wq hq => O_move rfl rfl) ?_
              refine H_val (i := 3) rfl (by kernel_rfl) (by kernel_rfl) (by kernel_rfl) (by kernel_rfl) rfl rfl rfl HS4589.chg (fun wq hq => O_move rfl rfl) ?_
              refine H_val (i := 4) rfl (by kernel_rfl) (by kernel_rfl) (by kernel_rfl) (by kernel_rfl) rfl rfl rfl HS4589.chg (fun wq hq => O_idx rfl rfl rfl Try.underlying59 size61 g4190 g4191 (Cells.isA ((HS4584.keepT [5] hq).cells_rd (i := 0) rfl) (dz_ne (D := D_valiseref6_Node) ((HS4584.keepT [5] hq).dze (i := 1) rfl) g4190 g4191 (by decide)))) ?_
              refine H_val (i := 5) rfl (by kernel_rfl) (by kernel_rfl) (by kernel_rfl) (by kernel_rfl) rfl rfl rfl HS4589.chg (fun wq hq => O_fieldC rfl rfl (Cells.isA ((HS4584.keepT [5] hq).cells_rd (i := 0) rfl) (dz_ne (D := D_valiseref6_Node) ((HS4584.keepT [5] hq).dze (i := 1) rfl) g4190 g4191 (by decide))) field61_1) ?_
              refine H_val (i := 6) rfl (by kernel_rfl) (by kernel_rfl) (by kernel_rfl) (by kernel_rfl) rfl rfl rfl HS4589.chg (fun wq hq => O_loadC rfl rfl flat22 ((HS4584.keepT [5] hq).cells_rd (i := 0) rfl) (dz_cellS (D := D_valiseref6_Node) (f := fun x A c => .slice A x.2.length c) 1 (fun d => rfl) rfl ((HS4584.keepT [5] hq).dze (i := 1) rfl) g4190 g4191)) ?_
              refine H_val (i := 7) rfl (by kernel_rfl) (by kernel_rfl) (by kernel_rfl) (by kernel_rfl) rfl rfl rfl HS4589.chg (fun wq hq => O_move rfl rfl) ?_
              refine H_val (i := 8) rfl (by kernel_rfl) (by kernel_rfl) (by kernel_rfl) (by kernel_rfl) rfl rfl rfl HS4589.chg (fun wq hq => O_idx rfl rfl rfl Try.underlying22 size3 g4565 g4566 (Cells.isA ((HS4584.keepT [5] hq).cells_rd (i := 7) rfl) (rowC_ne (E := (Eint .i64)) g4565 g4566 (by decide)))) ?_
              refine H_val (i := 9) rfl (by kernel_rfl) (by kernel_rfl) (by kernel_rfl) (by kernel_rfl) rfl rfl rfl HS4589.chg (fun wq hq => O_loadC rfl rfl flat3 ((HS4584.keepT [5] hq).cells_rd (i := 7) rfl) (int_cell g4565 g4566)) ?_
              refine H_one (i := 10) rfl (by kernel_rfl) (by kernel_rfl) ?_
              refine F_litE (E := (Eint .i64)) (e := 3) [(0, .int .i64 (rd ((rdp ((0, []) : (Int × List Int)) l_row_0 i_4185).2) k_4549))] [rd ((rdp ((0, []) : (Int × List Int)) l_row_0 i_4185).2) k_4549] rfl rfl rfl rfl rfl rfl rfl (by decide) (fun w => by kernel_rfl) HS4589 (fun w4591 A4593 c4594 HS4592 => ?_)
              have HS4592 : Hp (HS4584.ft [5]) w4582 w4591 [.own A4546 c4547 (rowC (Eint .i64) l4548) 3 (Eint .i64).sz, .rd A_row_0 (rowC E_valiseref6_Node ds_row_0), Dz D_valiseref6_Node (orB (orB (orB (HS4584.ft [5]) B_row_0) B4183) B_row_0) w4582.heap.size B_row_0 ds_row_0 l_row_0, .rd A4180 (rowC E_valiseref6_Node ds4182), Dz D_valiseref6_Node (orB (orB (orB (HS4584.ft [5]) B_row_0) B4183) B_row_0) w4582.heap.size B4183 ds4182 l4184, .rd (some ⟨g4221, 0, none⟩) ([.int .i64 (IntKind.i64.wrap (((rdp ((0, []) : (Int × List Int)) l_row_0 i_4185).1) + ((rdp ((0, []) : (Int × List Int)) l_row_0 (IntKind.i64.wrap (i_4185 + 1))).1))), .slice A4546 l4548.length c4547]), Dz D_valiseref6_Node (orB (orB (orB (HS4584.ft [5]) B_row_0) B4183) B_row_0) w4582.heap.size B_row_0 [(rdx E_valiseref6_Node ds_row_0 i_4185)] ([(rdp ((0, []) : (Int × List Int)) l_row_0 i_4185)]), .rd ((rdx E_valiseref6_Node ds_row_0 i_4185).2.1) (rowC (Eint .i64) ((rdp ((0, []) : (Int × List Int)) l_row_0 i_4185).2)), .own A4593 c4594 (rowC (Eint .i64) ([rd ((rdp ((0, []) : (Int × List Int)) l_row_0 i_4185).2) k_4549])) 3 (Eint .i64).sz] := HS4592
              refine H_next HS4592.chg ?_
              refine H_one (i := 11) rfl (by kernel_rfl) (by kernel_rfl) ?_
              obtain ⟨l4598, h4599, H⟩ := of_bnd H
              obtain ⟨g4600, H⟩ := of_gd H
              refine F_appE2 (E := (Eint .i64)) (xs := l4548) (ys := ([rd ((rdp ((0, []) : (Int × List Int)) l_row_0 i_4185).2) k_4549])) (i := 0) rfl rfl rfl rfl Try.underlying22 info3 rfl (by decide) (by decide) rfl rfl HS4592 rfl (HS4592.cells_own (i := 8) rfl) h4599 g4600 (fun w4596 HS4597 => ?_) (fun w4596 A4601 c4602 HS4597 => ?_)
              · skip
                have HS4597 : Hp (HS4584.ft [5]) w4582 w4596 [.own A4546 c4547 (rowC (Eint .i64) l4598) 3 (Eint .i64).sz, .rd A_row_0 (rowC E_valiseref6_Node ds_row_0), Dz D_valiseref6_Node (orB (orB (orB (HS4584.ft [5]) B_row_0) B4183) B_row_0) w4582.heap.size B_row_0 ds_row_0 l_row_0, .rd A4180 (rowC E_valiseref6_Node ds4182), Dz D_valiseref6_Node (orB (orB (orB (HS4584.ft [5]) B_row_0) B4183) B_row_0) w4582.heap.size B4183 ds4182 l4184, .rd (some ⟨g4221, 0, none⟩) ([.int .i64 (IntKind.i64.wrap (((rdp ((0, []) : (Int × List Int)) l_row_0 i_4185).1) + ((rdp ((0, []) : (Int × List Int)) l_row_0 (IntKind.i64.wrap (i_4185 + 1))).1))), .slice A4546 l4548.length c4547]), Dz D_valiseref6_Node (orB (orB (orB (HS4584.ft [5]) B_row_0) B4183) B_row_0) w4582.heap.size B_row_0 [(rdx E_valiseref6_Node ds_row_0 i_4185)] ([(rdp ((0, []) : (Int × List Int)) l_row_0 i_4185)]), .rd ((rdx E_valiseref6_Node ds_row_0 i_4185).2.1) (rowC (Eint .i64) ((rdp ((0, []) : (Int × List Int)) l_row_0 i_4185).2)), .own A4593 c4594 (rowC (Eint .i64) ([rd ((rdp ((0, []) : (Int × List Int)) l_row_0 i_4185).2) k_4549])) 3 (Eint .i64).sz] := HS4597
                have hs4603 := (HS4597.cells_own (i := 0) rfl).preZ h4599
                refine H_next HS4597.chg ?_
                refine H_val (i := 12) rfl (by kernel_rfl) (by kernel_rfl) (by kernel_rfl) (by kernel_rfl) rfl rfl rfl HS4597.chg (fun wq hq => O_fieldB rfl rfl field61_1) ?_
                refine H_end (by kernel_rfl) ?_
                have HS4605 : Hp S0 w0 w4596 [.rd A_row_0 (rowC E_valiseref6_Node ds_row_0), Dz D_valiseref6_Node (orB S0 B_row_0) w0.heap.size B_row_0 ds_row_0 l_row_0, .own A4180 c4181 (rowC E_valiseref6_Node ds4182) 61 E_valiseref6_Node.sz, Dz D_valiseref6_Node (orB S0 B_row_0) w0.heap.size B4183 ds4182 l4184, .box g4221 ([.int .i64 (IntKind.i64.wrap (((rdp ((0, []) : (Int × List Int)) l_row_0 i_4185).1) + ((rdp ((0, []) : (Int × List Int)) l_row_0 (IntKind.i64.wrap (i_4185 + 1))).1))), .slice A4546 l4548.length c4547]) 61, .own A4546 c4547 (rowC (Eint .i64) l4598) 3 (Eint .i64).sz, Dz D_valiseref6_Node (orB S0 B_row_0) w0.heap.size B_row_0 [(rdx E_valiseref6_Node ds_row_0 i_4185)] ([(rdp ((0, []) : (Int × List Int)) l_row_0 i_4185)]), .rd ((rdx E_valiseref6_Node ds_row_0 i_4185).2.1) (rowC (Eint .i64) ((rdp ((0, []) : (Int × List Int)) l_row_0 i_4185).2)), .own A4593 c4594 (rowC (Eint .i64) ([rd ((rdp ((0, []) : (Int × List Int)) l_row_0 i_4185).2) k_4549])) 3 (Eint .i64).sz] := (HS4584.back [5] (HS4597.sel [0, 8] rfl) rfl).sel [0, 1, 2, 3, 4, 8, 6, 7, 9] rfl
                refine T_one (i := 13) rfl (by kernel_rfl) ?_
                refine F_stB 4 ([.int .i64 (IntKind.i64.wrap (((rdp ((0, []) : (Int × List Int)) l_row_0 i_4185).1) + ((rdp ((0, []) : (Int × List Int)) l_row_0 (IntKind.i64.wrap (i_4185 + 1))).1))), .slice A4546 l4598.length c4547]) rfl rfl rfl rfl rfl size22 HS4605 rfl rfl rfl rfl rfl (fun w4606 HS4607 => ?_)
                have HS4607 : Hp S0 w0 w4606 [.rd A_row_0 (rowC E_valiseref6_Node ds_row_0), Dz D_valiseref6_Node (orB S0 B_row_0) w0.heap.size B_row_0 ds_row_0 l_row_0, .own A4180 c4181 (rowC E_valiseref6_Node ds4182) 61 E_valiseref6_Node.sz, Dz D_valiseref6_Node (orB S0 B_row_0) w0.heap.size B4183 ds4182 l4184, .box g4221 ([.int .i64 (IntKind.i64.wrap (((rdp ((0, []) : (Int × List Int)) l_row_0 i_4185).1) + ((rdp ((0, []) : (Int × List Int)) l_row_0 (IntKind.i64.wrap (i_4185 + 1))).1))), .slice A4546 l4598.length c4547]) 61, .own A4546 c4547 (rowC (Eint .i64) l4598) 3 (Eint .i64).sz, Dz D_valiseref6_Node (orB S0 B_row_0) w0.heap.size B_row_0 [(rdx E_valiseref6_Node ds_row_0 i_4185)] ([(rdp ((0, []) : (Int × List Int)) l_row_0 i_4185)]), .rd ((rdx E_valiseref6_Node ds_row_0 i_4185).2.1) (rowC (Eint .i64) ((rdp ((0, []) : (Int × List Int)) l_row_0 i_4185).2)), .own A4593 c4594 (rowC (Eint .i64) ([rd ((rdp ((0, []) : (Int × List Int)) l_row_0 i_4185).2) k_4549])) 3 (Eint .i64).sz] := HS4607
                refine T_next ?_
                refine T_done (by kernel_rfl) ?_
                refine L_endB hN4558 ?_
                have HS4608 : Hp S0 w0 w4606 [.rd A_row_0 (rowC E_valiseref6_Node ds_row_0), Dz D_valiseref6_Node (orB S0 B_row_0) w0.heap.size B_row_0 ds_row_0 l_row_0, .own A4180 c4181 (rowC E_valiseref6_Node ds4182) 61 E_valiseref6_Node.sz, Dz D_valiseref6_Node (orB S0 B_row_0) w0.heap.size B4183 ds4182 l4184, .box g4221 ([.int .i64 (IntKind.i64.wrap (((rdp ((0, []) : (Int × List Int)) l_row_0 i_4185).1) + ((rdp ((0, []) : (Int × List Int)) l_row_0 (IntKind.i64.wrap (i_4185 + 1))).1))), .slice A4546 l4598.length c4547]) 61, .own A4546 c4547 (rowC (Eint .i64) l4598) 3 (Eint .i64).sz] := HS4607.sel [0, 1, 2, 3, 4, 5] rfl
                refine L_region ?_
                refine F_val rfl rfl rfl (O_move rfl rfl) ?_
                refine F_val rfl rfl rfl (O_add rfl rfl rfl) ?_
                obtain ⟨x4609, h4610, H⟩ := of_bnd H
                refine F_val rfl rfl rfl (O_assign' rfl rfl (congrArg (Value.int .i64) h4610)) ?_
                refine F_nil ?_
                refine L_nil (fun a ha => hNp4545 _ a _ (Nat.lt_succ_self _) ⟨_, _, _, _, Is.cons ha (Is.cons ha (Is.cons ha (Is.cons ha (Is.cons ha (Is.nil ha) rfl) rfl) rfl) rfl) rfl, HS4608.sel [0, 1, 2, 3, 4, 5] rfl, H⟩)
              · skip
                have HS4597 : Hp (HS4584.ft [5]) w4582 w4596 [.own A4546 c4547 (rowC (Eint .i64) l4548) 3 (Eint .i64).sz, .rd A_row_0 (rowC E_valiseref6_Node ds_row_0), Dz D_valiseref6_Node (orB (orB (orB (HS4584.ft [5]) B_row_0) B4183) B_row_0) w4582.heap.size B_row_0 ds_row_0 l_row_0, .rd A4180 (rowC E_valiseref6_Node ds4182), Dz D_valiseref6_Node (orB (orB (orB (HS4584.ft [5]) B_row_0) B4183) B_row_0) w4582.heap.size B4183 ds4182 l4184, .rd (some ⟨g4221, 0, none⟩) ([.int .i64 (IntKind.i64.wrap (((rdp ((0, []) : (Int × List Int)) l_row_0 i_4185).1) + ((rdp ((0, []) : (Int × List Int)) l_row_0 (IntKind.i64.wrap (i_4185 + 1))).1))), .slice A4546 l4548.length c4547]), Dz D_valiseref6_Node (orB (orB (orB (HS4584.ft [5]) B_row_0) B4183) B_row_0) w4582.heap.size B_row_0 [(rdx E_valiseref6_Node ds_row_0 i_4185)] ([(rdp ((0, []) : (Int × List Int)) l_row_0 i_4185)]), .rd ((rdx E_valiseref6_Node ds_row_0 i_4185).2.1) (rowC (Eint .i64) ((rdp ((0, []) : (Int × List Int)) l_row_0 i_4185).2)), .own A4593 c4594 (rowC (Eint .i64) ([rd ((rdp ((0, []) : (Int × List Int)) l_row_0 i_4185).2) k_4549])) 3 (Eint .i64).sz, .own A4601 c4602 (rowC (Eint .i64) l4598) 3 (Eint .i64).sz] := HS4597
                refine H_next HS4597.chg ?_
                refine H_val (i := 12) rfl (by kernel_rfl) (by kernel_rfl) (by kernel_rfl) (by kernel_rfl) rfl rfl rfl HS4597.chg (fun wq hq => O_fieldB rfl rfl field61_1) ?_
                refine H_end (by kernel_rfl) ?_
                have HS4605 : Hp S0 w0 w4596 [.rd A_row_0 (rowC E_valiseref6_Node ds_row_0), Dz D_valiseref6_Node (orB S0 B_row_0) w0.heap.size B_row_0 ds_row_0 l_row_0, .own A4180 c4181 (rowC E_valiseref6_Node ds4182) 61 E_valiseref6_Node.sz, Dz D_valiseref6_Node (orB S0 B_row_0) w0.heap.size B4183 ds4182 l4184, .box g4221 ([.int .i64 (IntKind.i64.wrap (((rdp ((0, []) : (Int × List Int)) l_row_0 i_4185).1) + ((rdp ((0, []) : (Int × List Int)) l_row_0 (IntKind.i64.wrap (i_4185 + 1))).1))), .slice A4546 l4548.length c4547]) 61, .own A4546 c4547 (rowC (Eint .i64) l4548) 3 (Eint .i64).sz, Dz D_valiseref6_Node (orB S0 B_row_0) w0.heap.size B_row_0 [(rdx E_valiseref6_Node ds_row_0 i_4185)] ([(rdp ((0, []) : (Int × List Int)) l_row_0 i_4185)]), .rd ((rdx E_valiseref6_Node ds_row_0 i_4185).2.1) (rowC (Eint .i64) ((rdp ((0, []) : (Int × List Int)) l_row_0 i_4185).2)), .own A4593 c4594 (rowC (Eint .i64) ([rd ((rdp ((0, []) : (Int × List Int)) l_row_0 i_4185).2) k_4549])) 3 (Eint .i64).sz, .own A4601 c4602 (rowC (Eint .i64) l4598) 3 (Eint .i64).sz] := (HS4584.back [5] (HS4597.sel [0, 8, 9] rfl) rfl).sel [0, 1, 2, 3, 4, 8, 6, 7, 9, 10] rfl
                refine T_one (i := 13) rfl (by kernel_rfl) ?_
                refine F_stB 4 ([.int .i64 (IntKind.i64.wrap (((rdp ((0, []) : (Int × List Int)) l_row_0 i_4185).1) + ((rdp ((0, []) : (Int × List Int)) l_row_0 (IntKind.i64.wrap (i_4185 + 1))).1))), .slice A4601 l4598.length c4602]) rfl rfl rfl rfl rfl size22 HS4605 rfl rfl rfl rfl rfl (fun w4606 HS4607 => ?_)
                have HS4607 : Hp S0 w0 w4606 [.rd A_row_0 (rowC E_valiseref6_Node ds_row_0), Dz D_valiseref6_Node (orB S0 B_row_0) w0.heap.size B_row_0 ds_row_0 l_row_0, .own A4180 c4181 (rowC E_valiseref6_Node ds4182) 61 E_valiseref6_Node.sz, Dz D_valiseref6_Node (orB S0 B_row_0) w0.heap.size B4183 ds4182 l4184, .box g4221 ([.int .i64 (IntKind.i64.wrap (((rdp ((0, []) : (Int × List Int)) l_row_0 i_4185).1) + ((rdp ((0, []) : (Int × List Int)) l_row_0 (IntKind.i64.wrap (i_4185 + 1))).1))), .slice A4601 l4598.length c4602]) 61, .own A4546 c4547 (rowC (Eint .i64) l4548) 3 (Eint .i64).sz, Dz D_valiseref6_Node (orB S0 B_row_0) w0.heap.size B_row_0 [(rdx E_valiseref6_Node ds_row_0 i_4185)] ([(rdp ((0, []) : (Int × List Int)) l_row_0 i_4185)]), .rd ((rdx E_valiseref6_Node ds_row_0 i_4185).2.1) (rowC (Eint .i64) ((rdp ((0, []) : (Int × List Int)) l_row_0 i_4185).2)), .own A4593 c4594 (rowC (Eint .i64) ([rd ((rdp ((0, []) : (Int × List Int)) l_row_0 i_4185).2) k_4549])) 3 (Eint .i64).sz, .own A4601 c4602 (rowC (Eint .i64) l4598) 3 (Eint .i64).sz] := HS4607
                refine T_next ?_
                refine T_done (by kernel_rfl) ?_
                refine L_endB hN4558 ?_
                have HS4608 : Hp S0 w0 w4606 [.rd A_row_0 (rowC E_valiseref6_Node ds_row_0), Dz D_valiseref6_Node (orB S0 B_row_0) w0.heap.size B_row_0 ds_row_0 l_row_0, .own A4180 c4181 (rowC E_valiseref6_Node ds4182) 61 E_valiseref6_Node.sz, Dz D_valiseref6_Node (orB S0 B_row_0) w0.heap.size B4183 ds4182 l4184, .box g4221 ([.int .i64 (IntKind.i64.wrap (((rdp ((0, []) : (Int × List Int)) l_row_0 i_4185).1) + ((rdp ((0, []) : (Int × List Int)) l_row_0 (IntKind.i64.wrap (i_4185 + 1))).1))), .slice A4601 l4598.length c4602]) 61, .own A4546 c4547 (rowC (Eint .i64) l4548) 3 (Eint .i64).sz, .own A4601 c4602 (rowC (Eint .i64) l4598) 3 (Eint .i64).sz] := HS4607.sel [0, 1, 2, 3, 4, 5, 9] rfl
                refine L_region ?_
                refine F_val rfl rfl rfl (O_move rfl rfl) ?_
                refine F_val rfl rfl rfl (O_add rfl rfl rfl) ?_
                obtain ⟨x4609, h4610, H⟩ := of_bnd H
                refine F_val rfl rfl rfl (O_assign' rfl rfl (congrArg (Value.int .i64) h4610)) ?_
                refine F_nil ?_
                refine L_nil (fun a ha => hNp4545 _ a _ (Nat.lt_succ_self _) ⟨_, _, _, _, Is.cons ha (Is.cons ha (Is.cons ha (Is.cons ha (Is.cons ha (Is.nil ha) rfl) rfl) rfl) rfl) rfl, HS4608.sel [0, 1, 2, 3, 4, 6] rfl, H⟩)
            · have H := of_neg H c4557
              refine L_exitB (fun a w h => hOp4545 (.exit 2) a w rfl (hXb4422 a w h)) ?_
              refine L_nil (fun a ha => hNj4229 a _ ⟨_, _, _, (Option.some.inj H).symm, Is.cons ha (Is.cons ha (Is.cons ha (Is.cons ha (Is.nil ha) rfl) rfl) rfl) rfl, HS4556.sel [0, 1, 2, 3, 4, 5] rfl⟩)
        · obtain ⟨l4421, A4419, c4420, ej, ha, HS4612⟩ := hR
          obtain rfl := ej.symm
          refine wpLF_app ?_ ha
          refine L_seq ?_
          refine L_seq ?_
          refine L_region ?_
          refine F_val rfl rfl rfl (O_assign rfl rfl) ?_
          refine F_nil ?_
          obtain ⟨yj4613, Hyj4613, H⟩ := of_bind H
          refine L_join (fun a w => ∃ (l4805 : List Int), ∃ (A4803 : Option Addr), ∃ (c4804 : Nat), yj4613 = l4805 ∧ Is Try.f54.ntmps a [(0, .slice A_row_0 l_row_0.length c_row_0), (3, .slice A4180 l4184.length c4181), (4, .int .i64 i_4185), (5, .pointer (some ⟨g4221, 0, none⟩))] ∧ Hp S0 w0 w [.rd A_row_0 (rowC E_valiseref6_Node ds_row_0), Dz D_valiseref6_Node (orB S0 B_row_0) w0.heap.size B_row_0 ds_row_0 l_row_0, .own A4180 c4181 (rowC E_valiseref6_Node ds4182) 61 E_valiseref6_Node.sz, Dz D_valiseref6_Node (orB S0 B_row_0) w0.heap.size B4183 ds4182 l4184, .box g4221 ([.int .i64 (IntKind.i64.wrap (((rdp ((0, []) : (Int × List Int)) l_row_0 i_4185).1) + ((rdp ((0, []) : (Int × List Int)) l_row_0 (IntKind.i64.wrap (i_4185 + 1))).1))), .slice A4803 l4805.length c4804]) 61, .own A4803 c4804 (rowC (Eint .i64) l4805) 3 (Eint .i64).sz]) (fun Qj4613 hNj4613 hOj4613 => ?_) (fun a w hR => ?_)
          · skip
            have H := Hyj4613
            refine L_blk (fun Qb4806 hNb4806 hXb4806 hOb4806 => ?_)
            refine L_lp (fun k a w => ∃ (l4932 : List Int), ∃ (k_4933 : Int), ∃ (A4930 : Option Addr), ∃ (c4931 : Nat), Is Try.f54.ntmps a [(0, .slice A_row_0 l_row_0.length c_row_0), (3, .slice A4180 l4184.length c4181), (4, .int .i64 i_4185), (5, .pointer (some ⟨g4221, 0, none⟩)), (7, .int .i64 k_4933)] ∧ Hp S0 w0 w [.rd A_row_0 (rowC E_valiseref6_Node ds_row_0), Dz D_valiseref6_Node (orB S0 B_row_0) w0.heap.size B_row_0 ds_row_0 l_row_0, .own A4180 c4181 (rowC E_valiseref6_Node ds4182) 61 E_valiseref6_Node.sz, Dz D_valiseref6_Node (orB S0 B_row_0) w0.heap.size B4183 ds4182 l4184, .box g4221 ([.int .i64 (IntKind.i64.wrap (((rdp ((0, []) : (Int × List Int)) l_row_0 i_4185).1) + ((rdp ((0, []) : (Int × List Int)) l_row_0 (IntKind.i64.wrap (i_4185 + 1))).1))), .slice A4930 l4932.length c4931]) 61, .own A4930 c4931 (rowC (Eint .i64) l4932) 3 (Eint .i64).sz] ∧ valiseref6_packages.l25 k l4932 k_4933 l_row_0 i_4185 = some yj4613) FU (fun a ha => ⟨_, _, _, _, Is.cons ha (Is.cons ha (Is.cons ha (Is.cons ha (Is.cons ha (Is.nil ha) rfl) rfl) rfl) rfl) rfl, HS4612.sel [0, 1, 2, 3, 4, 5] rfl, H⟩) (fun kp4929 a w4934 hI Qp4929 hNp4929 hOp4929 => ?_)
            obtain ⟨l4932, k_4933, A4930, c4931, ha, HS4935, HAp4929⟩ := hI
            cases kp4929 with
            | zero => cases (show (none : Option _) = some _ from HAp4929)
            | succ kp4929 =>
              have H := (valiseref6_packages.l25.eq_2 ..).symm.trans HAp4929
              refine wpLF_app ?_ ha
              refine L_seq ?_
              refine L_seq ?_
              refine L_region ?_
              refine F_val rfl rfl rfl (O_move rfl rfl) ?_
              refine F_val rfl rfl rfl (O_move rfl rfl) ?_
              refine F_val rfl rfl rfl (O_move rfl rfl) ?_
              refine F_val rfl rfl rfl (O_add rfl rfl rfl) ?_
              refine F_val rfl rfl rfl (O_idx rfl rfl rfl Try.underlying59 size61 g4194 g4195 (Cells.isA (HS4935.cells_rd (i := 0) rfl) (dz_ne (D := D_valiseref6_Node) (HS4935.dze (i := 1) rfl) g4194 g4195 (by decide)))) ?_
              refine F_val rfl rfl rfl (O_fieldC rfl rfl (Cells.isA (HS4935.cells_rd (i := 0) rfl) (dz_ne (D := D_valiseref6_Node) (HS4935.dze (i := 1) rfl) g4194 g4195 (by decide))) field61_1) ?_
              have HS4937 : Hp S0 w0 w4934 [.rd A_row_0 (rowC E_valiseref6_Node ds_row_0), Dz D_valiseref6_Node (orB S0 B_row_0) w0.heap.size B_row_0 ds_row_0 l_row_0, .own A4180 c4181 (rowC E_valiseref6_Node ds4182) 61 E_valiseref6_Node.sz, Dz D_valiseref6_Node (orB S0 B_row_0) w0.heap.size B4183 ds4182 l4184, .box g4221 ([.int .i64 (IntKind.i64.wrap (((rdp ((0, []) : (Int × List Int)) l_row_0 i_4185).1) + ((rdp ((0, []) : (Int × List Int)) l_row_0 (IntKind.i64.wrap (i_4185 + 1))).1))), .slice A4930 l4932.length c4931]) 61, .own A4930 c4931 (rowC (Eint .i64) l4932) 3 (Eint .i64).sz, Dz D_valiseref6_Node (orB S0 B_row_0) w0.heap.size B_row_0 [(rdx E_valiseref6_Node ds_row_0 (IntKind.i64.wrap (i_4185 + 1)))] ([(rdp ((0, []) : (Int × List Int)) l_row_0 (IntKind.i64.wrap (i_4185 + 1)))])] := HS4935.dzOne (i := 1) rfl dz_self (HS4935.dze (i := 1) rfl) g4194 g4195
              have hc4938 := HS4937.ndCap (i := 6) rfl (rfl : _ = (rdp ((0, []) : (Int × List Int)) l_row_0 (IntKind.i64.wrap (i_4185 + 1))).2)
              have HS4940 : Hp S0 w0 w4934 [.rd A_row_0 (rowC E_valiseref6_Node ds_row_0), Dz D_valiseref6_Node (orB S0 B_row_0) w0.heap.size B_row_0 ds_row_0 l_row_0, .own A4180 c4181 (rowC E_valiseref6_Node ds4182) 61 E_valiseref6_Node.sz, Dz D_valiseref6_Node (orB S0 B_row_0) w0.heap.size B4183 ds4182 l4184, .box g4221 ([.int .i64 (IntKind.i64.wrap (((rdp ((0, []) : (Int × List Int)) l_row_0 i_4185).1) + ((rdp ((0, []) : (Int × List Int)) l_row_0 (IntKind.i64.wrap (i_4185 + 1))).1))), .slice A4930 l4932.length c4931]) 61, .own A4930 c4931 (rowC (Eint .i64) l4932) 3 (Eint .i64).sz, Dz D_valiseref6_Node (orB S0 B_row_0) w0.heap.size B_row_0 [(rdx E_valiseref6_Node ds_row_0 (IntKind.i64.wrap (i_4185 + 1)))] ([(rdp ((0, []) : (Int × List Int)) l_row_0 (IntKind.i64.wrap (i_4185 + 1)))]), .rd ((rdx E_valiseref6_Node ds_row_0 (IntKind.i64.wrap (i_4185 + 1))).2.1) (rowC (Eint .i64) ((rdp ((0, []) : (Int × List Int)) l_row_0 (IntKind.i64.wrap (i_4185 + 1))).2))] := HS4937.ndRd (i := 6) rfl rfl
              refine F_val rfl rfl rfl (O_loadC rfl rfl flat22 (HS4940.cells_rd (i := 0) rfl) (dz_cellS (D := D_valiseref6_Node) (f := fun x A c => .slice A x.2.length c) 1 (fun d => rfl) rfl (HS4940.dze (i := 1) rfl) g4194 g4195)) ?_
              refine F_val rfl rfl rfl (O_len rfl rfl Try.underlying22) ?_
              refine F_val rfl rfl rfl (O_lt rfl rfl rfl) ?_
              refine F_nil ?_
              refine L_condP rfl (fun c4941 => ?_) (fun c4941 => ?_)
              · have H := of_pos H c4941
                refine L_skip ?_
                refine L_seq ?_
                refine L_blk (fun Q4942 hN4942 hX4942 hO4942 => ?_)
                have HS4943 : Hp S0 w0 w4934 [.rd A_row_0 (rowC E_valiseref6_Node ds_row_0), Dz D_valiseref6_Node (orB S0 B_row_0) w0.heap.size B_row_0 ds_row_0 l_row_0, .own A4180 c4181 (rowC E_valiseref6_Node ds4182) 61 E_valiseref6_Node.sz, Dz D_valiseref6_Node (orB S0 B_row_0) w0.heap.size B4183 ds4182 l4184, .box g4221 ([.int .i64 (IntKind.i64.wrap (((rdp ((0, []) : (Int × List Int)) l_row_0 i_4185).1) + ((rdp ((0, []) : (Int × List Int)) l_row_0 (IntKind.i64.wrap (i_4185 + 1))).1))), .slice A4930 l4932.length c4931]) 61, .own A4930 c4931 (rowC (Eint .i64) l4932) 3 (Eint .i64).sz] := HS4940.sel [0, 1, 2, 3, 4, 5] rfl
                have HS4945 : Hp S0 w0 w4934 [.rd A_row_0 (rowC E_valiseref6_Node ds_row_0), Dz D_valiseref6_Node (orB S0 B_row_0) w0.heap.size B_row_0 ds_row_0 l_row_0, .own A4180 c4181 (rowC E_valiseref6_Node ds4182) 61 E_valiseref6_Node.sz, Dz D_valiseref6_Node (orB S0 B_row_0) w0.heap.size B4183 ds4182 l4184, .box g4221 ([.int .i64 (IntKind.i64.wrap (((rdp ((0, []) : (Int × List Int)) l_row_0 i_4185).1) + ((rdp ((0, []) : (Int × List Int)) l_row_0 (IntKind.i64.wrap (i_4185 + 1))).1))), .slice A4930 l4932.length c4931]) 61, .own A4930 c4931 (rowC (Eint .i64) l4932) 3 (Eint .i64).sz, Dz D_valiseref6_Node (orB S0 B_row_0) w0.heap.size B_row_0 [(rdx E_valiseref6_Node ds_row_0 (IntKind.i64.wrap (i_4185 + 1)))] ([(rdp ((0, []) : (Int × List Int)) l_row_0 (IntKind.i64.wrap (i_4185 + 1)))])] := HS4943.dzOne (i := 1) rfl dz_self (HS4943.dze (i := 1) rfl) g4194 g4195
                have hc4946 := HS4945.ndCap (i := 6) rfl (rfl : _ = (rdp ((0, []) : (Int × List Int)) l_row_0 (IntKind.i64.wrap (i_4185 + 1))).2)
                have HS4948 : Hp S0 w0 w4934 [.rd A_row_0 (rowC E_valiseref6_Node ds_row_0), Dz D_valiseref6_Node (orB S0 B_row_0) w0.heap.size B_row_0 ds_row_0 l_row_0, .own A4180 c4181 (rowC E_valiseref6_Node ds4182) 61 E_valiseref6_Node.sz, Dz D_valiseref6_Node (orB S0 B_row_0) w0.heap.size B4183 ds4182 l4184, .box g4221 ([.int .i64 (IntKind.i64.wrap (((rdp ((0, []) : (Int × List Int)) l_row_0 i_4185).1) + ((rdp ((0, []) : (Int × List Int)) l_row_0 (IntKind.i64.wrap (i_4185 + 1))).1))), .slice A4930 l4932.length c4931]) 61, .own A4930 c4931 (rowC (Eint .i64) l4932) 3 (Eint .i64).sz, Dz D_valiseref6_Node (orB S0 B_row_0) w0.heap.size B_row_0 [(rdx E_valiseref6_Node ds_row_0 (IntKind.i64.wrap (i_4185 + 1)))] ([(rdp ((0, []) : (Int × List Int)) l_row_0 (IntKind.i64.wrap (i_4185 + 1)))]), .rd ((rdx E_valiseref6_Node ds_row_0 (IntKind.i64.wrap (i_4185 + 1))).2.1) (rowC (Eint .i64) ((rdp ((0, []) : (Int × List Int)) l_row_0 (IntKind.i64.wrap (i_4185 + 1))).2))] := HS4945.ndRd (i := 6) rfl rfl
                obtain ⟨⟨g4949, g4950⟩, H⟩ := of_gd H
                refine L_heldS 14 1 [14] mix rfl (fun w4966 hw4967 => ?_)
                have HS4968 := HS4948.keep hw4967
                refine ⟨HS4968.turns [5], ?_⟩
                have HR4969 : Hp (HS4968.ft [5]) w4966 w4966 [.own A4930 c4931 (rowC (Eint .i64) l4932) 3 (Eint .i64).sz, .rd A_row_0 (rowC E_valiseref6_Node ds_row_0), Dz D_valiseref6_Node anyB 0 B_row_0 ds_row_0 l_row_0, .rd A4180 (rowC E_valiseref6_Node ds4182), Dz D_valiseref6_Node anyB 0 B4183 ds4182 l4184, .rd (some ⟨g4221, 0, none⟩) ([.int .i64 (IntKind.i64.wrap (((rdp ((0, []) : (Int × List Int)) l_row_0 i_4185).1) + ((rdp ((0, []) : (Int × List Int)) l_row_0 (IntKind.i64.wrap (i_4185 + 1))).1))), .slice A4930 l4932.length c4931]), Dz D_valiseref6_Node anyB 0 B_row_0 [(rdx E_valiseref6_Node ds_row_0 (IntKind.i64.wrap (i_4185 + 1)))] ([(rdp ((0, []) : (Int × List Int)) l_row_0 (IntKind.i64.wrap (i_4185 + 1)))]), .rd ((rdx E_valiseref6_Node ds_row_0 (IntKind.i64.wrap (i_4185 + 1))).2.1) (rowC (Eint .i64) ((rdp ((0, []) : (Int × List Int)) l_row_0 (IntKind.i64.wrap (i_4185 + 1))).2))] := HS4968.give [5] rfl (Lent.rd HS4968 (Lent.dz HS4968 (Lent.own HS4968 (Lent.dz HS4968 (Lent.box HS4968 (Lent.dz HS4968 (Lent.rd HS4968 (Lent.nil) (i := 7) rfl (HS4968.cells_rd (i := 7) rfl).self) (i := 6) rfl dz_self (HS4968.dze (i := 6) rfl)) (i := 4) rfl rfl (HS4968.cells_box (i := 4) rfl).self) (i := 3) rfl dz_self (HS4968.dze (i := 3) rfl)) (i := 2) rfl rfl (HS4968.cells_own (i := 2) rfl).self) (i := 1) rfl dz_self (HS4968.dze (i := 1) rfl)) (i := 0) rfl (HS4968.cells_rd (i := 0) rfl).self)
                have hSF4970 : ∀ b, HS4968.ft [5] b → (orB (orB (orB (HS4968.ft [5]) B_row_0) B4183) B_row_0) b ∨ w4966.heap.size ≤ b := fun b hb => .inl (.inl (.inl (.inl hb)))
                have HS4971 : Hp (HS4968.ft [5]) w4966 w4966 [.own A4930 c4931 (rowC (Eint .i64) l4932) 3 (Eint .i64).sz, .rd A_row_0 (rowC E_valiseref6_Node ds_row_0), Dz D_valiseref6_Node (orB (orB (orB (HS4968.ft [5]) B_row_0) B4183) B_row_0) w4966.heap.size B_row_0 ds_row_0 l_row_0, .rd A4180 (rowC E_valiseref6_Node ds4182), Dz D_valiseref6_Node anyB 0 B4183 ds4182 l4184, .rd (some ⟨g4221, 0, none⟩) ([.int .i64 (IntKind.i64.wrap (((rdp ((0, []) : (Int × List Int)) l_row_0 i_4185).1) + ((rdp ((0, []) : (Int × List Int)) l_row_0 (IntKind.i64.wrap (i_4185 + 1))).1))), .slice A4930 l4932.length c4931]), Dz D_valiseref6_Node anyB 0 B_row_0 [(rdx E_valiseref6_Node ds_row_0 (IntKind.i64.wrap (i_4185 + 1)))] ([(rdp ((0, []) : (Int × List Int)) l_row_0 (IntKind.i64.wrap (i_4185 + 1)))]), .rd ((rdx E_valiseref6_Node ds_row_0 (IntKind.i64.wrap (i_4185 + 1))).2.1) (rowC (Eint .i64) ((rdp ((0, []) : (Int × List Int)) l_row_0 (IntKind.i64.wrap (i_4185 + 1))).2))] := HR4969.dzProv (i := 2) rfl (fun b _ hb => .inl (.inl (.inl (.inr hb))))
                have HS4972 : Hp (HS4968.ft [5]) w4966 w4966 [.own A4930 c4931 (rowC (Eint .i64) l4932) 3 (Eint .i64).sz, .rd A_row_0 (rowC E_valiseref6_Node ds_row_0), Dz D_valiseref6_Node (orB (orB (orB (HS4968.ft [5]) B_row_0) B4183) B_row_0) w4966.heap.size B_row_0 ds_row_0 l_row_0, .rd A4180 (rowC E_valiseref6_Node ds4182), Dz D_valiseref6_Node (orB (orB (orB (HS4968.ft [5]) B_row_0) B4183) B_row_0) w4966.heap.size B4183 ds4182 l4184, .rd (some ⟨g4221, 0, none⟩) ([.int .i64 (IntKind.i64.wrap (((rdp ((0, []) : (Int × List Int)) l_row_0 i_4185).1) + ((rdp ((0, []) : (Int × List Int)) l_row_0 (IntKind.i64.wrap (i_4185 + 1))).1))), .slice A4930 l4932.length c4931]), Dz D_valiseref6_Node anyB 0 B_row_0 [(rdx E_valiseref6_Node ds_row_0 (IntKind.i64.wrap (i_4185 + 1)))] ([(rdp ((0, []) : (Int × List Int)) l_row_0 (IntKind.i64.wrap (i_4185 + 1)))]), .rd ((rdx E_valiseref6_Node ds_row_0 (IntKind.i64.wrap (i_4185 + 1))).2.1) (rowC (Eint .i64) ((rdp ((0, []) : (Int × List Int)) l_row_0 (IntKind.i64.wrap (i_4185 + 1))).2))] := HS4971.dzProv (i := 4) rfl (fun b _ hb => .inl (.inl (.inr hb)))
                have HS4973 : Hp (HS4968.ft [5]) w4966 w4966 [.own A4930 c4931 (rowC (Eint .i64) l4932) 3 (Eint .i64).sz, .rd A_row_0 (rowC E_valiseref6_Node ds_row_0), Dz D_valiseref6_Node (orB (orB (orB (HS4968.ft [5]) B_row_0) B4183) B_row_0) w4966.heap.size B_row_0 ds_row_0 l_row_0, .rd A4180 (rowC E_valiseref6_Node ds4182), Dz D_valiseref6_Node (orB (orB (orB (HS4968.ft [5]) B_row_0) B4183) B_row_0) w4966.heap.size B4183 ds4182 l4184, .rd (some ⟨g4221, 0, none⟩) ([.int .i64 (IntKind.i64.wrap (((rdp ((0, []) : (Int × List Int)) l_row_0 i_4185).1) + ((rdp ((0, []) : (Int × List Int)) l_row_0 (IntKind.i64.wrap (i_4185 + 1))).1))), .slice A4930 l4932.length c4931]), Dz D_valiseref6_Node (orB (orB (orB (HS4968.ft [5]) B_row_0) B4183) B_row_0) w4966.heap.size B_row_0 [(rdx E_valiseref6_Node ds_row_0 (IntKind.i64.wrap (i_4185 + 1)))] ([(rdp ((0, []) : (Int × List Int)) l_row_0 (IntKind.i64.wrap (i_4185 + 1)))]), .rd ((rdx E_valiseref6_Node ds_row_0 (IntKind.i64.wrap (i_4185 + 1))).2.1) (rowC (Eint .i64) ((rdp ((0, []) : (Int × List Int)) l_row_0 (IntKind.i64.wrap (i_4185 + 1))).2))] := HS4972.dzProv (i := 6) rfl (fun b _ hb => .inl (.inr hb))
                refine H_val (i := 0) rfl (by kernel_rfl) (by kernel_rfl) (by kernel_rfl) (by kernel_rfl) rfl rfl rfl HS4973.chg (fun wq hq => O_fieldB rfl rfl field61_1) ?_
                refine H_val (i := 1) rfl (by kernel_rfl) (by kernel_rfl) (by kernel_rfl) (by kernel_rfl) rfl rfl rfl HS4973.chg (fun wq hq => O_loadB rfl rfl flat22 ((HS4968.keepT [5] hq).cells_box (i := 4) rfl) rfl) ?_
                refine H_val (i := 2) rfl (by kernel_rfl) (by kernel_rfl) (by kernel_rfl) (by kernel_rfl) rfl rfl rfl HS4973.chg (fun wq hq => O_move rfl rfl) ?_
                refine H_val (i := 3) rfl (by kernel_rfl) (by kernel_rfl) (by kernel_rfl) (by kernel_rfl) rfl rfl rfl HS4973.chg (fun wq hq => O_move rfl rfl) ?_
                refine H_val (i := 4) rfl (by kernel_rfl) (by kernel_rfl) (by kernel_rfl) (by kernel_rfl) rfl rfl rfl HS4973.chg (fun wq hq => O_add rfl rfl rfl) ?_
                refine H_val (i := 5) rfl (by kernel_rfl) (by kernel_rfl) (by kernel_rfl) (by kernel_rfl) rfl rfl rfl HS4973.chg (fun wq hq => O_idx rfl rfl rfl Try.underlying59 size61 g4194 g4195 (Cells.isA ((HS4968.keepT [5] hq).cells_rd (i := 0) rfl) (dz_ne (D := D_valiseref6_Node) ((HS4968.keepT [5] hq).dze (i := 1) rfl) g4194 g4195 (by decide)))) ?_
                refine H_val (i := 6) rfl (by kernel_rfl) (by kernel_rfl) (by kernel_rfl) (by kernel_rfl) rfl rfl rfl HS4973.chg (fun wq hq => O_fieldC rfl rfl (Cells.isA ((HS4968.keepT [5] hq).cells_rd (i := 0) rfl) (dz_ne (D := D_valiseref6_Node) ((HS4968.keepT [5] hq).dze (i := 1) rfl) g4194 g4195 (by decide))) field61_1) ?_
                refine H_val (i := 7) rfl (by kernel_rfl) (by kernel_rfl) (by kernel_rfl) (by kernel_rfl) rfl rfl rfl HS4973.chg (fun wq hq => O_loadC rfl rfl flat22 ((HS4968.keepT [5] hq).cells_rd (i := 0) rfl) (dz_cellS (D := D_valiseref6_Node) (f := fun x A c => .slice A x.2.length c) 1 (fun d => rfl) rfl ((HS4968.keepT [5] hq).dze (i := 1) rfl) g4194 g4195)) ?_
                refine H_val (i := 8) rfl (by kernel_rfl) (by kernel_rfl) (by kernel_rfl) (by kernel_rfl) rfl rfl rfl HS4973.chg (fun wq hq => O_move rfl rfl) ?_
                refine H_val (i := 9) rfl (by kernel_rfl) (by kernel_rfl) (by kernel_rfl) (by kernel_rfl) rfl rfl rfl HS4973.chg (fun wq hq => O_idx rfl rfl rfl Try.underlying22 size3 g4949 g4950 (Cells.isA ((HS4968.keepT [5] hq).cells_rd (i := 7) rfl) (rowC_ne (E := (Eint .i64)) g4949 g4950 (by decide)))) ?_
                refine H_val (i := 10) rfl (by kernel_rfl) (by kernel_rfl) (by kernel_rfl) (by kernel_rfl) rfl rfl rfl HS4973.chg (fun wq hq => O_loadC rfl rfl flat3 ((HS4968.keepT [5] hq).cells_rd (i := 7) rfl) (int_cell g4949 g4950)) ?_
                refine H_one (i := 11) rfl (by kernel_rfl) (by kernel_rfl) ?_
                refine F_litE (E := (Eint .i64)) (e := 3) [(0, .int .i64 (rd ((rdp ((0, []) : (Int × List Int)) l_row_0 (IntKind.i64.wrap (i_4185 + 1))).2) k_4933))] [rd ((rdp ((0, []) : (Int × List Int)) l_row_0 (IntKind.i64.wrap (i_4185 + 1))).2) k_4933] rfl rfl rfl rfl rfl rfl rfl (by decide) (fun w => by kernel_rfl) HS4973 (fun w4975 A4977 c4978 HS4976 => ?_)
                have HS4976 : Hp (HS4968.ft [5]) w4966 w4975 [.own A4930 c4931 (rowC (Eint .i64) l4932) 3 (Eint .i64).sz, .rd A_row_0 (rowC E_valiseref6_Node ds_row_0), Dz D_valiseref6_Node (orB (orB (orB (HS4968.ft [5]) B_row_0) B4183) B_row_0) w4966.heap.size B_row_0 ds_row_0 l_row_0, .rd A4180 (rowC E_valiseref6_Node ds4182), Dz D_valiseref6_Node (orB (orB (orB (HS4968.ft [5]) B_row_0) B4183) B_row_0) w4966.heap.size B4183 ds4182 l4184, .rd (some ⟨g4221, 0, none⟩) ([.int .i64 (IntKind.i64.wrap (((rdp ((0, []) : (Int × List Int)) l_row_0 i_4185).1) + ((rdp ((0, []) : (Int × List Int)) l_row_0 (IntKind.i64.wrap (i_4185 + 1))).1))), .slice A4930 l4932.length c4931]), Dz D_valiseref6_Node (orB (orB (orB (HS4968.ft [5]) B_row_0) B4183) B_row_0) w4966.heap.size B_row_0 [(rdx E_valiseref6_Node ds_row_0 (IntKind.i64.wrap (i_4185 + 1)))] ([(rdp ((0, []) : (Int × List Int)) l_row_0 (IntKind.i64.wrap (i_4185 + 1)))]), .rd ((rdx E_valiseref6_Node ds_row_0 (IntKind.i64.wrap (i_4185 + 1))).2.1) (rowC (Eint .i64) ((rdp ((0, []) : (Int × List Int)) l_row_0 (IntKind.i64.wrap (i_4185 + 1))).2)), .own A4977 c4978 (rowC (Eint .i64) ([rd ((rdp ((0, []) : (Int × List Int)) l_row_0 (IntKind.i64.wrap (i_4185 + 1))).2) k_4933])) 3 (Eint .i64).sz] := HS4976
                refine H_next HS4976.chg ?_
                refine H_one (i := 12) rfl (by kernel_rfl) (by kernel_rfl) ?_
                obtain ⟨l4982, h4983, H⟩ := of_bnd H
                obtain ⟨g4984, H⟩ := of_gd H
                refine F_appE2 (E := (Eint .i64)) (xs := l4932) (ys := ([rd ((rdp ((0, []) : (Int × List Int)) l_row_0 (IntKind.i64.wrap (i_4185 + 1))).2) k_4933])) (i := 0) rfl rfl rfl rfl Try.underlying22 info3 rfl (by decide) (by decide) rfl rfl HS4976 rfl (HS4976.cells_own (i := 8) rfl) h4983 g4984 (fun w4980 HS4981 => ?_) (fun w4980 A4985 c4986 HS4981 => ?_)
                · skip
                  have HS4981 : Hp (HS4968.ft [5]) w4966 w4980 [.own A4930 c4931 (rowC (Eint .i64) l4982) 3 (Eint .i64).sz, .rd A_row_0 (rowC E_valiseref6_Node ds_row_0), Dz D_valiseref6_Node (orB (orB (orB (HS4968.ft [5]) B_row_0) B4183) B_row_0) w4966.heap.size B_row_0 ds_row_0 l_row_0, .rd A4180 (rowC E_valiseref6_Node ds4182), Dz D_valiseref6_Node (orB (orB (orB (HS4968.ft [5]) B_row_0) B4183) B_row_0) w4966.heap.size B4183 ds4182 l4184, .rd (some ⟨g4221, 0, none⟩) ([.int .i64 (IntKind.i64.wrap (((rdp ((0, []) : (Int × List Int)) l_row_0 i_4185).1) + ((rdp ((0, []) : (Int × List Int)) l_row_0 (IntKind.i64.wrap (i_4185 + 1))).1))), .slice A4930 l4932.length c4931]), Dz D_valiseref6_Node (orB (orB (orB (HS4968.ft [5]) B_row_0) B4183) B_row_0) w4966.heap.size B_row_0 [(rdx E_valiseref6_Node ds_row_0 (IntKind.i64.wrap (i_4185 + 1)))] ([(rdp ((0, []) : (Int × List Int)) l_row_0 (IntKind.i64.wrap (i_4185 + 1)))]), .rd ((rdx E_valiseref6_Node ds_row_0 (IntKind.i64.wrap (i_4185 + 1))).2.1) (rowC (Eint .i64) ((rdp ((0, []) : (Int × List Int)) l_row_0 (IntKind.i64.wrap (i_4185 + 1))).2)), .own A4977 c4978 (rowC (Eint .i64) ([rd ((rdp ((0, []) : (Int × List Int)) l_row_0 (IntKind.i64.wrap (i_4185 + 1))).2) k_4933])) 3 (Eint .i64).sz] := HS4981
                  have hs4987 := (HS4981.cells_own (i := 0) rfl).preZ h4983
                  refine H_next HS4981.chg ?_
                  refine H_val (i := 13) rfl (by kernel_rfl) (by kernel_rfl) (by kernel_rfl) (by kernel_rfl) rfl rfl rfl HS4981.chg (fun wq hq => O_fieldB rfl rfl field61_1) ?_
                  refine H_end (by kernel_rfl) ?_
                  have HS4989 : Hp S0 w0 w4980 [.rd A_row_0 (rowC E_valiseref6_Node ds_row_0), Dz D_valiseref6_Node (orB S0 B_row_0) w0.heap.size B_row_0 ds_row_0 l_row_0, .own A4180 c4181 (rowC E_valiseref6_Node ds4182) 61 E_valiseref6_Node.sz, Dz D_valiseref6_Node (orB S0 B_row_0) w0.heap.size B4183 ds4182 l4184, .box g4221 ([.int .i64 (IntKind.i64.wrap (((rdp ((0, []) : (Int × List Int)) l_row_0 i_4185).1) + ((rdp ((0, []) : (Int × List Int)) l_row_0 (IntKind.i64.wrap (i_4185 + 1))).1))), .slice A4930 l4932.length c4931]) 61, .own A4930 c4931 (rowC (Eint .i64) l4982) 3 (Eint .i64).sz, Dz D_valiseref6_Node (orB S0 B_row_0) w0.heap.size B_row_0 [(rdx E_valiseref6_Node ds_row_0 (IntKind.i64.wrap (i_4185 + 1)))] ([(rdp ((0, []) : (Int × List Int)) l_row_0 (IntKind.i64.wrap (i_4185 + 1)))]), .rd ((rdx E_valiseref6_Node ds_row_0 (IntKind.i64.wrap (i_4185 + 1))).2.1) (rowC (Eint .i64) ((rdp ((0, []) : (Int × List Int)) l_row_0 (IntKind.i64.wrap (i_4185 + 1))).2)), .own A4977 c4978 (rowC (Eint .i64) ([rd ((rdp ((0, []) : (Int × List Int)) l_row_0 (IntKind.i64.wrap (i_4185 + 1))).2) k_4933])) 3 (Eint .i64).sz] := (HS4968.back [5] (HS4981.sel [0, 8] rfl) rfl).sel [0, 1, 2, 3, 4, 8, 6, 7, 9] rfl
                  refine T_one (i := 14) rfl (by kernel_rfl) ?_
                  refine F_stB 4 ([.int .i64 (IntKind.i64.wrap (((rdp ((0, []) : (Int × List Int)) l_row_0 i_4185).1) + ((rdp ((0, []) : (Int × List Int)) l_row_0 (IntKind.i64.wrap (i_4185 + 1))).1))), .slice A4930 l4982.length c4931]) rfl rfl rfl rfl rfl size22 HS4989 rfl rfl rfl rfl rfl (fun w4990 HS4991 => ?_)
                  have HS4991 : Hp S0 w0 w4990 [.rd A_row_0 (rowC E_valiseref6_Node ds_row_0), Dz D_valiseref6_Node (orB S0 B_row_0) w0.heap.size B_row_0 ds_row_0 l_row_0, .own A4180 c4181 (rowC E_valiseref6_Node ds4182) 61 E_valiseref6_Node.sz, Dz D_valiseref6_Node (orB S0 B_row_0) w0.heap.size B4183 ds4182 l4184, .box g4221 ([.int .i64 (IntKind.i64.wrap (((rdp ((0, []) : (Int × List Int)) l_row_0 i_4185).1) + ((rdp ((0, []) : (Int × List Int)) l_row_0 (IntKind.i64.wrap (i_4185 + 1))).1))), .slice A4930 l4982.length c4931]) 61, .own A4930 c4931 (rowC (Eint .i64) l4982) 3 (Eint .i64).sz, Dz D_valiseref6_Node (orB S0 B_row_0) w0.heap.size B_row_0 [(rdx E_valiseref6_Node ds_row_0 (IntKind.i64.wrap (i_4185 + 1)))] ([(rdp ((0, []) : (Int × List Int)) l_row_0 (IntKind.i64.wrap (i_4185 + 1)))]), .rd ((rdx E_valiseref6_Node ds_row_0 (IntKind.i64.wrap (i_4185 + 1))).2.1) (rowC (Eint .i64) ((rdp ((0, []) : (Int × List Int)) l_row_0 (IntKind.i64.wrap (i_4185 + 1))).2)), .own A4977 c4978 (rowC (Eint .i64) ([rd ((rdp ((0, []) : (Int × List Int)) l_row_0 (IntKind.i64.wrap (i_4185 + 1))).2) k_4933])) 3 (Eint .i64).sz] := HS4991
                  refine T_next ?_
                  refine T_done (by kernel_rfl) ?_
                  refine L_endB hN4942 ?_
                  have HS4992 : Hp S0 w0 w4990 [.rd A_row_0 (rowC E_valiseref6_Node ds_row_0), Dz D_valiseref6_Node (orB S0 B_row_0) w0.heap.size B_row_0 ds_row_0 l_row_0, .own A4180 c4181 (rowC E_valiseref6_Node ds4182) 61 E_valiseref6_Node.sz, Dz D_valiseref6_Node (orB S0 B_row_0) w0.heap.size B4183 ds4182 l4184, .box g4221 ([.int .i64 (IntKind.i64.wrap (((rdp ((0, []) : (Int × List Int)) l_row_0 i_4185).1) + ((rdp ((0, []) : (Int × List Int)) l_row_0 (IntKind.i64.wrap (i_4185 + 1))).1))), .slice A4930 l4982.length c4931]) 61, .own A4930 c4931 (rowC (Eint .i64) l4982) 3 (Eint .i64).sz] := HS4991.sel [0, 1, 2, 3, 4, 5] rfl
                  refine L_region ?_
                  refine F_val rfl rfl rfl (O_move rfl rfl) ?_
                  refine F_val rfl rfl rfl (O_add rfl rfl rfl) ?_
                  obtain ⟨x4993, h4994, H⟩ := of_bnd H
                  refine F_val rfl rfl rfl (O_assign' rfl rfl (congrArg (Value.int .i64) h4994)) ?_
                  refine F_nil ?_
                  refine L_nil (fun a ha => hNp4929 _ a _ (Nat.lt_succ_self _) ⟨_, _, _, _, Is.cons ha (Is.cons ha (Is.cons ha (Is.cons ha (Is.cons ha (Is.nil ha) rfl) rfl) rfl) rfl) rfl, HS4992.sel [0, 1, 2, 3, 4, 5] rfl, H⟩)
                · skip
                  have HS4981 : Hp (HS4968.ft [5]) w4966 w4980 [.own A4930 c4931 (rowC (Eint .i64) l4932) 3 (Eint .i64).sz, .rd A_row_0 (rowC E_valiseref6_Node ds_row_0), Dz D_valiseref6_Node (orB (orB (orB (HS4968.ft [5]) B_row_0) B4183) B_row_0) w4966.heap.size B_row_0 ds_row_0 l_row_0, .rd A4180 (rowC E_valiseref6_Node ds4182), Dz D_valiseref6_Node (orB (orB (orB (HS4968.ft [5]) B_row_0) B4183) B_row_0) w4966.heap.size B4183 ds4182 l4184, .rd (some ⟨g4221, 0, none⟩) ([.int .i64 (IntKind.i64.wrap (((rdp ((0, []) : (Int × List Int)) l_row_0 i_4185).1) + ((rdp ((0, []) : (Int × List Int)) l_row_0 (IntKind.i64.wrap (i_4185 + 1))).1))), .slice A4930 l4932.length c4931]), Dz D_valiseref6_Node (orB (orB (orB (HS4968.ft [5]) B_row_0) B4183) B_row_0) w4966.heap.size B_row_0 [(rdx E_valiseref6_Node ds_row_0 (IntKind.i64.wrap (i_4185 + 1)))] ([(rdp ((0, []) : (Int × List Int)) l_row_0 (IntKind.i64.wrap (i_4185 + 1)))]), .rd ((rdx E_valiseref6_Node ds_row_0 (IntKind.i64.wrap (i_4185 + 1))).2.1) (rowC (Eint .i64) ((rdp ((0, []) : (Int × List Int)) l_row_0 (IntKind.i64.wrap (i_4185 + 1))).2)), .own A4977 c4978 (rowC (Eint .i64) ([rd ((rdp ((0, []) : (Int × List Int)) l_row_0 (IntKind.i64.wrap (i_4185 + 1))).2) k_4933])) 3 (Eint .i64).sz, .own A4985 c4986 (rowC (Eint .i64) l4982) 3 (Eint .i64).sz] := HS4981
                  refine H_next HS4981.chg ?_
                  refine H_val (i := 13) rfl (by kernel_rfl) (by kernel_rfl) (by kernel_rfl) (by kernel_rfl) rfl rfl rfl HS4981.chg (fun wq hq => O_fieldB rfl rfl field61_1) ?_
                  refine H_end (by kernel_rfl) ?_
                  have HS4989 : Hp S0 w0 w4980 [.rd A_row_0 (rowC E_valiseref6_Node ds_row_0), Dz D_valiseref6_Node (orB S0 B_row_0) w0.heap.size B_row_0 ds_row_0 l_row_0, .own A4180 c4181 (rowC E_valiseref6_Node ds4182) 61 E_valiseref6_Node.sz, Dz D_valiseref6_Node (orB S0 B_row_0) w0.heap.size B4183 ds4182 l4184, .box g4221 ([.int .i64 (IntKind.i64.wrap (((rdp ((0, []) : (Int × List Int)) l_row_0 i_4185).1) + ((rdp ((0, []) : (Int × List Int)) l_row_0 (IntKind.i64.wrap (i_4185 + 1))).1))), .slice A4930 l4932.length c4931]) 61, .own A4930 c4931 (rowC (Eint .i64) l4932) 3 (Eint .i64).sz, Dz D_valiseref6_Node (orB S0 B_row_0) w0.heap.size B_row_0 [(rdx E_valiseref6_Node ds_row_0 (IntKind.i64.wrap (i_4185 + 1)))] ([(rdp ((0, []) : (Int × List Int)) l_row_0 (IntKind.i64.wrap (i_4185 + 1)))]), .rd ((rdx E_valiseref6_Node ds_row_0 (IntKind.i64.wrap (i_4185 + 1))).2.1) (rowC (Eint .i64) ((rdp ((0, []) : (Int × List Int)) l_row_0 (IntKind.i64.wrap (i_4185 + 1))).2)), .own A4977 c4978 (rowC (Eint .i64) ([rd ((rdp ((0, []) : (Int × List Int)) l_row_0 (IntKind.i64.wrap (i_4185 + 1))).2) k_4933])) 3 (Eint .i64).sz, .own A4985 c4986 (rowC (Eint .i64) l4982) 3 (Eint .i64).sz] := (HS4968.back [5] (HS4981.sel [0, 8, 9] rfl) rfl).sel [0, 1, 2, 3, 4, 8, 6, 7, 9, 10] rfl
                  refine T_one (i := 14) rfl (by kernel_rfl) ?_
                  refine F_stB 4 ([.int .i64 (IntKind.i64.wrap (((rdp ((0, []) : (Int × List Int)) l_row_0 i_4185).1) + ((rdp ((0, []) : (Int × List Int)) l_row_0 (IntKind.i64.wrap (i_4185 + 1))).1))), .slice A4985 l4982.length c4986]) rfl rfl rfl rfl rfl size22 HS4989 rfl rfl rfl rfl rfl (fun w4990 HS4991 => ?_)
                  have HS4991 : Hp S0 w0 w4990 [.rd A_row_0 (rowC E_valiseref6_Node ds_row_0), Dz D_valiseref6_Node (orB S0 B_row_0) w0.heap.size B_row_0 ds_row_0 l_row_0, .own A4180 c4181 (rowC E_valiseref6_Node ds4182) 61 E_valiseref6_Node.sz, Dz D_valiseref6_Node (orB S0 B_row_0) w0.heap.size B4183 ds4182 l4184, .box g4221 ([.int .i64 (IntKind.i64.wrap (((rdp ((0, []) : (Int × List Int)) l_row_0 i_4185).1) + ((rdp ((0, []) : (Int × List Int)) l_row_0 (IntKind.i64.wrap (i_4185 + 1))).1))), .slice A4985 l4982.length c4986]) 61, .own A4930 c4931 (rowC (Eint .i64) l4932) 3 (Eint .i64).sz, Dz D_valiseref6_Node (orB S0 B_row_0) w0.heap.size B_row_0 [(rdx E_valiseref6_Node ds_row_0 (IntKind.i64.wrap (i_4185 + 1)))] ([(rdp ((0, []) : (Int × List Int)) l_row_0 (IntKind.i64.wrap (i_4185 + 1)))]), .rd ((rdx E_valiseref6_Node ds_row_0 (IntKind.i64.wrap (i_4185 + 1))).2.1) (rowC (Eint .i64) ((rdp ((0, []) : (Int × List Int)) l_row_0 (IntKind.i64.wrap (i_4185 + 1))).2)), .own A4977 c4978 (rowC (Eint .i64) ([rd ((rdp ((0, []) : (Int × List Int)) l_row_0 (IntKind.i64.wrap (i_4185 + 1))).2) k_4933])) 3 (Eint .i64).sz, .own A4985 c4986 (rowC (Eint .i64) l4982) 3 (Eint .i64).sz] := HS4991
                  refine T_next ?_
                  refine T_done (by kernel_rfl) ?_
                  refine L_endB hN4942 ?_
                  have HS4992 : Hp S0 w0 w4990 [.rd A_row_0 (rowC E_valiseref6_Node ds_row_0), Dz D_valiseref6_Node (orB S0 B_row_0) w0.heap.size B_row_0 ds_row_0 l_row_0, .own A4180 c4181 (rowC E_valiseref6_Node ds4182) 61 E_valiseref6_Node.sz, Dz D_valiseref6_Node (orB S0 B_row_0) w0.heap.size B4183 ds4182 l4184, .box g4221 ([.int .i64 (IntKind.i64.wrap (((rdp ((0, []) : (Int × List Int)) l_row_0 i_4185).1) + ((rdp ((0, []) : (Int × List Int)) l_row_0 (IntKind.i64.wrap (i_4185 + 1))).1))), .slice A4985 l4982.length c4986]) 61, .own A4930 c4931 (rowC (Eint .i64) l4932) 3 (Eint .i64).sz, .own A4985 c4986 (rowC (Eint .i64) l4982) 3 (Eint .i64).sz] := HS4991.sel [0, 1, 2, 3, 4, 5, 9] rfl
                  refine L_region ?_
                  refine F_val rfl rfl rfl (O_move rfl rfl) ?_
                  refine F_val rfl rfl rfl (O_add rfl rfl rfl) ?_
                  obtain ⟨x4993, h4994, H⟩ := of_bnd H
                  refine F_val rfl rfl rfl (O_assign' rfl rfl (congrArg (Value.int .i64) h4994)) ?_
                  refine F_nil ?_
                  refine L_nil (fun a ha => hNp4929 _ a _ (Nat.lt_succ_self _) ⟨_, _, _, _, Is.cons ha (Is.cons ha (Is.cons ha (Is.cons ha (Is.cons ha (Is.nil ha) rfl) rfl) rfl) rfl) rfl, HS4992.sel [0, 1, 2, 3, 4, 6] rfl, H⟩)
              · have H := of_neg H c4941
                refine L_exitB (fun a w h => hOp4929 (.exit 4) a w rfl (hXb4806 a w h)) ?_
                refine L_nil (fun a ha => hNj4613 a _ ⟨_, _, _, (Option.some.inj H).symm, Is.cons ha (Is.cons ha (Is.cons ha (Is.cons ha (Is.nil ha) rfl) rfl) rfl) rfl, HS4940.sel [0, 1, 2, 3, 4, 5] rfl⟩)
          · obtain ⟨l4805, A4803, c4804, ej, ha, HS4996⟩ := hR
            obtain rfl := ej.symm
            refine wpLF_app ?_ ha
            refine L_region ?_
            refine F_val rfl rfl rfl (O_move rfl rfl) ?_
            refine F_val rfl rfl rfl (O_loadWB' (k := 0) (vs := [.int .i64 (IntKind.i64.wrap (((rdp ((0, []) : (Int × List Int)) l_row_0 i_4185).1) + ((rdp ((0, []) : (Int × List Int)) l_row_0 (IntKind.i64.wrap (i_4185 + 1))).1))), .slice A4803 l4805.length c4804]) rfl rfl wide61 (HS4996.cells_box (i := 4) rfl) rfl rfl (by simp)) ?_
            have HS5000 : Hp S0 w0 w [.rd A_row_0 (rowC E_valiseref6_Node ds_row_0), Dz D_valiseref6_Node (orB S0 B_row_0) w0.heap.size B_row_0 ds_row_0 l_row_0, .own A4180 c4181 (rowC E_valiseref6_Node ds4182) 61 E_valiseref6_Node.sz, Dz D_valiseref6_Node (orB S0 B_row_0) w0.heap.size B4183 ds4182 l4184, .box g4221 ([.int .i64 (IntKind.i64.wrap (((rdp ((0, []) : (Int × List Int)) l_row_0 i_4185).1) + ((rdp ((0, []) : (Int × List Int)) l_row_0 (IntKind.i64.wrap (i_4185 + 1))).1))), .slice A4803 l4805.length c4804]) 61, Dz D_valiseref6_Node (orB S0 B_row_0) w0.heap.size (blk A4803 (rowC (Eint .i64) l4805)) ([((IntKind.i64.wrap (((rdp ((0, []) : (Int × List Int)) l_row_0 i_4185).1) + ((rdp ((0, []) : (Int × List Int)) l_row_0 (IntKind.i64.wrap (i_4185 + 1))).1)), l4805), A4803, c4804)]) ([(IntKind.i64.wrap (((rdp ((0, []) : (Int × List Int)) l_row_0 i_4185).1) + ((rdp ((0, []) : (Int × List Int)) l_row_0 (IntKind.i64.wrap (i_4185 + 1))).1)), l4805)])] := HS4996.ndFreeze (i := 5) (IntKind.i64.wrap (((rdp ((0, []) : (Int × List Int)) l_row_0 i_4185).1) + ((rdp ((0, []) : (Int × List Int)) l_row_0 (IntKind.i64.wrap (i_4185 + 1))).1)), l4805) rfl rfl (by decide) hSF (Nat.le_refl _)
            refine F_litE (E := E_valiseref6_Node) (e := 61) [(0, .agg #[.int .i64 (IntKind.i64.wrap (((rdp ((0, []) : (Int × List Int)) l_row_0 i_4185).1) + ((rdp ((0, []) : (Int × List Int)) l_row_0 (IntKind.i64.wrap (i_4185 + 1))).1))), .slice A4803 l4805.length c4804])] [((IntKind.i64.wrap (((rdp ((0, []) : (Int × List Int)) l_row_0 i_4185).1) + ((rdp ((0, []) : (Int × List Int)) l_row_0 (IntKind.i64.wrap (i_4185 + 1))).1)), l4805), A4803, c4804)] rfl rfl rfl rfl rfl rfl rfl (by decide) (fun w => by kernel_rfl) HS5000 (fun w4997 A5001 c5002 HS4998 => ?_)
            have HS4998 : Hp S0 w0 w4997 [.rd A_row_0 (rowC E_valiseref6_Node ds_row_0), Dz D_valiseref6_Node (orB S0 B_row_0) w0.heap.size B_row_0 ds_row_0 l_row_0, .own A4180 c4181 (rowC E_valiseref6_Node ds4182) 61 E_valiseref6_Node.sz, Dz D_valiseref6_Node (orB S0 B_row_0) w0.heap.size B4183 ds4182 l4184, .box g4221 ([.int .i64 (IntKind.i64.wrap (((rdp ((0, []) : (Int × List Int)) l_row_0 i_4185).1) + ((rdp ((0, []) : (Int × List Int)) l_row_0 (IntKind.i64.wrap (i_4185 + 1))).1))), .slice A4803 l4805.length c4804]) 61, Dz D_valiseref6_Node (orB S0 B_row_0) w0.heap.size (blk A4803 (rowC (Eint .i64) l4805)) ([((IntKind.i64.wrap (((rdp ((0, []) : (Int × List Int)) l_row_0 i_4185).1) + ((rdp ((0, []) : (Int × List Int)) l_row_0 (IntKind.i64.wrap (i_4185 + 1))).1)), l4805), A4803, c4804)]) ([(IntKind.i64.wrap (((rdp ((0, []) : (Int × List Int)) l_row_0 i_4185).1) + ((rdp ((0, []) : (Int × List Int)) l_row_0 (IntKind.i64.wrap (i_4185 + 1))).1)), l4805)]), .own A5001 c5002 (rowC E_valiseref6_Node ([((IntKind.i64.wrap (((rdp ((0, []) : (Int × List Int)) l_row_0 i_4185).1) + ((rdp ((0, []) : (Int × List Int)) l_row_0 (IntKind.i64.wrap (i_4185 + 1))).1)), l4805), A4803, c4804)])) 61 E_valiseref6_Node.sz] := HS4998
            have HS5005 : Hp S0 w0 w4997 [.rd A_row_0 (rowC E_valiseref6_Node ds_row_0), Dz D_valiseref6_Node (orB S0 B_row_0) w0.heap.size B_row_0 ds_row_0 l_row_0, .own A4180 c4181 (rowC E_valiseref6_Node ds4182) 61 E_valiseref6_Node.sz, Dz D_valiseref6_Node (orB S0 B_row_0) w0.heap.size B4183 ds4182 l4184, .box g4221 ([.int .i64 (IntKind.i64.wrap (((rdp ((0, []) : (Int × List Int)) l_row_0 i_4185).1) + ((rdp ((0, []) : (Int × List Int)) l_row_0 (IntKind.i64.wrap (i_4185 + 1))).1))), .slice A4803 l4805.length c4804]) 61, Dz D_valiseref6_Node (orB S0 B_row_0) w0.heap.size (blk A4803 (rowC (Eint .i64) l4805)) ([((IntKind.i64.wrap (((rdp ((0, []) : (Int × List Int)) l_row_0 i_4185).1) + ((rdp ((0, []) : (Int × List Int)) l_row_0 (IntKind.i64.wrap (i_4185 + 1))).1)), l4805), A4803, c4804)]) ([(IntKind.i64.wrap (((rdp ((0, []) : (Int × List Int)) l_row_0 i_4185).1) + ((rdp ((0, []) : (Int × List Int)) l_row_0 (IntKind.i64.wrap (i_4185 + 1))).1)), l4805)]), .own A5001 c5002 (rowC E_valiseref6_Node ([((IntKind.i64.wrap (((rdp ((0, []) : (Int × List Int)) l_row_0 i_4185).1) + ((rdp ((0, []) : (Int × List Int)) l_row_0 (IntKind.i64.wrap (i_4185 + 1))).1)), l4805), A4803, c4804)])) 61 E_valiseref6_Node.sz, Dz D_valiseref6_Node (orB S0 B_row_0) w0.heap.size (blk A4803 (rowC (Eint .i64) l4805)) ([((IntKind.i64.wrap (((rdp ((0, []) : (Int × List Int)) l_row_0 i_4185).1) + ((rdp ((0, []) : (Int × List Int)) l_row_0 (IntKind.i64.wrap (i_4185 + 1))).1)), l4805), A4803, c4804)]) ([(IntKind.i64.wrap (((rdp ((0, []) : (Int × List Int)) l_row_0 i_4185).1) + ((rdp ((0, []) : (Int × List Int)) l_row_0 (IntKind.i64.wrap (i_4185 + 1))).1)), l4805)])] := HS4998.dzSub (i := 5) rfl dz_self (HS4998.dze (i := 5) rfl)
            obtain ⟨l5008, h5009, H⟩ := of_bnd H
            obtain ⟨g5010, H⟩ := of_gd H
            refine F_appD (D := D_valiseref6_Node) (ds := ds4182) (ds' := ([((IntKind.i64.wrap (((rdp ((0, []) : (Int × List Int)) l_row_0 i_4185).1) + ((rdp ((0, []) : (Int × List Int)) l_row_0 (IntKind.i64.wrap (i_4185 + 1))).1)), l4805), A4803, c4804)])) (xs := l4184) (ys := ([(IntKind.i64.wrap (((rdp ((0, []) : (Int × List Int)) l_row_0 i_4185).1) + ((rdp ((0, []) : (Int × List Int)) l_row_0 (IntKind.i64.wrap (i_4185 + 1))).1)), l4805)])) (i := 2) rfl rfl rfl rfl Try.underlying59 info61 rfl (by decide) (by decide) rfl rfl HS5005 rfl (HS5005.dze (i := 3) rfl) (HS5005.dze (i := 7) rfl) (HS5005.cells_own (i := 6) rfl) h5009 g5010 (fun w5006 A5011 c5012 HS5007 => ?_)
            have HS5007 : Hp S0 w0 w5006 [.rd A_row_0 (rowC E_valiseref6_Node ds_row_0), Dz D_valiseref6_Node (orB S0 B_row_0) w0.heap.size B_row_0 ds_row_0 l_row_0, .own A5011 c5012 (rowC E_valiseref6_Node (ds4182 ++ ([((IntKind.i64.wrap (((rdp ((0, []) : (Int × List Int)) l_row_0 i_4185).1) + ((rdp ((0, []) : (Int × List Int)) l_row_0 (IntKind.i64.wrap (i_4185 + 1))).1)), l4805), A4803, c4804)]))) 61 E_valiseref6_Node.sz, Dz D_valiseref6_Node (orB S0 B_row_0) w0.heap.size B4183 ds4182 l4184, .box g4221 ([.int .i64 (IntKind.i64.wrap (((rdp ((0, []) : (Int × List Int)) l_row_0 i_4185).1) + ((rdp ((0, []) : (Int × List Int)) l_row_0 (IntKind.i64.wrap (i_4185 + 1))).1))), .slice A4803 l4805.length c4804]) 61, Dz D_valiseref6_Node (orB S0 B_row_0) w0.heap.size (blk A4803 (rowC (Eint .i64) l4805)) ([((IntKind.i64.wrap (((rdp ((0, []) : (Int × List Int)) l_row_0 i_4185).1) + ((rdp ((0, []) : (Int × List Int)) l_row_0 (IntKind.i64.wrap (i_4185 + 1))).1)), l4805), A4803, c4804)]) ([(IntKind.i64.wrap (((rdp ((0, []) : (Int × List Int)) l_row_0 i_4185).1) + ((rdp ((0, []) : (Int × List Int)) l_row_0 (IntKind.i64.wrap (i_4185 + 1))).1)), l4805)]), .own A5001 c5002 (rowC E_valiseref6_Node ([((IntKind.i64.wrap (((rdp ((0, []) : (Int × List Int)) l_row_0 i_4185).1) + ((rdp ((0, []) : (Int × List Int)) l_row_0 (IntKind.i64.wrap (i_4185 + 1))).1)), l4805), A4803, c4804)])) 61 E_valiseref6_Node.sz, Dz D_valiseref6_Node (orB S0 B_row_0) w0.heap.size (blk A4803 (rowC (Eint .i64) l4805)) ([((IntKind.i64.wrap (((rdp ((0, []) : (Int × List Int)) l_row_0 i_4185).1) + ((rdp ((0, []) : (Int × List Int)) l_row_0 (IntKind.i64.wrap (i_4185 + 1))).1)), l4805), A4803, c4804)]) ([(IntKind.i64.wrap (((rdp ((0, []) : (Int × List Int)) l_row_0 i_4185).1) + ((rdp ((0, []) : (Int × List Int)) l_row_0 (IntKind.i64.wrap (i_4185 + 1))).1)), l4805)])] := HS5007
            have HS5013 : Hp S0 w0 w5006 [.rd A_row_0 (rowC E_valiseref6_Node ds_row_0), Dz D_valiseref6_Node (orB S0 B_row_0) w0.heap.size B_row_0 ds_row_0 l_row_0, .own A5011 c5012 (rowC E_valiseref6_Node (ds4182 ++ ([((IntKind.i64.wrap (((rdp ((0, []) : (Int × List Int)) l_row_0 i_4185).1) + ((rdp ((0, []) : (Int × List Int)) l_row_0 (IntKind.i64.wrap (i_4185 + 1))).1)), l4805), A4803, c4804)]))) 61 E_valiseref6_Node.sz, Dz D_valiseref6_Node (orB S0 B_row_0) w0.heap.size (orB B4183 (blk A4803 (rowC (Eint .i64) l4805))) (ds4182 ++ ([((IntKind.i64.wrap (((rdp ((0, []) : (Int × List Int)) l_row_0 i_4185).1) + ((rdp ((0, []) : (Int × List Int)) l_row_0 (IntKind.i64.wrap (i_4185 + 1))).1)), l4805), A4803, c4804)])) l5008, .box g4221 ([.int .i64 (IntKind.i64.wrap (((rdp ((0, []) : (Int × List Int)) l_row_0 i_4185).1) + ((rdp ((0, []) : (Int × List Int)) l_row_0 (IntKind.i64.wrap (i_4185 + 1))).1))), .slice A4803 l4805.length c4804]) 61, Dz D_valiseref6_Node (orB S0 B_row_0) w0.heap.size (blk A4803 (rowC (Eint .i64) l4805)) ([((IntKind.i64.wrap (((rdp ((0, []) : (Int × List Int)) l_row_0 i_4185).1) + ((rdp ((0, []) : (Int × List Int)) l_row_0 (IntKind.i64.wrap (i_4185 + 1))).1)), l4805), A4803, c4804)]) ([(IntKind.i64.wrap (((rdp ((0, []) : (Int × List Int)) l_row_0 i_4185).1) + ((rdp ((0, []) : (Int × List Int)) l_row_0 (IntKind.i64.wrap (i_4185 + 1))).1)), l4805)]), .own A5001 c5002 (rowC E_valiseref6_Node ([((IntKind.i64.wrap (((rdp ((0, []) : (Int × List Int)) l_row_0 i_4185).1) + ((rdp ((0, []) : (Int × List Int)) l_row_0 (IntKind.i64.wrap (i_4185 + 1))).1)), l4805), A4803, c4804)])) 61 E_valiseref6_Node.sz, Dz D_valiseref6_Node (orB S0 B_row_0) w0.heap.size (blk A4803 (rowC (Eint .i64) l4805)) ([((IntKind.i64.wrap (((rdp ((0, []) : (Int × List Int)) l_row_0 i_4185).1) + ((rdp ((0, []) : (Int × List Int)) l_row_0 (IntKind.i64.wrap (i_4185 + 1))).1)), l4805), A4803, c4804)]) ([(IntKind.i64.wrap (((rdp ((0, []) : (Int × List Int)) l_row_0 i_4185).1) + ((rdp ((0, []) : (Int × List Int)) l_row_0 (IntKind.i64.wrap (i_4185 + 1))).1)), l4805)])] := HS5007.dzApp (i := 3) (j := 7) rfl rfl h5009
            refine F_val rfl rfl rfl (O_assign rfl rfl) ?_
            refine F_nil ?_
            refine L_endB hN4189 ?_
            have HS5014 : Hp S0 w0 w5006 [.rd A_row_0 (rowC E_valiseref6_Node ds_row_0), Dz D_valiseref6_Node (orB S0 B_row_0) w0.heap.size B_row_0 ds_row_0 l_row_0, .own A5011 c5012 (rowC E_valiseref6_Node (ds4182 ++ ([((IntKind.i64.wrap (((rdp ((0, []) : (Int × List Int)) l_row_0 i_4185).1) + ((rdp ((0, []) : (Int × List Int)) l_row_0 (IntKind.i64.wrap (i_4185 + 1))).1)), l4805), A4803, c4804)]))) 61 E_valiseref6_Node.sz, Dz D_valiseref6_Node (orB S0 B_row_0) w0.heap.size (orB B4183 (blk A4803 (rowC (Eint .i64) l4805))) (ds4182 ++ ([((IntKind.i64.wrap (((rdp ((0, []) : (Int × List Int)) l_row_0 i_4185).1) + ((rdp ((0, []) : (Int × List Int)) l_row_0 (IntKind.i64.wrap (i_4185 + 1))).1)), l4805), A4803, c4804)])) l5008] := HS5013.sel [0, 1, 2, 3] rfl
            refine L_region ?_
            refine F_val rfl rfl rfl (O_move rfl rfl) ?_
            refine F_val rfl rfl rfl (O_add rfl rfl rfl) ?_
            obtain ⟨x5015, h5016, H⟩ := of_bnd H
            refine F_val rfl rfl rfl (O_assign' rfl rfl (congrArg (Value.int .i64) h5016)) ?_
            refine F_nil ?_
            refine L_nil (fun a ha => hNp4179 _ a _ (Nat.lt_succ_self _) ⟨_, _, _, _, _, _, Is.cons ha (Is.cons ha (Is.cons ha (Is.nil ha) rfl) rfl) rfl, HS5014.sel [0, 1, 2, 3] rfl, H⟩)
      · have H := of_neg H c4188
        refine L_exitB (fun a w h => hOp4179 (.exit 0) a w rfl (hXb2514 a w h)) ?_
        refine L_nil (fun a ha => hNj5 a _ ⟨_, _, _, _, _, (Option.some.inj H).symm, Is.cons ha (Is.nil ha) rfl, HS4187.sel [0, 1, 2, 3] rfl⟩)
  · obtain ⟨l2513, A2509, c2510, ds2511, B2512, ej, ha, HS5018⟩ := hR
    obtain rfl := ej.symm
    refine wpLF_app ?_ ha
    refine L_seq ?_
    refine L_region ?_
    refine F_val rfl rfl rfl (O_move rfl rfl) ?_
    refine F_val rfl rfl rfl (O_assign rfl rfl) ?_
    refine F_nil ?_
    refine L_ret (fun a ha => (post_ret1 ha rfl rfl ?_))
    obtain rfl := Option.some.inj H
    exact ⟨_, _, _, _, rfl, HS5018.sel [2, 3] rfl⟩

end Go.Proofs.Ytbegkkmngkpjmaa
