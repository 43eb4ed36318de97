/- PROVED: BlockCounts: whatever its arguments, the law returns true and leaves them as they were. No condition. -/
import Derived.Test.YtpkgngaohnblkaaDoorCards
import Derived.Test.YtpkgngaohnblkaaDoorTie
import Derived.Test.YtpkgngaohnblkaaDoorRows
import Derived.Test.YtpkgngaohnblkaaDoorGBlockCountsWalk
import Derived.Test.YtpkgngaohnblkaaDoorGBlockCountsTrue
import Derived.Test.YtpkgngaohnblkaaDoorV10
set_option linter.unusedVariables false
set_option linter.unusedSimpArgs false
namespace Go.Proofs.YtpkgngaohnblkaaDoor.blockCounts
open Go Go.V Go.V.Pu Go.ChangeShapes Go.WideShapes Go.ChangeAt Go.RowKit
theorem own : ownKnob Tryd.prog.godebug = none := by kernel_rfl
theorem laidOut : laidOutB Tryd.prog = true := by kernel_rfl
set_option maxRecDepth 100000 in
theorem dec_E_api_Token {H : Type} {enc : TypeId × Value → H} {W : World} {spare : Nat → Bool} {held : Bool} : ∀ n cs y, DataW.trod enc Tryd.prog W 0 spare held n 50 cs = some y → ∃ x, cs = E_api_Token.enc x ∧ (Lit.int .i64 x.1).wf = true ∧ (Lit.int .i64 x.2.1).wf = true ∧ (Lit.int .u8 x.2.2).wf = true := by
  intro n cs y h
  obtain ⟨xs, m, rfl, _, hlen, hxs, hf⟩ := DataW.trod_struct Tryd.underlying50 h
  have hl : cs.length = 3 := hlen.trans (by kernel_rfl)
  have z3 : Tryd.prog.cellsOf 3 = 1 := by kernel_rfl
  have z5 : Tryd.prog.cellsOf 5 = 1 := by kernel_rfl
  match cs, hl, hf with
  | [c0, c1, c2], _, hf =>
    have f0 := hf 0 _ rfl
    rw [List.getElem?_eq_getElem (by rw [hxs]; decide)] at f0
    obtain ⟨x0, e0, _, w0⟩ := DataW.trod_int Tryd.underlying3 f0
    simp [z3] at e0
    have f1 := hf 1 _ rfl
    rw [List.getElem?_eq_getElem (by rw [hxs]; decide)] at f1
    obtain ⟨x1, e1, _, w1⟩ := DataW.trod_int Tryd.underlying3 f1
    simp [z3] at e1
    have f2 := hf 2 _ rfl
    rw [List.getElem?_eq_getElem (by rw [hxs]; decide)] at f2
    obtain ⟨x2, e2, _, w2⟩ := DataW.trod_int Tryd.underlying5 f2
    simp [z5] at e2
    subst e0 e1 e2
    exact ⟨(x0, x1, x2), rfl, w0, w1, w2⟩
theorem gTab2 : Tryd.prog.globalNamed "valise/block.lengthBase" = some 2 := by kernel_rfl
theorem gType2 : (Tryd.prog.globals[2]?).map (·.type) = some 83 := by kernel_rfl
theorem cellsT2 : Tryd.prog.cellsOf 83 = 29 := by kernel_rfl
theorem cellsE2 : Tryd.prog.cellsOf 3 = 1 := by kernel_rfl
theorem gTab3 : Tryd.prog.globalNamed "valise/block.lengthBits" = some 3 := by kernel_rfl
theorem gType3 : (Tryd.prog.globals[3]?).map (·.type) = some 83 := by kernel_rfl
theorem cellsT3 : Tryd.prog.cellsOf 83 = 29 := by kernel_rfl
theorem cellsE3 : Tryd.prog.cellsOf 3 = 1 := by kernel_rfl
theorem gTab1 : Tryd.prog.globalNamed "valise/block.distBase" = some 1 := by kernel_rfl
theorem gType1 : (Tryd.prog.globals[1]?).map (·.type) = some 81 := by kernel_rfl
theorem cellsT1 : Tryd.prog.cellsOf 81 = 30 := by kernel_rfl
theorem cellsE1 : Tryd.prog.cellsOf 3 = 1 := by kernel_rfl
theorem gTab0 : Tryd.prog.globalNamed "valise/block.distBits" = some 0 := by kernel_rfl
theorem gType0 : (Tryd.prog.globals[0]?).map (·.type) = some 81 := by kernel_rfl
theorem cellsT0 : Tryd.prog.cellsOf 81 = 30 := by kernel_rfl
theorem cellsE0 : Tryd.prog.cellsOf 3 = 1 := by kernel_rfl
noncomputable def laidWorld (os : Os) : World :=
  { World.holding Tryd.prog os ⟨#[], #[], []⟩ with heap := (((((World.holding Tryd.prog os ⟨#[], #[], []⟩).heap.modify 2 fun | .cells _ t frozen => .cells #[.int .i64 3, .int .i64 4, .int .i64 5, .int .i64 6, .int .i64 7, .int .i64 8, .int .i64 9, .int .i64 10, .int .i64 11, .int .i64 13, .int .i64 15, .int .i64 17, .int .i64 19, .int .i64 23, .int .i64 27, .int .i64 31, .int .i64 35, .int .i64 43, .int .i64 51, .int .i64 59, .int .i64 67, .int .i64 83, .int .i64 99, .int .i64 115, .int .i64 131, .int .i64 163, .int .i64 195, .int .i64 227, .int .i64 258] t frozen | o => o).modify 3 fun | .cells _ t frozen => .cells #[.int .i64 0, .int .i64 0, .int .i64 0, .int .i64 0, .int .i64 0, .int .i64 0, .int .i64 0, .int .i64 0, .int .i64 1, .int .i64 1, .int .i64 1, .int .i64 1, .int .i64 2, .int .i64 2, .int .i64 2, .int .i64 2, .int .i64 3, .int .i64 3, .int .i64 3, .int .i64 3, .int .i64 4, .int .i64 4, .int .i64 4, .int .i64 4, .int .i64 5, .int .i64 5, .int .i64 5, .int .i64 5, .int .i64 0] t frozen | o => o).modify 1 fun | .cells _ t frozen => .cells #[.int .i64 1, .int .i64 2, .int .i64 3, .int .i64 4, .int .i64 5, .int .i64 7, .int .i64 9, .int .i64 13, .int .i64 17, .int .i64 25, .int .i64 33, .int .i64 49, .int .i64 65, .int .i64 97, .int .i64 129, .int .i64 193, .int .i64 257, .int .i64 385, .int .i64 513, .int .i64 769, .int .i64 1025, .int .i64 1537, .int .i64 2049, .int .i64 3073, .int .i64 4097, .int .i64 6145, .int .i64 8193, .int .i64 12289, .int .i64 16385, .int .i64 24577] t frozen | o => o).modify 0 fun | .cells _ t frozen => .cells #[.int .i64 0, .int .i64 0, .int .i64 0, .int .i64 0, .int .i64 1, .int .i64 1, .int .i64 2, .int .i64 2, .int .i64 3, .int .i64 3, .int .i64 4, .int .i64 4, .int .i64 5, .int .i64 5, .int .i64 6, .int .i64 6, .int .i64 7, .int .i64 7, .int .i64 8, .int .i64 8, .int .i64 9, .int .i64 9, .int .i64 10, .int .i64 10, .int .i64 11, .int .i64 11, .int .i64 12, .int .i64 12, .int .i64 13, .int .i64 13] t frozen | o => o) }
theorem laid_met (os : Os) : laidMet Tryd.prog Rows.blockCountsRow.laid ((laidWorld os).forCall (fun _ _ => 0) ⟨#[], #[.slice none 0 0], []⟩).memory :=
  laidMet_of_run' 8 (by kernel_rfl) (by kernel_rfl)
set_option maxRecDepth 100000 in
theorem reads (os : Os) {H : Type} (enc : TypeId × Value → H) : ∃ places, DataW.whole enc Tryd.prog ((laidWorld os).forCall (fun _ _ => 0) ⟨#[], #[.slice none 0 0], []⟩).memory Tryd.f8.params.toList Rows.blockCountsSpec.vars false #[Value.slice none 0 0].toList 8 = some ([.nil], [], places) :=
  ⟨[], by kernel_rfl⟩
set_option maxRecDepth 100000 in
theorem contract (H : Type) (enc : TypeId × Value → H) (W : World) (base : Nat) (args : Array Value) (ds gs : List (DataW H)) (before : List MemPlace)
    (hval0 : ∀ (j : Nat) t v, Tryd.f8.params[j]? = some t → args[j]? = some v → Value.okWide Tryd.prog W .any base t v)
    (hW : DataW.Whole enc Tryd.prog Tryd.f8.params.toList Rows.blockCountsSpec.vars false W args.toList ds gs before) (hsz0 : (DataW.weightsEach Tryd.prog (Tryd.f8.params.toList ++ (OpenSpec.ofChange Rows.blockCountsSpec).bare.plain.varTypes Tryd.prog) (ds ++ gs)).all (· ≤ reachBytes) = true) (hL : laidMetH Tryd.prog Rows.blockCountsRow.laid W) :
    Calls Tryd.prog 8 args W fun e W' => ∃ v, e = .returned v ∧ Rows.blockCountsSpec.post enc Tryd.prog Tryd.f8 false true false false W args v W' := by
  have hsz : (DataW.weightsEach Tryd.prog (Tryd.f8.params.toList ++ Rows.blockCountsSpec.plain.varTypes Tryd.prog) (ds ++ gs)).all (· ≤ reachBytes) = true := hsz0
  have hL0 : laidMet Tryd.prog Rows.blockCountsRow.laid W := hL
  have tab2 := open_tab (zs := T_block_lengthBase) (Lib.tabIs_of_head gTab2 gType2 Tryd.underlying83 Tryd.underlying3 cellsE2 cellsT2 hL0) gTab2 (by decide)
  have hL1 := laid_tail hL0
  have tab3 := open_tab (zs := T_block_lengthBits) (Lib.tabIs_of_head gTab3 gType3 Tryd.underlying83 Tryd.underlying3 cellsE3 cellsT3 hL1) gTab3 (by decide)
  have hL2 := laid_tail hL1
  have tab1 := open_tab (zs := T_block_distBase) (Lib.tabIs_of_head gTab1 gType1 Tryd.underlying81 Tryd.underlying3 cellsE1 cellsT1 hL2) gTab1 (by decide)
  have hL3 := laid_tail hL2
  have tab0 := open_tab (zs := T_block_distBits) (Lib.tabIs_of_head gTab0 gType0 Tryd.underlying81 Tryd.underlying3 cellsE0 cellsT0 hL3) gTab0 (by decide)
  have hval : ∀ (j : Nat) t v, Tryd.f8.params[j]? = some t → args[j]? = some v → Value.okWide Tryd.prog W .any base t v := hval0
  have hW' := hW
  obtain ⟨p, q, hA0, hV, rfl, hfz, hnd⟩ := hW
  have hA : DataW.TrodAll enc Tryd.prog W 0 (fun _ => true) true Tryd.f8.params.toList args.toList ds p := hA0
  rw [Tryd.params8] at hA hval hsz
  obtain ⟨v0, vs0, d0, ds0, p0, q0, hargs, rfl, rfl, h0, r0⟩ := trodAll_cons hA
  obtain ⟨rfl, rfl, rfl⟩ := trodAll_nil r0
  obtain rfl : args = #[v0] := by cases args; simp_all
  obtain ⟨rfl, rfl⟩ := trodVars_none hV
  have k0 := h0
  have lt0 := trod_lt h0
  obtain ⟨A0, c0, l0, rfl, lc0, lm0, wf0, wt0, rd0⟩ := open_row E_api_Token (j := 0) (t := 35) Tryd.underlying35 (by kernel_rfl) (by decide) (show Tryd.prog.bytesOf 50 = 24 by kernel_rfl) (dec_E_api_Token) (hval 0 35 v0 rfl rfl) h0 hsz rfl rfl
  clear hA0 hval0 hsz0 hsz
  refine (valiselaw10_BlockCounts.calls ((Rds.cons rd0 (Rds.cons tab0 (Rds.cons tab1 (Rds.cons tab2 (Rds.cons tab3 Rds.nil))))).start) lc0 (Pu.valiselaw10_BlockCounts_true l0 wf0 wt0)).mono fun e W' h => ?_
  obtain ⟨rfl, HE⟩ := h
  have bel := HE.chg.below
  exact ⟨_, rfl, _, _, _, [], _, [], hW', trodAll_mk1 (shut_bool Tryd.underlying4 _), (trodAll_cons_mk (Below.trod laidOut (by kernel_rfl) (of_decide_eq_true (by kernel_rfl)) k0 bel lt0) trodAll_mk0), rfl, bel.frame _, fun h => by cases h⟩
set_option maxRecDepth 100000 in
theorem lifted (os : Os) (started : os.Started) (H : Type) (enc : TypeId × Value → H) (F : Stop.Interp) :
    ReturnsInHanded {} Tryd.checked os 8 .any ((OpenSpec.ofChange Rows.blockCountsSpec).preRow enc Tryd.prog Tryd.f8 Rows.blockCountsRow.domain false Rows.blockCountsRow.laid) (((OpenSpec.ofChange Rows.blockCountsSpec).at F).post enc Tryd.prog Tryd.f8 false true false false) := by
  obtain ⟨places, hx⟩ := reads os enc
  refine returnsInHanded_of_row (C := Tryd.checked) (s := (OpenSpec.ofChange Rows.blockCountsSpec)) own started (by kernel_rfl) Tryd.func8
    (witness_row_at (enc := enc) (C := Tryd.checked) false (laidWorld os) #[.slice none 0 0] rfl (by kernel_rfl) (by kernel_rfl) (by kernel_rfl)
      (OpenSpec.preRow_of_cond 8 hx (by kernel_rfl) (fun k hk => by cases hk) (by kernel_rfl) (laid_met os))) ?_
  intro W base args ds gs before hval hW _ hcond hsz hL _ _
  exact contract H enc W base args ds gs before hval hW hsz hL
theorem over : Rows.BlockCountsSaid :=
  OpenClaim.holds_of_cond 8 Tryd.f8 rfl rfl rfl rfl rfl rfl rfl ⟨rfl, rfl, rfl, rfl, rfl⟩ rfl rfl rfl rfl rfl (by kernel_rfl) Tryd.func8 (by kernel_rfl)
    (of_decide_eq_true (by kernel_rfl)) (by unfold Func.isWrapper; first | (rw [if_pos (by decide +kernel)]; kernel_rfl) | (rw [if_neg (by decide +kernel)]; exact ⟨rfl, rfl⟩))
    (fun os started H enc _ F => by rw [OpenClaim.pre_eq_preRow]; exact lifted os started H enc F)
theorem plain (f : FuncId) (fn : Func) (hf : Tryd.pinned.checked.prog.funcNamed "valise/valiselaw10.BlockCounts" = some f) (hfn : Tryd.pinned.checked.prog.funcs[f]? = some fn) :
    true = Tryd.pinned.checked.prog.looks [] ∧ ∀ (j : Nat) t, fn.params[j]? = some t → Tryd.pinned.checked.prog.wantsStandIn t = false := by
  obtain rfl : f = 8 := Option.some.inj ((show Tryd.prog.funcNamed "valise/valiselaw10.BlockCounts" = some 8 by kernel_rfl).symm.trans hf) |>.symm
  obtain rfl : fn = Tryd.f8 := (Option.some.inj (Tryd.func8.symm.trans hfn)).symm
  refine ⟨by kernel_rfl, fun j t ht => ?_⟩
  rw [Tryd.params8] at ht
  have hm := Array.mem_of_getElem? ht
  simp only [List.mem_toArray, List.mem_cons, List.not_mem_nil, or_false] at hm
  rcases hm with rfl <;> first | exact (show Tryd.prog.wantsStandIn 35 = false by kernel_rfl)
theorem card : Rows.BlockCountsCardSaid :=
  Claim7.holds_tied_plain_at .later [] _ _ _ _ over (fun _ h => by cases h) (by kernel_rfl) (fun _ h => by cases h) blockCounts_row_tie rfl ⟨rfl, rfl⟩ (by kernel_rfl) rfl plain (by kernel_rfl)
end Go.Proofs.YtpkgngaohnblkaaDoor.blockCounts
namespace Go.Proofs.YtpkgngaohnblkaaDoor
theorem blockCounts_holds : Rows.BlockCountsCardSaid := blockCounts.card
#print axioms blockCounts_holds
end Go.Proofs.YtpkgngaohnblkaaDoor
