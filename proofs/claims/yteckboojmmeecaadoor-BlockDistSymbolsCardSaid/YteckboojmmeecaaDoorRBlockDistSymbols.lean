/- PROVED: BlockDistSymbols: whatever its arguments, the law returns true and leaves them as they were. No condition. -/
import Derived.Test.YteckboojmmeecaaDoorCards
import Derived.Test.YteckboojmmeecaaDoorTie
import Derived.Test.YteckboojmmeecaaDoorRows
import Derived.Test.YteckboojmmeecaaDoorGBlockDistSymbolsWalk
import Derived.Test.YteckboojmmeecaaDoorGBlockDistSymbolsTrue
import Derived.Test.YteckboojmmeecaaDoorV10
set_option linter.unusedVariables false
set_option linter.unusedSimpArgs false
namespace Go.Proofs.YteckboojmmeecaaDoor.blockDistSymbols
open Go Go.V Go.V.Pu Go.ChangeShapes Go.WideShapes Go.ChangeAt Go.RowKit
theorem own : ownKnob Tryd.prog.godebug = none := by kernel_rfl
theorem laidOut : laidOutB Tryd.prog = true := by kernel_rfl
theorem gTab1 : Tryd.prog.globalNamed "valise/block.distBase" = some 1 := by kernel_rfl
theorem gType1 : (Tryd.prog.globals[1]?).map (·.type) = some 47 := by kernel_rfl
theorem cellsT1 : Tryd.prog.cellsOf 47 = 30 := by kernel_rfl
theorem cellsE1 : Tryd.prog.cellsOf 3 = 1 := by kernel_rfl
theorem gTab0 : Tryd.prog.globalNamed "valise/block.distBits" = some 0 := by kernel_rfl
theorem gType0 : (Tryd.prog.globals[0]?).map (·.type) = some 47 := by kernel_rfl
theorem cellsT0 : Tryd.prog.cellsOf 47 = 30 := by kernel_rfl
theorem cellsE0 : Tryd.prog.cellsOf 3 = 1 := by kernel_rfl
noncomputable def laidWorld (os : Os) : World :=
  { World.holding Tryd.prog os ⟨#[], #[], []⟩ with heap := (((World.holding Tryd.prog os ⟨#[], #[], []⟩).heap.modify 1 fun | .cells _ t frozen => .cells #[.int .i64 1, .int .i64 2, .int .i64 3, .int .i64 4, .int .i64 5, .int .i64 7, .int .i64 9, .int .i64 13, .int .i64 17, .int .i64 25, .int .i64 33, .int .i64 49, .int .i64 65, .int .i64 97, .int .i64 129, .int .i64 193, .int .i64 257, .int .i64 385, .int .i64 513, .int .i64 769, .int .i64 1025, .int .i64 1537, .int .i64 2049, .int .i64 3073, .int .i64 4097, .int .i64 6145, .int .i64 8193, .int .i64 12289, .int .i64 16385, .int .i64 24577] t frozen | o => o).modify 0 fun | .cells _ t frozen => .cells #[.int .i64 0, .int .i64 0, .int .i64 0, .int .i64 0, .int .i64 1, .int .i64 1, .int .i64 2, .int .i64 2, .int .i64 3, .int .i64 3, .int .i64 4, .int .i64 4, .int .i64 5, .int .i64 5, .int .i64 6, .int .i64 6, .int .i64 7, .int .i64 7, .int .i64 8, .int .i64 8, .int .i64 9, .int .i64 9, .int .i64 10, .int .i64 10, .int .i64 11, .int .i64 11, .int .i64 12, .int .i64 12, .int .i64 13, .int .i64 13] t frozen | o => o) }
theorem laid_met (os : Os) : laidMet Tryd.prog Rows.blockDistSymbolsRow.laid ((laidWorld os).forCall (fun _ _ => 0) ⟨#[], #[.int .i64 0], []⟩).memory :=
  laidMet_of_run' 8 (by kernel_rfl) (by kernel_rfl)
set_option maxRecDepth 100000 in
theorem reads (os : Os) {H : Type} (enc : TypeId × Value → H) : ∃ places, DataW.whole enc Tryd.prog ((laidWorld os).forCall (fun _ _ => 0) ⟨#[], #[.int .i64 0], []⟩).memory Tryd.f5.params.toList Rows.blockDistSymbolsSpec.vars false #[Value.int .i64 0].toList 8 = some ([.lit (.int .i64 0)], [], places) :=
  ⟨[], by kernel_rfl⟩
set_option maxRecDepth 100000 in
theorem contract (H : Type) (enc : TypeId × Value → H) (W : World) (base : Nat) (args : Array Value) (ds gs : List (DataW H)) (before : List MemPlace)
    (hval0 : ∀ (j : Nat) t v, Tryd.f5.params[j]? = some t → args[j]? = some v → Value.okWide Tryd.prog W .any base t v)
    (hW : DataW.Whole enc Tryd.prog Tryd.f5.params.toList Rows.blockDistSymbolsSpec.vars false W args.toList ds gs before) (hsz0 : (DataW.weightsEach Tryd.prog (Tryd.f5.params.toList ++ (OpenSpec.ofChange Rows.blockDistSymbolsSpec).bare.plain.varTypes Tryd.prog) (ds ++ gs)).all (· ≤ reachBytes) = true) (hL : laidMetH Tryd.prog Rows.blockDistSymbolsRow.laid W) :
    Calls Tryd.prog 5 args W fun e W' => ∃ v, e = .returned v ∧ Rows.blockDistSymbolsSpec.post enc Tryd.prog Tryd.f5 false true false false W args v W' := by
  have hsz : (DataW.weightsEach Tryd.prog (Tryd.f5.params.toList ++ Rows.blockDistSymbolsSpec.plain.varTypes Tryd.prog) (ds ++ gs)).all (· ≤ reachBytes) = true := hsz0
  have hL0 : laidMet Tryd.prog Rows.blockDistSymbolsRow.laid W := hL
  have tab1 := open_tab (zs := T_block_distBase) (Lib.tabIs_of_head gTab1 gType1 Tryd.underlying47 Tryd.underlying3 cellsE1 cellsT1 hL0) gTab1 (by decide)
  have hL1 := laid_tail hL0
  have tab0 := open_tab (zs := T_block_distBits) (Lib.tabIs_of_head gTab0 gType0 Tryd.underlying47 Tryd.underlying3 cellsE0 cellsT0 hL1) gTab0 (by decide)
  have hval : ∀ (j : Nat) t v, Tryd.f5.params[j]? = some t → args[j]? = some v → Value.okWide Tryd.prog W .any base t v := hval0
  have hW' := hW
  obtain ⟨p, q, hA0, hV, rfl, hfz, hnd⟩ := hW
  have hA : DataW.TrodAll enc Tryd.prog W 0 (fun _ => true) true Tryd.f5.params.toList args.toList ds p := hA0
  rw [Tryd.params5] at hA hval hsz
  obtain ⟨v0, vs0, d0, ds0, p0, q0, hargs, rfl, rfl, h0, r0⟩ := trodAll_cons hA
  obtain ⟨rfl, rfl, rfl⟩ := trodAll_nil r0
  obtain rfl : args = #[v0] := by cases args; simp_all
  obtain ⟨rfl, rfl⟩ := trodVars_none hV
  obtain ⟨a0, rfl, rfl, rfl, w0⟩ := open_int Tryd.underlying3 (hval 0 3 v0 rfl rfl) h0
  clear hA0 hval0 hsz0 hsz
  refine (valiselaw10_BlockDistSymbols.calls ((Rds.cons tab0 (Rds.cons tab1 Rds.nil)).start) (Pu.valiselaw10_BlockDistSymbols_true a0 w0)).mono fun e W' h => ?_
  obtain ⟨rfl, HE⟩ := h
  have bel := HE.chg.below
  exact ⟨_, rfl, _, _, _, [], _, [], hW', trodAll_mk1 (shut_bool Tryd.underlying4 _), (trodAll_cons_mk (shut_int Tryd.underlying3 w0) trodAll_mk0), rfl, bel.frame _, fun h => by cases h⟩
set_option maxRecDepth 100000 in
theorem lifted (os : Os) (started : os.Started) (H : Type) (enc : TypeId × Value → H) (F : Stop.Interp) :
    ReturnsInHanded {} Tryd.checked os 5 .any ((OpenSpec.ofChange Rows.blockDistSymbolsSpec).preRow enc Tryd.prog Tryd.f5 Rows.blockDistSymbolsRow.domain false Rows.blockDistSymbolsRow.laid) (((OpenSpec.ofChange Rows.blockDistSymbolsSpec).at F).post enc Tryd.prog Tryd.f5 false true false false) := by
  obtain ⟨places, hx⟩ := reads os enc
  refine returnsInHanded_of_row (C := Tryd.checked) (s := OpenSpec.ofChange Rows.blockDistSymbolsSpec) own started (by kernel_rfl) Tryd.func5
    (witness_row_at (enc := enc) (C := Tryd.checked) false (laidWorld os) #[.int .i64 0] rfl (by kernel_rfl) (by kernel_rfl) (by kernel_rfl)
      (OpenSpec.preRow_of_cond 8 hx (by kernel_rfl) (fun k hk => by cases hk) (by kernel_rfl) (laid_met os))) ?_
  intro W base args ds gs before hval hW _ _ hsz hL _ _
  exact contract H enc W base args ds gs before hval hW hsz hL
theorem over : Rows.BlockDistSymbolsSaid :=
  OpenClaim.holds_of_cond 5 Tryd.f5 rfl rfl rfl rfl rfl rfl rfl ⟨rfl, rfl, rfl, rfl, rfl⟩ rfl rfl rfl rfl rfl (by kernel_rfl) Tryd.func5 (by kernel_rfl)
    (of_decide_eq_true (by kernel_rfl)) (by unfold Func.isWrapper; first | (rw [if_pos (by decide +kernel)]; kernel_rfl) | (rw [if_neg (by decide +kernel)]; exact ⟨rfl, rfl⟩))
    (fun os started H enc _ F => by rw [OpenClaim.pre_eq_preRow]; exact lifted os started H enc F)
theorem plain (f : FuncId) (fn : Func) (hf : Tryd.pinned.checked.prog.funcNamed "valise/valiselaw10.BlockDistSymbols" = some f) (hfn : Tryd.pinned.checked.prog.funcs[f]? = some fn) :
    false = Tryd.pinned.checked.prog.looks [] ∧ ∀ (j : Nat) t, fn.params[j]? = some t → Tryd.pinned.checked.prog.wantsStandIn t = false := by
  obtain rfl : f = 5 := Option.some.inj ((show Tryd.prog.funcNamed "valise/valiselaw10.BlockDistSymbols" = some 5 by kernel_rfl).symm.trans hf) |>.symm
  obtain rfl : fn = Tryd.f5 := (Option.some.inj (Tryd.func5.symm.trans hfn)).symm
  refine ⟨by kernel_rfl, fun j t ht => ?_⟩
  rw [Tryd.params5] at ht
  have hm := Array.mem_of_getElem? ht
  simp only [List.mem_toArray, List.mem_cons, List.not_mem_nil, or_false] at hm
  rcases hm with rfl <;> first | exact (show Tryd.prog.wantsStandIn 3 = false by kernel_rfl)
theorem card : Rows.BlockDistSymbolsCardSaid :=
  Claim7.holds_tied_plain_at .later [] _ _ _ _ over (fun _ h => by cases h) (by kernel_rfl) (fun _ h => by cases h) blockDistSymbols_row_tie rfl ⟨rfl, rfl⟩ (by kernel_rfl) rfl plain (by kernel_rfl)
end Go.Proofs.YteckboojmmeecaaDoor.blockDistSymbols
namespace Go.Proofs.YteckboojmmeecaaDoor
theorem blockDistSymbols_holds : Rows.BlockDistSymbolsCardSaid := blockDistSymbols.card
#print axioms blockDistSymbols_holds
end Go.Proofs.YteckboojmmeecaaDoor
