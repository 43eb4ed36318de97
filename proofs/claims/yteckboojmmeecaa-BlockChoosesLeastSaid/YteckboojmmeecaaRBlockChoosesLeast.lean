/- PROVED: BlockChoosesLeast: whatever its arguments, the law returns true and leaves them as they were. No condition. -/
import Derived.Test.YteckboojmmeecaaRows
import Derived.Test.YteckboojmmeecaaGBlockChoosesLeastWalk
import Derived.Test.YteckboojmmeecaaGBlockChoosesLeastTrue
import Derived.Test.YteckboojmmeecaaV10
set_option linter.unusedVariables false
set_option linter.unusedSimpArgs false
namespace Go.Proofs.Yteckboojmmeecaa.blockChoosesLeast
open Go Go.V Go.V.Pu Go.ChangeShapes Go.WideShapes Go.ChangeAt Go.RowKit
theorem own : ownKnob Try.prog.godebug = none := by kernel_rfl
theorem laidOut : laidOutB Try.prog = true := by kernel_rfl
def E_api_Sizes : El (Int × Int × Int) := ⟨fun x => [.int .i64 x.1, .int .i64 x.2.1, .int .i64 x.2.2], 3, fun _ => rfl, (0, 0, 0), fun x v h => by
  simp only [List.mem_cons, List.not_mem_nil, or_false] at h
  rcases h with rfl | rfl | rfl <;> rfl⟩
theorem dec_E_api_Sizes {H : Type} {enc : TypeId × Value → H} {W : World} {spare : Nat → Bool} {held : Bool} : ∀ n cs y, DataW.trod enc Try.prog W 0 spare held n 23 cs = some y → ∃ x, cs = E_api_Sizes.enc x ∧ (Lit.int .i64 x.1).wf = true ∧ (Lit.int .i64 x.2.1).wf = true ∧ (Lit.int .i64 x.2.2).wf = true := by
  intro n cs y h
  obtain ⟨xs, m, rfl, _, hlen, hxs, hf⟩ := DataW.trod_struct Try.underlying23 h
  have hl : cs.length = 3 := hlen.trans (by kernel_rfl)
  have z3 : Try.prog.cellsOf 3 = 1 := by kernel_rfl
  match cs, hl, hf with
  | [c0, c1, c2], _, hf =>
    have f0 := hf 0 _ rfl
    rw [List.getElem?_eq_getElem (by rw [hxs]; decide)] at f0
    obtain ⟨x0, e0, _, w0⟩ := DataW.trod_int Try.underlying3 f0
    simp [z3] at e0
    have f1 := hf 1 _ rfl
    rw [List.getElem?_eq_getElem (by rw [hxs]; decide)] at f1
    obtain ⟨x1, e1, _, w1⟩ := DataW.trod_int Try.underlying3 f1
    simp [z3] at e1
    have f2 := hf 2 _ rfl
    rw [List.getElem?_eq_getElem (by rw [hxs]; decide)] at f2
    obtain ⟨x2, e2, _, w2⟩ := DataW.trod_int Try.underlying3 f2
    simp [z3] at e2
    subst e0 e1 e2
    exact ⟨(x0, x1, x2), rfl, w0, w1, w2⟩
set_option maxRecDepth 100000 in
theorem lifted (os : Os) (started : os.Started) (H : Type) (enc : TypeId × Value → H) :
    ReturnsInHanded {} Try.checked os 3 .any (Rows.blockChoosesLeastSpec.pre6 enc Try.prog Try.f3 Rows.blockChoosesLeastRow.domain false) (Rows.blockChoosesLeastSpec.post enc Try.prog Try.f3 false true false false) := by
  refine returnsInHanded_of_change_sized (C := Try.checked) own started (by kernel_rfl) Try.func3
    (ChangeSpec.witness6 (enc := enc) (C := Try.checked) false ⟨#[], #[.agg #[.int .i64 0, .int .i64 0, .int .i64 0]], []⟩ 8 (by kernel_rfl) (by kernel_rfl) (by kernel_rfl) (by kernel_rfl)) ?_
  intro W base args ds gs before hval0 hW hcnd hsz0 _
  have hsz : (DataW.weightsEach Try.prog (Try.f3.params.toList ++ Rows.blockChoosesLeastSpec.plain.varTypes Try.prog) (ds ++ gs)).all (· ≤ reachBytes) = true := hsz0
  have hval : ∀ (j : Nat) t v, Try.f3.params[j]? = some t → args[j]? = some v → Value.okWide Try.prog W .any base t v := hval0
  have hW' := hW
  obtain ⟨p, q, hA0, hV, rfl, hfz, hnd⟩ := hW
  have hA : DataW.TrodAll enc Try.prog W 0 (fun _ => true) true Try.f3.params.toList args.toList ds p := hA0
  rw [Try.params3] at hA hval hsz
  obtain ⟨v0, vs0, d0, ds0, p0, q0, hargs, rfl, rfl, h0, r0⟩ := trodAll_cons hA
  obtain ⟨rfl, rfl, rfl⟩ := trodAll_nil r0
  obtain rfl : args = #[v0] := by cases args; simp_all
  obtain ⟨rfl, rfl⟩ := trodVars_none hV
  have k0 := h0
  have lt0 := trod_lt h0
  obtain ⟨cs0, rfl, _⟩ := okWide_struct Try.underlying23 (hval 0 23 v0 rfl rfl)
  obtain ⟨⟨s0_0, s0_1, s0_2⟩, ec0, w0⟩ := dec_arg dec_E_api_Sizes h0
  subst ec0
  clear hA0 hval0 hsz0 hsz
  refine (valiselaw10_BlockChoosesLeast.calls (Hp.start0) (Pu.valiselaw10_BlockChoosesLeast_true s0_0 s0_1 s0_2 w0)).mono fun e W' h => ?_
  obtain ⟨rfl, HE⟩ := h
  have bel := HE.chg.below
  exact ⟨_, rfl, _, _, _, [], _, [], hW', trodAll_mk1 (shut_bool Try.underlying4 _), (trodAll_cons_mk (Below.trod laidOut (by kernel_rfl) (of_decide_eq_true (by kernel_rfl)) k0 bel lt0) trodAll_mk0), rfl, bel.frame _, fun h => by cases h⟩
theorem over : Rows.blockChoosesLeastRow.holds Try.pinned (OpenSpec.ofChange Rows.blockChoosesLeastSpec) :=
  OpenClaim.holds_of_wide 3 Try.f3 rfl rfl rfl rfl rfl rfl rfl ⟨rfl, rfl, rfl, rfl, rfl⟩ rfl rfl rfl rfl rfl (by kernel_rfl) Try.func3 (by kernel_rfl)
    (of_decide_eq_true (by kernel_rfl)) (by unfold Func.isWrapper; first | (rw [if_pos (by decide +kernel)]; kernel_rfl) | (rw [if_neg (by decide +kernel)]; exact ⟨rfl, rfl⟩))
    (fun os started H enc _ => lifted os started H enc)
end Go.Proofs.Yteckboojmmeecaa.blockChoosesLeast
namespace Go.Proofs.Yteckboojmmeecaa
theorem blockChoosesLeast_holds : Rows.BlockChoosesLeastSaid := blockChoosesLeast.over
#print axioms blockChoosesLeast_holds
end Go.Proofs.Yteckboojmmeecaa
