/- PROVED: BuildCoded: whatever its arguments, the law returns true and leaves them as they were. No condition. -/
import Derived.Test.YtbegkkmngkpjmaaRows
import Derived.Test.YtbegkkmngkpjmaaGBuildCodedWalk
import Derived.Test.YtbegkkmngkpjmaaGBuildCodedTrue
import Derived.Test.YtbegkkmngkpjmaaV10
set_option linter.unusedVariables false
set_option linter.unusedSimpArgs false
namespace Go.Proofs.Ytbegkkmngkpjmaa.buildCoded
open Go Go.V Go.V.Pu Go.ChangeShapes Go.WideShapes Go.ChangeAt Go.RowKit
theorem own : ownKnob Try.prog.godebug = none := by kernel_rfl
theorem laidOut : laidOutB Try.prog = true := by kernel_rfl
set_option maxRecDepth 100000 in
theorem lifted (os : Os) (started : os.Started) (H : Type) (enc : TypeId × Value → H) :
    ReturnsInHanded {} Try.checked os 14 .any (Rows.buildCodedSpec.pre6 enc Try.prog Try.f14 Rows.buildCodedRow.domain false) (Rows.buildCodedSpec.post enc Try.prog Try.f14 false true false false) := by
  refine returnsInHanded_of_change_sized (C := Try.checked) own started (by kernel_rfl) Try.func14
    (ChangeSpec.witness6 (enc := enc) (C := Try.checked) false ⟨#[], #[.slice none 0 0, .int .i64 0, .slice none 0 0], []⟩ 8 (by kernel_rfl) (by kernel_rfl) (by kernel_rfl) (by kernel_rfl)) ?_
  intro W base args ds gs before hval0 hW hcnd hsz0 _
  have hsz : (DataW.weightsEach Try.prog (Try.f14.params.toList ++ Rows.buildCodedSpec.plain.varTypes Try.prog) (ds ++ gs)).all (· ≤ reachBytes) = true := hsz0
  have hval : ∀ (j : Nat) t v, Try.f14.params[j]? = some t → args[j]? = some v → Value.okWide Try.prog W .any base t v := hval0
  have hW' := hW
  obtain ⟨p, q, hA0, hV, rfl, hfz, hnd⟩ := hW
  have hA : DataW.TrodAll enc Try.prog W 0 (fun _ => true) true Try.f14.params.toList args.toList ds p := hA0
  rw [Try.params14] at hA hval hsz
  obtain ⟨v0, vs0, d0, ds0, p0, q0, hargs, rfl, rfl, h0, r0⟩ := trodAll_cons hA
  obtain ⟨v1, vs1, d1, ds1, p1, q1, rfl, rfl, rfl, h1, r1⟩ := trodAll_cons r0
  obtain ⟨v2, vs2, d2, ds2, p2, q2, rfl, rfl, rfl, h2, r2⟩ := trodAll_cons r1
  obtain ⟨rfl, rfl, rfl⟩ := trodAll_nil r2
  obtain rfl : args = #[v0, v1, v2] := by cases args; simp_all
  obtain ⟨rfl, rfl⟩ := trodVars_none hV
  have k0 := h0
  have lt0 := trod_lt h0
  obtain ⟨A0, c0, l0, rfl, lc0, lm0, wf0, wt0, rd0⟩ := open_row (Eint .u8) (j := 0) (t := 46) Try.underlying46 (by kernel_rfl) (by decide) (show Try.prog.bytesOf 5 = 1 by kernel_rfl) (dec_int Try.underlying5) (hval 0 46 v0 rfl rfl) h0 hsz rfl rfl
  obtain ⟨a1, rfl, rfl, rfl, w1⟩ := open_int Try.underlying3 (hval 1 3 v1 rfl rfl) h1
  have k2 := h2
  have lt2 := trod_lt h2
  obtain ⟨A2, c2, l2, rfl, lc2, lm2, wf2, wt2, rd2⟩ := open_row (Eint .i64) (j := 2) (t := 22) Try.underlying22 (by kernel_rfl) (by decide) (show Try.prog.bytesOf 3 = 8 by kernel_rfl) (dec_int Try.underlying3) (hval 2 22 v2 rfl rfl) h2 hsz rfl rfl
  clear hA0 hval0 hsz0 hsz
  refine (valiselaw6_BuildCoded.calls ((Rds.cons rd0 (Rds.cons rd2 Rds.nil)).start) lc0 lc2 (Pu.valiselaw6_BuildCoded_true l0 a1 l2 wf0 wt0 w1 wf2 wt2)).mono fun e W' h => ?_
  obtain ⟨rfl, HE⟩ := h
  have bel := HE.chg.below
  exact ⟨_, rfl, _, _, _, [], _, [], hW', trodAll_mk1 (shut_bool Try.underlying4 _), (trodAll_cons_mk (Below.trod laidOut (by kernel_rfl) (of_decide_eq_true (by kernel_rfl)) k0 bel lt0) (trodAll_cons_mk (shut_int Try.underlying3 w1) (trodAll_cons_mk (Below.trod laidOut (by kernel_rfl) (of_decide_eq_true (by kernel_rfl)) k2 bel lt2) trodAll_mk0))), rfl, bel.frame _, fun h => by cases h⟩
theorem over : Rows.buildCodedRow.holds Try.pinned (OpenSpec.ofChange Rows.buildCodedSpec) :=
  OpenClaim.holds_of_wide 14 Try.f14 rfl rfl rfl rfl rfl rfl rfl ⟨rfl, rfl, rfl, rfl, rfl⟩ rfl rfl rfl rfl rfl (by kernel_rfl) Try.func14 (by kernel_rfl)
    (of_decide_eq_true (by kernel_rfl)) (by unfold Func.isWrapper; first | (rw [if_pos (by decide +kernel)]; kernel_rfl) | (rw [if_neg (by decide +kernel)]; exact ⟨rfl, rfl⟩))
    (fun os started H enc _ => lifted os started H enc)
end Go.Proofs.Ytbegkkmngkpjmaa.buildCoded
namespace Go.Proofs.Ytbegkkmngkpjmaa
theorem buildCoded_holds : Rows.BuildCodedSaid := buildCoded.over
#print axioms buildCoded_holds
end Go.Proofs.Ytbegkkmngkpjmaa
