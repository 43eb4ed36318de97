/- PROVED: HeaderRuns: whatever its arguments, the law returns true and leaves them as they were. No condition. -/
import Derived.Test.YtlmlbahoaendpaaRows
import Derived.Test.YtlmlbahoaendpaaGHeaderRunsWalk
import Derived.Test.YtlmlbahoaendpaaGHeaderRunsTrue
import Derived.Test.YtlmlbahoaendpaaV10
import Derived.Deep.CondSized
set_option linter.unusedVariables false
set_option linter.unusedSimpArgs false
namespace Go.Proofs.Ytlmlbahoaendpaa.headerRuns
open Go Go.V Go.V.Pu Go.ChangeShapes Go.WideShapes Go.ChangeAt Go.RowKit
theorem own : ownKnob Try.prog.godebug = none := by kernel_rfl
theorem bulk_one {H : Type} (d : DataW H) : 1 ≤ Rows.uptoBulk d := by
  cases d with
  | lit l => cases l <;> simp [Rows.uptoBulk]
  | nil => simp [Rows.uptoBulk]
  | ptr d => simp [Rows.uptoBulk]
  | slice elems spare => simp [Rows.uptoBulk]
  | agg parts => simp [Rows.uptoBulk]
  | iface t d => simp [Rows.uptoBulk]
  | map entries => simp [Rows.uptoBulk]
  | held h => simp [Rows.uptoBulk]
theorem bulk_part {H : Type} {d : DataW H} {l : List (DataW H)} (h : d ∈ l) : Rows.uptoBulk d ≤ Rows.uptoBulkAll l := by
  induction l with
  | nil => cases h
  | cons x r ih =>
    simp only [Rows.uptoBulkAll]
    cases List.mem_cons.1 h with
    | inl e => subst e; omega
    | inr e => have := ih e; omega
theorem bulk_len {H : Type} (l : List (DataW H)) : l.length ≤ Rows.uptoBulkAll l := by
  induction l with
  | nil => simp [Rows.uptoBulkAll]
  | cons x r ih => have := bulk_one x; simp only [Rows.uptoBulkAll, List.length_cons]; omega
theorem bulk_slice {H : Type} {m : Nat} {d : DataW H} {l : List (DataW H)} (hd : d ∈ l) (hk : Rows.uptoSmall H l = true) (h : m = 0 ∨ ∃ elems sp, d = .slice elems sp ∧ elems.length = m) : m ≤ 1048576 := by
  rcases h with h | ⟨elems, sp, rfl, h⟩
  · omega
  · have h1 := bulk_part hd
    have h2 := bulk_len elems
    have h3 : Rows.uptoBulkAll l ≤ 1048576 := of_decide_eq_true hk
    simp only [Rows.uptoBulk] at h1
    omega
theorem laidOut : laidOutB Try.prog = true := by kernel_rfl
set_option maxRecDepth 100000 in
theorem lifted (os : Os) (started : os.Started) (H : Type) (enc : TypeId × Value → H) (F : Stop.Interp) :
    ReturnsInHanded {} Try.checked os 3 .any ((Rows.OpenSpec.upto Rows.headerRunsSpec).pre6 enc Try.prog Try.f3 Rows.headerRunsUptoRow.domain false) (((Rows.OpenSpec.upto Rows.headerRunsSpec).at F).post enc Try.prog Try.f3 false true false false) := by
  refine returnsInHanded_of_cond_sized (C := Try.checked) (s := (Rows.OpenSpec.upto Rows.headerRunsSpec)) (k := Rows.uptoSmall) rfl own started (by kernel_rfl) Try.func3
    (OpenSpec.witness (enc := enc) (C := Try.checked) (s := (Rows.OpenSpec.upto Rows.headerRunsSpec)) (k := Rows.uptoSmall) rfl false ⟨#[], #[.slice none 0 0], []⟩ 8 (by kernel_rfl) (by kernel_rfl) (by kernel_rfl) (x := ([.nil], [], [])) (by kernel_rfl) rfl (by kernel_rfl)) ?_
  intro W base args ds gs before hval0 hW hcnd hk hsz0 _
  have hsz : (DataW.weightsEach Try.prog (Try.f3.params.toList ++ Rows.headerRunsSpec.plain.varTypes Try.prog) (ds ++ gs)).all (· ≤ reachBytes) = true := hsz0
  have hval : ∀ (j : Nat) t v, Try.f3.params[j]? = some t → args[j]? = some v → Value.okWide Try.prog W .any base t v := hval0
  have hW' := hW
  obtain ⟨p, q, hA0, hV, rfl, hfz, hnd⟩ := hW
  have hA : DataW.TrodAll enc Try.prog W 0 (fun _ => true) true Try.f3.params.toList args.toList ds p := hA0
  rw [Try.params3] at hA hval hsz
  obtain ⟨v0, vs0, d0, ds0, p0, q0, hargs, rfl, rfl, h0, r0⟩ := trodAll_cons hA
  obtain ⟨rfl, rfl, rfl⟩ := trodAll_nil r0
  obtain rfl : args = #[v0] := by cases args; simp_all
  obtain ⟨rfl, rfl⟩ := trodVars_none hV
  have k0 := h0
  have lt0 := trod_lt h0
  obtain ⟨A0, c0, l0, rfl, lc0, lm0, wf0, wt0, rd0⟩ := open_row (Eint .i64) (j := 0) (t := 22) Try.underlying22 (by kernel_rfl) (by decide) (show Try.prog.bytesOf 3 = 8 by kernel_rfl) (dec_int Try.underlying3) (hval 0 22 v0 rfl rfl) h0 hsz rfl rfl
  have up0 : l0.length ≤ 1048576 := bulk_slice (d := d0) (by simp) hk (slice_len Try.underlying22 h0)
  clear hA0 hval0 hsz0 hsz
  refine (valiselaw7_HeaderRuns.calls ((Rds.cons rd0 Rds.nil).start) lc0 (Pu.valiselaw7_HeaderRuns_true l0 wf0 up0)).mono fun e W' h => ?_
  obtain ⟨rfl, HE⟩ := h
  have bel := HE.chg.below
  exact ⟨_, rfl, _, _, _, [], _, [], hW', trodAll_mk1 (shut_bool Try.underlying4 _), (trodAll_cons_mk (Below.trod laidOut (by kernel_rfl) (of_decide_eq_true (by kernel_rfl)) k0 bel lt0) trodAll_mk0), rfl, bel.frame _, fun h => by cases h⟩
theorem over : Rows.HeaderRunsUptoSaid :=
  OpenClaim.holds_of_cond 3 Try.f3 rfl rfl rfl rfl rfl rfl rfl ⟨rfl, rfl, rfl, rfl, rfl⟩ rfl rfl rfl rfl rfl (by kernel_rfl) Try.func3 (by kernel_rfl)
    (of_decide_eq_true (by kernel_rfl)) (by unfold Func.isWrapper; first | (rw [if_pos (by decide +kernel)]; kernel_rfl) | (rw [if_neg (by decide +kernel)]; exact ⟨rfl, rfl⟩))
    (fun os started H enc _ F => lifted os started H enc F)
end Go.Proofs.Ytlmlbahoaendpaa.headerRuns
namespace Go.Proofs.Ytlmlbahoaendpaa
theorem headerRuns_holds : Rows.HeaderRunsUptoSaid := headerRuns.over
#print axioms headerRuns_holds
end Go.Proofs.Ytlmlbahoaendpaa
