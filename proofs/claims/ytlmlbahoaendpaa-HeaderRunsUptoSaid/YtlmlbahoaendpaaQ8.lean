/- Code lengths as runs: for the plain laws. -/
import Derived.Test.YtlmlbahoaendpaaQ7
set_option linter.unusedVariables false
set_option linter.unusedSimpArgs false
namespace Go.V
open Go

/-- How many of the first ones are x. -/
def tw (x : Int) : List Int → Nat
  | [] => 0
  | y :: l => if y = x then tw x l + 1 else 0
theorem tw_le (x : Int) (l : List Int) : tw x l ≤ l.length := by
  induction l with
  | nil => exact Nat.le_refl _
  | cons y l ih => simp only [tw]; split <;> simp <;> omega
theorem tw_drop {x : Int} {l : List Int} {i : Nat} (h : i < l.length) : tw x (l.drop i) = if l[i] = x then tw x (l.drop (i + 1)) + 1 else 0 := by
  rw [List.drop_eq_getElem_cons h]; rfl
theorem tw_end {x : Int} {l : List Int} {i : Nat} (h : l.length ≤ i) : tw x (l.drop i) = 0 := by rw [List.drop_eq_nil_of_le h]; rfl
/-- The first ones are x. -/
theorem tw_all {x : Int} {l : List Int} {k : Nat} (h : k ≤ tw x l) : l.take k = List.replicate k x := by
  induction l generalizing k with
  | nil => simp [tw] at h; subst h; rfl
  | cons y l ih =>
    cases k with
    | zero => rfl
    | succ k =>
      simp only [tw] at h
      by_cases e : y = x
      · rw [if_pos e] at h; rw [List.take_succ_cons, List.replicate_succ, ih (by omega), e]
      · rw [if_neg e] at h; omega

/-- The run that begins at a place. -/
def runAt (lens : List Int) (i : Nat) : Int × Int :=
  let x := rd lens (i : Int)
  let m : Nat := tw x (lens.drop (i + 1)) + 1
  if x = 0 ∧ 11 ≤ m then (18, min (m : Int) 138) else if x = 0 ∧ 3 ≤ m then (17, (m : Int)) else
    if x ≠ 0 ∧ 3 ≤ m ∧ 0 < i ∧ rd lens ((i - 1 : Nat) : Int) = x then (16, min (m : Int) 6) else (x, 1)
theorem runAt_count {lens : List Int} {i : Nat} (h : i < lens.length) : 1 ≤ (runAt lens i).2 ∧ (runAt lens i).2 ≤ ((lens.length - i : Nat) : Int) := by
  have := tw_le (rd lens (i : Int)) (lens.drop (i + 1))
  rw [List.length_drop] at this
  unfold runAt
  simp only
  split
  · simp only; omega
  · split
    · simp only; omega
    · split
      · simp only; omega
      · simp only; omega
def runsF : Nat → List Int → Nat → List (Int × Int)
  | 0, _, _ => []
  | f + 1, lens, i => if i < lens.length then runAt lens i :: runsF f lens (i + (runAt lens i).2.toNat) else []
theorem runsF_length : ∀ (f : Nat) (lens : List Int) (i : Nat), (runsF f lens i).length ≤ lens.length - i := by
  intro f
  induction f with
  | zero => intro lens i; simp [runsF]
  | succ f ih =>
    intro lens i
    simp only [runsF]
    by_cases h : i < lens.length
    · rw [if_pos h, List.length_cons]
      have a := ih lens (i + (runAt lens i).2.toNat)
      have b := runAt_count h
      omega
    · rw [if_neg h]; simp
end Go.V
