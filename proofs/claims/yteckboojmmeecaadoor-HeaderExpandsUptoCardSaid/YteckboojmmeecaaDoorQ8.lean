/- Code lengths as runs: for the plain laws. -/
import Derived.Test.YteckboojmmeecaaDoorQ7
set_option linter.unusedVariables false
set_option linter.unusedSimpArgs false
namespace Go.V
open Go

/-- How many of the first ones are x. -/
def tw (x : Int) : List Int → Nat
  | [] => 0
  | y :: l => if y = x then tw x l + 1 else 0
theorem tw_le (x : Int) (l : List Int) : tw x l ≤ l.length := by
  induction l with
  | nil => exact Nat.le_refl _
  | cons y l ih => simp only [tw]; split <;> simp <;> omega
theorem tw_drop {x : Int} {l : List Int} {i : Nat} (h : i < l.length) : tw x (l.drop i) = if l[i] = x then tw x (l.drop (i + 1)) + 1 else 0 := by
  rw [List.drop_eq_getElem_cons h]; rfl
theorem tw_end {x : Int} {l : List Int} {i : Nat} (h : l.length ≤ i) : tw x (l.drop i) = 0 := by rw [List.drop_eq_nil_of_le h]; rfl
/-- The first ones are x. -/
theorem tw_all {x : Int} {l : List Int} {k : Nat} (h : k ≤ tw x l) : l.take k = List.replicate k x := by
  induction l generalizing k with
  | nil => simp [tw] at h; subst h; rfl
  | cons y l ih =>
    cases k with
    | zero => rfl
    | succ k =>
      simp only [tw] at h
      by_cases e : y = x
      · rw [if_pos e] at h; rw [List.take_succ_cons, List.replicate_succ, ih (by omega), e]
      · rw [if_neg e] at h; omega

/-- The run that begins at a place. -/
def runAt (lens : List Int) (i : Nat) : Int × Int :=
  let x := rd lens (i : Int)
  let m : Nat := tw x (lens.drop (i + 1)) + 1
  if x = 0 ∧ 11 ≤ m then (18, min (m : Int) 138) else if x = 0 ∧ 3 ≤ m then (17, (m : Int)) else
    if x ≠ 0 ∧ 3 ≤ m ∧ 0 < i ∧ rd lens ((i - 1 : Nat) : Int) = x then (16, min (m : Int) 6) else (x, 1)
theorem runAt_count {lens : List Int} {i : Nat} (h : i < lens.length) : 1 ≤ (runAt lens i).2 ∧ (runAt lens i).2 ≤ ((lens.length - i : Nat) : Int) := by
  have := tw_le (rd lens (i : Int)) (lens.drop (i + 1))
  rw [List.length_drop] at this
  unfold runAt
  simp only
  split
  · simp only; omega
  · split
    · simp only; omega
    · split
      · simp only; omega
      · simp only; omega
def runsF : Nat → List Int → Nat → List (Int × Int)
  | 0, _, _ => []
  | f + 1, lens, i => if i < lens.length then runAt lens i :: runsF f lens (i + (runAt lens i).2.toNat) else []
theorem runsF_length : ∀ (f : Nat) (lens : List Int) (i : Nat), (runsF f lens i).length ≤ lens.length - i := by
  intro f
  induction f with
  | zero => intro lens i; simp [runsF]
  | succ f ih =>
    intro lens i
    simp only [runsF]
    by_cases h : i < lens.length
    · rw [if_pos h, List.length_cons]
      have a := ih lens (i + (runAt lens i).2.toNat)
      have b := runAt_count h
      omega
    · rw [if_neg h]; simp
end Go.V
namespace Go.V
open Go
/-- The least count of a symbol, its further bits, the greatest count. -/
def leastS (s : Int) : Int := if s = 18 then 11 else if s = 16 ∨ s = 17 then 3 else 1
def furtherS (s : Int) : Nat := if s = 18 then 7 else if s = 17 then 3 else if s = 16 then 2 else 0
def mostS (s : Int) : Int := if s = 18 then 138 else if s = 17 then 10 else if s = 16 then 6 else 1
def okRun (r : Int × Int) : Prop := 0 ≤ r.1 ∧ r.1 ≤ 18 ∧ leastS r.1 ≤ r.2 ∧ r.2 ≤ mostS r.1
instance : DecidablePred okRun := fun r => by unfold okRun; exact inferInstance
theorem mostS_eq (s : Int) : mostS s = leastS s + ((2 ^ furtherS s : Nat) : Int) - 1 := by
  unfold mostS leastS furtherS
  by_cases a : s = 18
  · subst a; decide
  · rw [if_neg a, if_neg a, if_neg a]
    by_cases b : s = 17
    · subst b; decide
    · rw [if_neg b, if_neg b]
      by_cases c : s = 16
      · subst c; decide
      · rw [if_neg c, if_neg c, if_neg (by omega)]; decide
theorem leastS_pos (s : Int) : 1 ≤ leastS s ∧ leastS s ≤ 11 := by unfold leastS; split <;> (try split) <;> omega
theorem mostS_le (s : Int) : mostS s ≤ 138 := by unfold mostS; split <;> (try split) <;> (try split) <;> omega
theorem furtherS_le (s : Int) : furtherS s ≤ 7 := by unfold furtherS; split <;> (try split) <;> (try split) <;> omega
/-- What a run lays. -/
def runV (l : List Int) (s : Int) : Int := if s = 16 then rd l ((l.length - 1 : Nat) : Int) else if s = 17 ∨ s = 18 then 0 else s
def layR (l : List Int) (r : Int × Int) : List Int := l ++ List.replicate r.2.toNat (runV l r.1)
def expF : List (Int × Int) → List Int → Sum Int (List Int)
  | [], l => .inr l
  | r :: rs, l => if okRun r then (if r.1 = 16 ∧ l = [] then .inl 73 else expF rs (layR l r)) else .inl 77
theorem okRun_count {r : Int × Int} (h : okRun r) : 1 ≤ r.2 ∧ r.2 ≤ 138 := by
  have a := leastS_pos r.1
  have b := mostS_le r.1
  unfold okRun at h; omega
theorem layR_length (l : List Int) (r : Int × Int) : (layR l r).length = l.length + r.2.toNat := by simp [layR]

/-- The runs of a list are of the table. -/
theorem runAt_ok {a : List Int} (h : ∀ x ∈ a, okx x) {i : Nat} (c : i < a.length) : okRun (runAt a i) ∧ ((runAt a i).1 = 16 → 0 < i) ∧ layR (a.take i) (runAt a i) = a.take (i + (runAt a i).2.toNat) := by
  have hx : a[i]? = some a[i] := List.getElem?_eq_getElem c
  have ho := h _ (List.getElem_mem c)
  unfold okx at ho
  have hrd : rd a (i : Int) = a[i] := rd_at hx
  have ht := tw_le (rd a (i : Int)) (a.drop (i + 1))
  rw [List.length_drop] at ht
  have htw : tw (rd a (i : Int)) (a.drop i) = tw (rd a (i : Int)) (a.drop (i + 1)) + 1 := by rw [tw_drop c, if_pos hrd.symm]
  have lay : ∀ n : Nat, n ≤ tw (rd a (i : Int)) (a.drop (i + 1)) + 1 → a.take (i + n) = a.take i ++ List.replicate n (rd a (i : Int)) := by
    intro n hn
    rw [List.take_add, tw_all (x := rd a (i : Int)) (l := a.drop i) (by omega)]
  have hl : (a.take i).length = i := by rw [List.length_take]; omega
  unfold runAt
  simp only
  generalize hX : rd a (i : Int) = x at *
  generalize tw x (a.drop (i + 1)) = t at *
  by_cases c1 : x = 0 ∧ 11 ≤ t + 1
  · rw [if_pos c1]
    refine ⟨⟨by simp, by simp, by show leastS 18 ≤ _; rw [show leastS 18 = 11 from rfl]; simp only; omega, by show _ ≤ mostS 18; rw [show mostS 18 = 138 from rfl]; simp only; omega⟩, fun e => absurd e (by simp), ?_⟩
    unfold layR
    rw [lay _ (by simp only; omega)]
    congr 2
    unfold runV; simp; exact c1.1.symm
  · rw [if_neg c1]
    by_cases c2 : x = 0 ∧ 3 ≤ t + 1
    · rw [if_pos c2]
      refine ⟨⟨by simp, by simp, by show leastS 17 ≤ _; rw [show leastS 17 = 3 from rfl]; simp only; omega, by show _ ≤ mostS 17; rw [show mostS 17 = 10 from rfl]; simp only; omega⟩, fun e => absurd e (by simp), ?_⟩
      unfold layR
      rw [lay _ (by simp only; omega)]
      congr 2
      unfold runV; simp; exact c2.1.symm
    · rw [if_neg c2]
      by_cases c3 : x ≠ 0 ∧ 3 ≤ t + 1 ∧ 0 < i ∧ rd a ((i - 1 : Nat) : Int) = x
      · rw [if_pos c3]
        refine ⟨⟨by simp, by simp, by show leastS 16 ≤ _; rw [show leastS 16 = 3 from rfl]; simp only; omega, by show _ ≤ mostS 16; rw [show mostS 16 = 6 from rfl]; simp only; omega⟩, fun _ => c3.2.2.1, ?_⟩
        unfold layR
        rw [lay _ (by simp only; omega)]
        congr 2
        unfold runV
        rw [if_pos rfl, hl]
        have h2 : rd (a.take i) ((i - 1 : Nat) : Int) = rd a ((i - 1 : Nat) : Int) := by
          rw [rd_at (l := a) (List.getElem?_eq_getElem (show i - 1 < a.length by omega))]
          refine rd_at ?_
          rw [List.getElem?_take, if_pos (by omega), List.getElem?_eq_getElem (show i - 1 < a.length by omega)]
        rw [h2, c3.2.2.2]
      · rw [if_neg c3]
        have hs : ¬ x = 18 ∧ ¬ x = 17 ∧ ¬ x = 16 := by omega
        refine ⟨⟨by simp only; omega, by simp only; omega, ?_, ?_⟩, fun e => absurd e hs.2.2, ?_⟩
        · show leastS x ≤ 1
          unfold leastS; rw [if_neg hs.1, if_neg (by omega)]; omega
        · show (1 : Int) ≤ mostS x
          unfold mostS; rw [if_neg hs.1, if_neg hs.2.1, if_neg hs.2.2]; omega
        · unfold layR
          rw [lay _ (by simp only; omega)]
          congr 2
          unfold runV
          rw [if_neg hs.2.2, if_neg (by omega)]
/-- Expand of the runs is the list. -/
theorem expF_runs {a : List Int} (h : ∀ x ∈ a, okx x) : ∀ (d i : Nat), a.length - i ≤ d → i ≤ a.length → expF (runsF d a i) (a.take i) = .inr a := by
  intro d
  induction d with
  | zero =>
    intro i hd hi
    rw [runsF, expF, show i = a.length by omega, List.take_length]
  | succ d ih =>
    intro i hd hi
    rw [runsF]
    by_cases c : i < a.length
    · obtain ⟨h1, h2, h3⟩ := runAt_ok h c
      have hc := runAt_count c
      rw [if_pos c, expF, if_pos h1, if_neg, h3]
      · exact ih _ (by omega) (by omega)
      · rintro ⟨e, e2⟩
        have := h2 e
        have e3 := congrArg List.length e2
        rw [List.length_take, List.length_nil] at e3
        omega
    · rw [if_neg c, expF, show i = a.length by omega, List.take_length]
theorem runsF_ok {a : List Int} (h : ∀ x ∈ a, okx x) : ∀ (d i : Nat), ∀ r ∈ runsF d a i, okRun r := by
  intro d
  induction d with
  | zero => intro i r hr; rw [runsF] at hr; cases hr
  | succ d ih =>
    intro i r hr
    rw [runsF] at hr
    by_cases c : i < a.length
    · rw [if_pos c] at hr
      rcases List.mem_cons.1 hr with rfl | hr
      · exact (runAt_ok h c).1
      · exact ih _ r hr
    · rw [if_neg c] at hr; cases hr
end Go.V
