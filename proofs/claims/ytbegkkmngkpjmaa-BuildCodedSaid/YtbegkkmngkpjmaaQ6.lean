/- Canonical prefix codes: words in the order of lengths and symbols: for the plain laws. -/
import Derived.Test.YtbegkkmngkpjmaaQ4
set_option linter.unusedVariables false
set_option linter.unusedSimpArgs false
namespace Go.V
open Go

/-- How many of the first m have the length v. -/
def cntL (l : Nat → Nat) (v m : Nat) : Nat := sumN m fun j => if l j = v then 1 else 0
/-- The first word of each length. -/
def fstW (l : Nat → Nat) (n : Nat) : Nat → Nat
  | 0 => 0
  | v + 1 => 2 * (fstW l n v + (if v = 0 then 0 else cntL l v n))
/-- The word of a symbol. -/
def wordW (l : Nat → Nat) (n s : Nat) : Nat := fstW l n (l s) + cntL l (l s) s
/-- What the lengths from 1 to v - 1 take of 2^15. -/
def upto (l : Nat → Nat) (n : Nat) : Nat → Nat
  | 0 => 0
  | v + 1 => upto l n v + (if v = 0 then 0 else cntL l v n * 2 ^ (15 - v))
theorem cntL_succ (l : Nat → Nat) (v m : Nat) : cntL l v (m + 1) = cntL l v m + if l m = v then 1 else 0 := rfl
theorem cntL_mono (l : Nat → Nat) (v : Nat) {m k : Nat} (h : m ≤ k) : cntL l v m ≤ cntL l v k := by
  induction k with
  | zero => rw [show m = 0 by omega]; exact Nat.le_refl _
  | succ k ih =>
    by_cases e : m = k + 1
    · rw [e]; exact Nat.le_refl _
    · rw [cntL_succ]; have := ih (by omega); omega
theorem cntL_lt {l : Nat → Nat} {v s m : Nat} (hs : s < m) (h : l s = v) : cntL l v s < cntL l v m := by
  have := cntL_mono l v (m := s + 1) (k := m) hs
  rw [cntL_succ, if_pos h] at this; omega
theorem cntL_le (l : Nat → Nat) (v m : Nat) : cntL l v m ≤ m := by
  induction m with
  | zero => exact Nat.le_refl _
  | succ m ih => rw [cntL_succ]; split <;> omega
/-- The k-th of that length. -/
theorem cntL_ex {l : Nat → Nat} {v : Nat} : ∀ {n k : Nat}, k < cntL l v n → ∃ s, s < n ∧ l s = v ∧ cntL l v s = k := by
  intro n
  induction n with
  | zero => intro k h; simp [cntL, sumN] at h
  | succ n ih =>
    intro k h
    by_cases h2 : k < cntL l v n
    · obtain ⟨s, h3, h4⟩ := ih h2; exact ⟨s, by omega, h4⟩
    · rw [cntL_succ] at h
      by_cases e : l n = v
      · rw [if_pos e] at h; exact ⟨n, by omega, e, by omega⟩
      · rw [if_neg e] at h; omega
theorem cntL_inj {l : Nat → Nat} {v s t : Nat} (hs : l s = v) (ht : l t = v) (h : cntL l v s = cntL l v t) : s = t := by
  rcases Nat.lt_trichotomy s t with h1 | h1 | h1
  · have := cntL_lt h1 hs; omega
  · exact h1
  · have := cntL_lt h1 ht; omega
theorem upto_succ (l : Nat → Nat) (n v : Nat) : upto l n (v + 1) = upto l n v + (if v = 0 then 0 else cntL l v n * 2 ^ (15 - v)) := rfl
theorem upto_mono (l : Nat → Nat) (n : Nat) {u v : Nat} (h : u ≤ v) : upto l n u ≤ upto l n v := by
  induction v with
  | zero => rw [show u = 0 by omega]; exact Nat.le_refl _
  | succ v ih =>
    by_cases e : u = v + 1
    · rw [e]; exact Nat.le_refl _
    · rw [upto_succ]; have := ih (by omega); omega
theorem fstW_upto (l : Nat → Nat) (n : Nat) : ∀ v, 1 ≤ v → v ≤ 15 → fstW l n v * 2 ^ (15 - v) = upto l n v := by
  intro v
  induction v with
  | zero => intro h; omega
  | succ v ih =>
    intro _ h
    simp only [fstW, upto_succ]
    by_cases e : v = 0
    · subst e; simp [fstW, upto]
    · rw [if_neg e, if_neg e, ← ih (by omega) (by omega), ← Nat.add_mul, show 15 - v = (15 - (v + 1)) + 1 by omega, Nat.pow_succ]
      rw [Nat.mul_comm 2, Nat.mul_assoc, Nat.mul_comm 2 (2 ^ _)]
/-- Where a symbol's rows of 15 bits begin. -/
def startW (l : Nat → Nat) (n s : Nat) : Nat := wordW l n s * 2 ^ (15 - l s)
theorem startW_eq {l : Nat → Nat} {n s : Nat} (h1 : 1 ≤ l s) (h2 : l s ≤ 15) : startW l n s = upto l n (l s) + cntL l (l s) s * 2 ^ (15 - l s) := by
  unfold startW wordW
  rw [Nat.add_mul, fstW_upto l n _ h1 h2]
/-- It ends in what its length takes. -/
theorem endW_le {l : Nat → Nat} {n s : Nat} (hs : s < n) (h1 : 1 ≤ l s) (h2 : l s ≤ 15) : startW l n s + 2 ^ (15 - l s) ≤ upto l n (l s + 1) := by
  rw [startW_eq h1 h2, upto_succ, if_neg (by omega), Nat.add_assoc, ← Nat.succ_mul]
  have := cntL_lt hs (rfl : l s = l s)
  exact Nat.add_le_add_left (Nat.mul_le_mul_right _ this) _
/-- One symbol stands ahead of another. -/
def ahead (l : Nat → Nat) (s t : Nat) : Prop := l s < l t ∨ l s = l t ∧ s < t
theorem ahead_or {l : Nat → Nat} {s t : Nat} (h : s ≠ t) : ahead l s t ∨ ahead l t s := by unfold ahead; omega
theorem ahead_le {l : Nat → Nat} {n s t : Nat} (hs : s < n) (h1 : 1 ≤ l s) (h2 : l s ≤ 15) (t2 : l t ≤ 15) (h : ahead l s t) : startW l n s + 2 ^ (15 - l s) ≤ startW l n t := by
  rcases h with h | ⟨e, h⟩
  · have a := endW_le hs h1 h2
    have b := upto_mono l n (show l s + 1 ≤ l t from h)
    rw [startW_eq (s := t) (by omega) t2]; omega
  · rw [startW_eq (s := t) (by omega) t2, startW_eq h1 h2, ← e, Nat.add_assoc, ← Nat.succ_mul]
    exact Nat.add_le_add_left (Nat.mul_le_mul_right _ (cntL_lt h rfl)) _
/-- What all take. -/
def takeW (l : Nat → Nat) (n : Nat) : Nat := sumN n fun j => if 0 < l j then 2 ^ (15 - l j) else 0
theorem upto_take {l : Nat → Nat} {n : Nat} (h : ∀ j, j < n → l j ≤ 15) : upto l n 16 = takeW l n := by
  have gen : ∀ v, upto l n (v + 1) = sumN n fun j => if 0 < l j ∧ l j ≤ v then 2 ^ (15 - l j) else 0 := by
    intro v
    induction v with
    | zero => simp only [upto_succ, upto, if_pos]; rw [sumN_zero fun j _ => if_neg (by omega)]
    | succ v ih =>
      rw [upto_succ, ih, if_neg (by omega), cntL, ← sumN_mul, ← sumN_add]
      refine sumN_eq fun j _ => ?_
      by_cases e : l j = v + 1
      · rw [if_neg (by omega), if_pos e, if_pos (by omega), e]; omega
      · rw [if_neg e]
        by_cases c : 0 < l j ∧ l j ≤ v
        · rw [if_pos c, if_pos (by omega)]; omega
        · rw [if_neg c, if_neg (by omega), Nat.zero_mul]
  rw [gen 15]
  refine sumN_eq fun j hj => ?_
  have := h j hj
  by_cases c : 0 < l j
  · rw [if_pos c, if_pos (by omega)]
  · rw [if_neg c, if_neg (by omega)]
/-- Every row of 15 bits begins with a word, where all of them are taken. -/
theorem full_hit {l : Nat → Nat} {n : Nat} (h : ∀ j, j < n → l j ≤ 15) (hT : takeW l n = 2 ^ 15) {x : Nat} (hx : x < 2 ^ 15) : ∃ s, s < n ∧ 1 ≤ l s ∧ l s ≤ 15 ∧ startW l n s ≤ x ∧ x < startW l n s + 2 ^ (15 - l s) := by
  have hU : upto l n 16 = 2 ^ 15 := by rw [upto_take h, hT]
  -- the first length that reaches beyond x
  have key : ∀ m, m ≤ 16 → x < upto l n m → ∃ v, 1 ≤ v ∧ v < m ∧ upto l n v ≤ x ∧ x < upto l n (v + 1) := by
    intro m
    induction m with
    | zero => intro _ h; simp [upto] at h
    | succ m ih =>
      intro hm hlt
      by_cases c : x < upto l n m
      · obtain ⟨v, a, b, d, e⟩ := ih (by omega) c; exact ⟨v, a, by omega, d, e⟩
      · refine ⟨m, ?_, by omega, by omega, hlt⟩
        apply Nat.pos_of_ne_zero
        intro e; subst e; simp [upto] at hlt
  obtain ⟨v, v1, v2, v3, v4⟩ := key 16 (Nat.le_refl _) (by omega)
  have hp : 0 < 2 ^ (15 - v) := Nat.pow_pos (by omega)
  rw [upto_succ, if_neg (by omega)] at v4
  have hk : (x - upto l n v) / 2 ^ (15 - v) < cntL l v n := by
    rw [Nat.div_lt_iff_lt_mul hp]; omega
  obtain ⟨s, s1, s2, s3⟩ := cntL_ex hk
  refine ⟨s, s1, by omega, by omega, ?_, ?_⟩
  · rw [startW_eq (by omega) (by omega), s2, s3]
    have := Nat.div_mul_le_self (x - upto l n v) (2 ^ (15 - v)); omega
  · rw [startW_eq (by omega) (by omega), s2, s3]
    have := Nat.lt_mul_div_succ (x - upto l n v) hp
    rw [Nat.mul_comm, Nat.add_mul] at this; omega
/-- Words fit their lengths, where no more than all rows are taken. -/
theorem word_lt {l : Nat → Nat} {n s : Nat} (h : ∀ j, j < n → l j ≤ 15) (hT : takeW l n ≤ 2 ^ 15) (hs : s < n) (h1 : 1 ≤ l s) : wordW l n s < 2 ^ l s := by
  have a := endW_le hs h1 (h s hs)
  have b := upto_mono l n (show l s + 1 ≤ 16 by have := h s hs; omega)
  rw [upto_take h] at b
  have e : 2 ^ l s * 2 ^ (15 - l s) = 2 ^ 15 := by rw [← Nat.pow_add]; congr 1; have := h s hs; omega
  have c : (wordW l n s + 1) * 2 ^ (15 - l s) ≤ 2 ^ l s * 2 ^ (15 - l s) := by
    rw [Nat.add_mul]; unfold startW at a; omega
  exact Nat.le_of_mul_le_mul_right c (Nat.pow_pos (by omega))
/-- No word begins another one. -/
theorem no_prefix {l : Nat → Nat} {n s t : Nat} (h : ∀ j, j < n → l j ≤ 15) (hs : s < n) (ht : t < n) (hne : s ≠ t) (h1 : 1 ≤ l s) (hle : l s ≤ l t) : wordW l n t / 2 ^ (l t - l s) ≠ wordW l n s := by
  intro e
  have h2 := h s hs
  have h3 := h t ht
  have hp : 0 < 2 ^ (l t - l s) := Nat.pow_pos (by omega)
  have a : wordW l n s * 2 ^ (l t - l s) ≤ wordW l n t := by rw [← e]; exact Nat.div_mul_le_self _ _
  have b : wordW l n t < (wordW l n s + 1) * 2 ^ (l t - l s) := by
    have := Nat.lt_mul_div_succ (wordW l n t) hp
    rw [e, Nat.mul_comm] at this; exact this
  have ep : 2 ^ (l t - l s) * 2 ^ (15 - l t) = 2 ^ (15 - l s) := by rw [← Nat.pow_add]; congr 1; omega
  have a2 : startW l n s ≤ startW l n t := by
    unfold startW
    have := Nat.mul_le_mul_right (2 ^ (15 - l t)) a
    rwa [Nat.mul_assoc, ep] at this
  have b2 : startW l n t + 2 ^ (15 - l t) ≤ startW l n s + 2 ^ (15 - l s) := by
    unfold startW
    have := Nat.mul_le_mul_right (2 ^ (15 - l t)) (Nat.succ_le_of_lt b)
    rw [Nat.mul_assoc, ep, Nat.succ_mul, Nat.add_mul, Nat.one_mul] at this; exact this
  have pt : 0 < 2 ^ (15 - l t) := Nat.pow_pos (by omega)
  have ps : 0 < 2 ^ (15 - l s) := Nat.pow_pos (by omega)
  rcases ahead_or (l := l) hne with c | c
  · have := ahead_le hs h1 h2 h3 c; omega
  · have := ahead_le ht (by omega) h3 h2 c; omega
theorem word_inj {l : Nat → Nat} {n s t : Nat} (hl : l s = l t) (h : wordW l n s = wordW l n t) : s = t := by
  unfold wordW at h
  rw [← hl] at h
  exact cntL_inj (v := l s) rfl hl.symm (by omega)
end Go.V
