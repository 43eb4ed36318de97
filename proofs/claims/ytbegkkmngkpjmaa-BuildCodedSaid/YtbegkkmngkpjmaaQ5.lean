/- The two lightest are joined again and again: Huffman's theorem: for the plain laws. -/
import Derived.Test.YtbegkkmngkpjmaaQ4
set_option linter.unusedVariables false
set_option linter.unusedSimpArgs false
namespace Go.V
open Go

/-! ### Weights with lengths -/
def cost2 (P : List (Nat × Nat)) : Nat := (P.map fun p => p.1 * p.2).sum
def kr (M : Nat) (P : List (Nat × Nat)) : Nat := (P.map fun p => 2 ^ (M - p.2)).sum
theorem cost2_cons (p : Nat × Nat) (P : List (Nat × Nat)) : cost2 (p :: P) = p.1 * p.2 + cost2 P := by simp [cost2]
theorem kr_cons (M : Nat) (p : Nat × Nat) (P : List (Nat × Nat)) : kr M (p :: P) = 2 ^ (M - p.2) + kr M P := by simp [kr]
theorem cost2_append (P Q : List (Nat × Nat)) : cost2 (P ++ Q) = cost2 P + cost2 Q := by simp [cost2]
theorem kr_append (M : Nat) (P Q : List (Nat × Nat)) : kr M (P ++ Q) = kr M P + kr M Q := by simp [kr]
theorem cost2_perm {P Q : List (Nat × Nat)} (h : P.Perm Q) : cost2 P = cost2 Q := (h.map _).sum_nat
theorem kr_perm {M : Nat} {P Q : List (Nat × Nat)} (h : P.Perm Q) : kr M P = kr M Q := (h.map _).sum_nat
theorem kr_dvd {M d : Nat} {P : List (Nat × Nat)} (h : ∀ p ∈ P, p.2 ≤ d) : 2 ^ (M - d) ∣ kr M P := by
  induction P with
  | nil => exact Nat.dvd_zero _
  | cons p P ih =>
    rw [kr_cons]
    exact Nat.dvd_add (Nat.pow_dvd_pow 2 (by have := h p (by simp); omega)) (ih fun q hq => h q (by simp [hq]))
theorem exch {x u a D : Nat} (hx : x ≤ u) (ha : a ≤ D) : x * D + u * a ≤ x * a + u * D := by
  obtain ⟨e, rfl⟩ : ∃ e, u = x + e := ⟨u - x, by omega⟩
  obtain ⟨f, rfl⟩ : ∃ f, D = a + f := ⟨D - a, by omega⟩
  simp only [Nat.mul_add, Nat.add_mul]
  have : 0 ≤ e * f := Nat.zero_le _
  omega

/-- The two lightest may stand side by side at the bottom. -/
theorem join_two (M : Nat) : ∀ (N x a y b : Nat) (Q : List (Nat × Nat)), x ≤ y → (∀ q ∈ Q, y ≤ q.1) → a + b + (Q.map Prod.snd).sum ≤ N → a ≤ M → b ≤ M → (∀ q ∈ Q, q.2 ≤ M) →
    kr M ((x, a) :: (y, b) :: Q) ≤ 2 ^ M →
    ∃ d Q', Q'.map Prod.fst = Q.map Prod.fst ∧ d ≤ M ∧ (∀ q ∈ Q', q.2 ≤ M) ∧ kr M ((x + y, d) :: Q') ≤ 2 ^ M ∧ cost2 ((x + y, d) :: Q') + (x + y) ≤ cost2 ((x, a) :: (y, b) :: Q) := by
  intro N
  induction N with
  | zero =>
    intro x a y b Q hxy hQ hN ha hb hq hk
    exfalso
    have ha0 : a = 0 := by omega
    have hb0 : b = 0 := by omega
    subst ha0; subst hb0
    have := Nat.pow_pos (n := M) (show 0 < 2 by omega)
    rw [kr_cons, kr_cons] at hk
    simp only [Nat.sub_zero] at hk
    omega
  | succ N ih =>
    -- both at the bottom
    have both : ∀ (x y D : Nat) (Q : List (Nat × Nat)), D ≤ M → (∀ q ∈ Q, q.2 ≤ M) → kr M ((x, D) :: (y, D) :: Q) ≤ 2 ^ M →
        ∃ d Q', Q'.map Prod.fst = Q.map Prod.fst ∧ d ≤ M ∧ (∀ q ∈ Q', q.2 ≤ M) ∧ kr M ((x + y, d) :: Q') ≤ 2 ^ M ∧ cost2 ((x + y, d) :: Q') + (x + y) ≤ cost2 ((x, D) :: (y, D) :: Q) := by
      intro x y D Q hD hq hk
      have hp := Nat.pow_pos (n := M) (show 0 < 2 by omega)
      have h0 : 0 < D := by
        apply Nat.pos_of_ne_zero
        intro h0
        subst h0
        rw [kr_cons, kr_cons] at hk
        simp only [Nat.sub_zero] at hk
        omega
      refine ⟨D - 1, Q, rfl, by omega, hq, ?_, ?_⟩
      · rw [kr_cons, kr_cons] at hk
        rw [kr_cons]
        have : 2 ^ (M - (D - 1)) = 2 ^ (M - D) + 2 ^ (M - D) := by rw [show M - (D - 1) = (M - D) + 1 by omega, Nat.pow_succ]; omega
        simp only at hk ⊢
        omega
      · simp only [cost2_cons]
        obtain ⟨e, rfl⟩ : ∃ e, D = e + 1 := ⟨D - 1, by omega⟩
        simp only [Nat.add_sub_cancel, Nat.mul_add, Nat.add_mul]; omega
    -- the first one at the bottom
    have core : ∀ (x a y b : Nat) (Q : List (Nat × Nat)), x ≤ y → (∀ q ∈ Q, y ≤ q.1) → a + b + (Q.map Prod.snd).sum ≤ N + 1 → a ≤ M → b ≤ a → (∀ q ∈ Q, q.2 ≤ a) →
        kr M ((x, a) :: (y, b) :: Q) ≤ 2 ^ M →
        ∃ d Q', Q'.map Prod.fst = Q.map Prod.fst ∧ d ≤ M ∧ (∀ q ∈ Q', q.2 ≤ M) ∧ kr M ((x + y, d) :: Q') ≤ 2 ^ M ∧ cost2 ((x + y, d) :: Q') + (x + y) ≤ cost2 ((x, a) :: (y, b) :: Q) := by
      intro x a y b Q hxy hQ hN ha hb hq hk
      by_cases hab : b = a
      · subst hab
        exact both x y b Q ha (fun q h => Nat.le_trans (hq q h) ha) hk
      · by_cases hD : ∃ q ∈ Q, q.2 = a
        · obtain ⟨⟨u, D⟩, hmem, hD⟩ := hD
          simp only at hD
          subst hD
          obtain ⟨s, t, rfl⟩ := List.append_of_mem hmem
          have hu := hQ _ hmem
          have hq' : ∀ q ∈ s ++ (u, b) :: t, q.2 ≤ M := by
            intro q h
            rcases List.mem_append.1 h with h | h
            · exact Nat.le_trans (hq q (by simp [h])) ha
            · rcases List.mem_cons.1 h with rfl | h
              · exact Nat.le_trans hb ha
              · exact Nat.le_trans (hq q (by simp [h])) ha
          obtain ⟨d, Q', h1, h2, h3, h4, h5⟩ := both x y D (s ++ (u, b) :: t) ha hq' (by
            simp only [kr_cons, kr_append] at hk ⊢; omega)
          refine ⟨d, Q', by rw [h1]; simp, h2, h3, h4, Nat.le_trans h5 ?_⟩
          have := exch (x := y) (u := u) (a := b) (D := D) hu hb
          simp only [cost2_cons, cost2_append]; omega
        · have hlt : b < a := by omega
          have hq1 : ∀ q ∈ Q, q.2 ≤ a - 1 := by
            intro q h
            have h1 := hq q h
            have : q.2 ≠ a := fun e => hD ⟨q, h, e⟩
            omega
          obtain ⟨d, Q', h1, h2, h3, h4, h5⟩ := ih x (a - 1) y b Q hxy hQ (by omega) (by omega) (by omega) (fun q h => by have := hq q h; omega) (by
            have hd : 2 ^ (M - (a - 1)) ∣ kr M ((y, b) :: Q) := kr_dvd fun p hp => by
              rcases List.mem_cons.1 hp with rfl | hp
              · simp only; omega
              · exact hq1 p hp
            have hd2 : 2 ^ (M - (a - 1)) ∣ 2 ^ M := Nat.pow_dvd_pow 2 (by omega)
            have e : 2 ^ (M - (a - 1)) = 2 * 2 ^ (M - a) := by rw [show M - (a - 1) = (M - a) + 1 by omega, Nat.pow_succ, Nat.mul_comm]
            have hpp : 0 < 2 ^ (M - a) := Nat.pow_pos (by omega)
            rw [kr_cons] at hk ⊢
            simp only at hk ⊢
            rw [e] at hd hd2 ⊢
            obtain ⟨k, hk'⟩ := hd
            obtain ⟨m, hm⟩ := hd2
            rw [hk', hm] at hk
            rw [hk', hm]
            generalize 2 ^ (M - a) = z at *
            have h6 : 2 * z * k < 2 * z * m := by omega
            have h7 : k < m := Nat.lt_of_mul_lt_mul_left h6
            have h8 : 2 * z * (k + 1) ≤ 2 * z * m := Nat.mul_le_mul_left _ h7
            rw [Nat.mul_add] at h8
            omega)
          refine ⟨d, Q', h1, h2, h3, h4, Nat.le_trans h5 ?_⟩
          simp only [cost2_cons]
          have : x * (a - 1) ≤ x * a := Nat.mul_le_mul_left _ (by omega)
          omega
    intro x a y b Q hxy hQ hN ha hb hq hk
    by_cases h1 : b ≤ a ∧ ∀ q ∈ Q, q.2 ≤ a
    · exact core x a y b Q hxy hQ hN ha h1.1 h1.2 hk
    · by_cases h2 : a ≤ b ∧ ∀ q ∈ Q, q.2 ≤ b
      · -- x and y change their places
        obtain ⟨d, Q', h3, h4, h5, h6, h7⟩ := core x b y a Q hxy hQ (by omega) hb h2.1 h2.2 (by simp only [kr_cons] at hk ⊢; omega)
        refine ⟨d, Q', h3, h4, h5, h6, Nat.le_trans h7 ?_⟩
        have := exch (x := x) (u := y) hxy h2.1
        simp only [cost2_cons]; omega
      · -- one of the others is at the bottom
        have hmax : ∀ R : List (Nat × Nat), R ≠ [] → ∃ q ∈ R, ∀ p ∈ R, p.2 ≤ q.2 := by
          intro R
          induction R with
          | nil => intro h; exact absurd rfl h
          | cons r R ihR =>
            intro _
            by_cases hR : R = []
            · subst hR; exact ⟨r, by simp, fun p hp => by simp at hp; subst hp; exact Nat.le_refl _⟩
            · obtain ⟨q, hq1, hq2⟩ := ihR hR
              by_cases hc : r.2 ≤ q.2
              · exact ⟨q, by simp [hq1], fun p hp => by rcases List.mem_cons.1 hp with rfl | hp; (· exact hc); (· exact hq2 p hp)⟩
              · exact ⟨r, by simp, fun p hp => by rcases List.mem_cons.1 hp with rfl | hp; (· exact Nat.le_refl _); (· have := hq2 p hp; omega)⟩
        have hQn : Q ≠ [] := by
          rintro rfl
          rcases Nat.le_total a b with h | h
          · exact h2 ⟨h, fun q hq => by cases hq⟩
          · exact h1 ⟨h, fun q hq => by cases hq⟩
        obtain ⟨⟨u, D⟩, hmem, hmx⟩ := hmax Q hQn
        simp only at hmx
        have hDM : D ≤ M := hq _ hmem
        have haD : a ≤ D := by
          apply Nat.le_of_not_lt
          intro hlt
          by_cases hba : b ≤ a
          · exact h1 ⟨hba, fun q h => by have := hmx q h; omega⟩
          · exact h2 ⟨by omega, fun q h => by have := hmx q h; omega⟩
        have hbD : b ≤ D := by
          apply Nat.le_of_not_lt
          intro hlt
          exact h2 ⟨by omega, fun q h => by have := hmx q h; omega⟩
        have hu := hQ _ hmem
        obtain ⟨s, t, rfl⟩ := List.append_of_mem hmem
        obtain ⟨d, Q', h3, h4, h5, h6, h7⟩ := core x D y b (s ++ (u, a) :: t) hxy (fun q h => by
            rcases List.mem_append.1 h with h | h
            · exact hQ q (by simp [h])
            · rcases List.mem_cons.1 h with rfl | h
              · exact hu
              · exact hQ q (by simp [h])) (by simp only [List.map_append, List.map_cons, List.sum_append, List.sum_cons] at hN ⊢; omega) hDM hbD (fun q h => by
            rcases List.mem_append.1 h with h | h
            · exact hmx q (by simp [h])
            · rcases List.mem_cons.1 h with rfl | h
              · exact haD
              · exact hmx q (by simp [h])) (by simp only [kr_cons, kr_append] at hk ⊢; omega)
        refine ⟨d, Q', by rw [h3]; simp, h4, h5, h6, Nat.le_trans h7 ?_⟩
        have := exch (x := x) (u := u) (a := a) (D := D) (by omega) haD
        simp only [cost2_cons, cost2_append]; omega

/-! ### The lightest -/
structure Best (l : List Coin) (i : Nat) (c : Coin) : Prop where
  at_ : l[i]? = some c
  least : ∀ (j : Nat) (d : Coin), l[j]? = some d → c.wt ≤ d.wt
  first : ∀ (j : Nat) (d : Coin), j < i → l[j]? = some d → c.wt < d.wt
theorem Best.uniq {l : List Coin} {i j : Nat} {c d : Coin} (h : Best l i c) (k : Best l j d) : i = j ∧ c = d := by
  have : i = j := by
    rcases Nat.lt_trichotomy i j with h1 | h1 | h1
    · have := k.first i c h1 h.at_; have := h.least j d k.at_; omega
    · exact h1
    · have := h.first j d h1 k.at_; have := k.least i c h.at_; omega
  subst this
  exact ⟨rfl, Option.some.inj (h.at_.symm.trans k.at_)⟩
theorem Best.mem {l : List Coin} {i : Nat} {c : Coin} (h : Best l i c) : c ∈ l := List.mem_of_getElem? h.at_
theorem Best.perm {l : List Coin} {i : Nat} {c : Coin} (h : Best l i c) : l.Perm (c :: l.eraseIdx i) := by
  obtain ⟨hi, rfl⟩ := List.getElem?_eq_some_iff.1 h.at_
  have e : l = l.take i ++ l[i] :: l.drop (i + 1) := by rw [← List.drop_eq_getElem_cons hi, List.take_append_drop]
  rw [List.eraseIdx_eq_take_drop_succ]
  conv => lhs; rw [e]
  exact List.perm_middle
theorem Best.lt {l : List Coin} {i : Nat} {c : Coin} (h : Best l i c) : i < l.length := (List.getElem?_eq_some_iff.1 h.at_).1

/-- Rounds of joining: 'Joined l t w': of l comes the one tree t; w: what all the joined ones weigh. -/
inductive Joined : List Coin → Coin → Nat → Prop where
  | one (t : Coin) : Joined [t] t 0
  | two {l : List Coin} {i j : Nat} {c d t : Coin} {w : Nat} (h1 : Best l i c) (h2 : Best (l.eraseIdx i) j d) (h : Joined (((l.eraseIdx i).eraseIdx j) ++ [.pack c d]) t w) : Joined l t (c.wt + d.wt + w)

theorem split_at {f : Nat × Nat → Nat} {P : List (Nat × Nat)} {x : Nat} {R : List Nat} (h : (P.map f).Perm (x :: R)) : ∃ p Q, P.Perm (p :: Q) ∧ f p = x ∧ (Q.map f).Perm R := by
  have hx : x ∈ P.map f := h.symm.subset (by simp)
  obtain ⟨p, hp, rfl⟩ := List.mem_map.1 hx
  obtain ⟨s, t, rfl⟩ := List.append_of_mem hp
  refine ⟨p, s ++ t, List.perm_middle, rfl, ?_⟩
  have h1 : ((p :: (s ++ t)).map f).Perm (f p :: R) := ((List.perm_middle (a := p) (l₁ := s) (l₂ := t)).symm.map f).trans h
  exact (List.perm_cons _).1 h1

/-- Huffman's theorem. -/
theorem joined_least {M : Nat} {l : List Coin} {t : Coin} {w : Nat} (h : Joined l t w) : ∀ P : List (Nat × Nat), (P.map Prod.fst).Perm (l.map Coin.wt) → (∀ p ∈ P, p.2 ≤ M) → kr M P ≤ 2 ^ M → w ≤ cost2 P := by
  induction h with
  | one t => intro P _ _ _; exact Nat.zero_le _
  | @two l i j c d t w h1 h2 h ih =>
    intro P hP hM hk
    have p1 := h1.perm
    have p2 := h2.perm
    have pl : l.Perm (c :: d :: (l.eraseIdx i).eraseIdx j) := p1.trans (p2.cons _)
    have hP1 := hP.trans (pl.map Coin.wt)
    simp only [List.map_cons] at hP1
    obtain ⟨⟨x, a⟩, P1, q1, e1, r1⟩ := split_at hP1
    obtain ⟨⟨y, b⟩, Q, q2, e2, r2⟩ := split_at r1
    simp only at e1 e2
    have qq : P.Perm ((x, a) :: (y, b) :: Q) := q1.trans (q2.cons _)
    have hmem : ∀ p ∈ (x, a) :: (y, b) :: Q, p.2 ≤ M := fun p hp => hM p (qq.symm.subset hp)
    have hcd : c.wt ≤ d.wt := by
      obtain ⟨k, hk'⟩ := List.getElem?_of_mem (p1.symm.subset (List.mem_cons_of_mem _ h2.mem))
      exact h1.least k d hk'
    have hQ : ∀ q ∈ Q, d.wt ≤ q.1 := by
      intro q hq
      have hq1 : q.1 ∈ ((l.eraseIdx i).eraseIdx j).map Coin.wt := r2.subset (List.mem_map_of_mem hq)
      obtain ⟨u, hu, e⟩ := List.mem_map.1 hq1
      have hu2 : u ∈ l.eraseIdx i := p2.symm.subset (List.mem_cons_of_mem _ hu)
      obtain ⟨k, hk'⟩ := List.getElem?_of_mem hu2
      rw [← e]; exact h2.least k u hk'
    rw [kr_perm qq] at hk
    obtain ⟨D, Q', h3, h4, h5, h6, h7⟩ := join_two M (a + b + (Q.map Prod.snd).sum) x a y b Q (by omega) (fun q hq => by have := hQ q hq; omega) (Nat.le_refl _) (hmem (x, a) (by simp)) (hmem (y, b) (by simp)) (fun q hq => hmem q (by simp [hq])) hk
    have h8 := ih ((x + y, D) :: Q') (by
      rw [List.map_cons, h3, List.map_append]
      have : ((x + y) :: Q.map Prod.fst).Perm ((x + y) :: ((l.eraseIdx i).eraseIdx j).map Coin.wt) := r2.cons _
      refine this.trans ?_
      have e3 : [Coin.pack c d].map Coin.wt = [x + y] := by simp [Coin.wt, e1, e2]
      rw [e3]
      exact (List.perm_append_singleton _ _).symm) (fun p hp => by
        rcases List.mem_cons.1 hp with rfl | hp
        · exact h4
        · exact h5 p hp) h6
    rw [cost2_perm qq]
    omega

/-! ### The tree -/
/-- Its leaves with their depths. -/
def Coin.ents : Nat → Coin → List (Nat × Nat × Nat)
  | d, .leaf w s => [(w, s, d)]
  | d, .pack a b => a.ents (d + 1) ++ b.ents (d + 1)
def Coin.tcost : Coin → Nat
  | .leaf _ _ => 0
  | .pack a b => a.tcost + b.tcost + (a.wt + b.wt)
def Coin.ht : Coin → Nat
  | .leaf _ _ => 0
  | .pack a b => max a.ht b.ht + 1
/-- Its leaves. -/
def Coin.lv : Coin → List (Nat × Nat)
  | .leaf w s => [(w, s)]
  | .pack a b => a.lv ++ b.lv
theorem ents_lv (t : Coin) : ∀ d, (t.ents d).map (fun e => (e.1, e.2.1)) = t.lv := by
  induction t with
  | leaf w s => intro d; rfl
  | pack a b iha ihb => intro d; simp [Coin.ents, Coin.lv, iha, ihb]
theorem ents_cost (t : Coin) : ∀ d, ((t.ents d).map fun e => e.1 * e.2.2).sum = t.tcost + d * t.wt := by
  induction t with
  | leaf w s => intro d; simp [Coin.ents, Coin.tcost, Coin.wt, Nat.mul_comm]
  | pack a b iha ihb => intro d; simp only [Coin.ents, List.map_append, List.sum_append, iha, ihb, Coin.tcost, Coin.wt, Nat.add_mul, Nat.mul_add]; omega
theorem ents_ht (t : Coin) : ∀ d, ∀ e ∈ t.ents d, e.2.2 ≤ d + t.ht := by
  induction t with
  | leaf w s => intro d e he; simp [Coin.ents] at he; subst he; simp [Coin.ht]
  | pack a b iha ihb =>
    intro d e he
    simp only [Coin.ents, List.mem_append] at he
    rcases he with he | he
    · have := iha _ e he; simp only [Coin.ht]; omega
    · have := ihb _ e he; simp only [Coin.ht]; omega
theorem ents_kraft {M : Nat} (t : Coin) : ∀ d, d + t.ht ≤ M → ((t.ents d).map fun e => 2 ^ (M - e.2.2)).sum = 2 ^ (M - d) := by
  induction t with
  | leaf w s => intro d _; simp [Coin.ents]
  | pack a b iha ihb =>
    intro d h
    simp only [Coin.ht] at h
    simp only [Coin.ents, List.map_append, List.sum_append]
    rw [iha (d + 1) (by omega), ihb (d + 1) (by omega), show M - d = (M - (d + 1)) + 1 by omega, Nat.pow_succ]; omega
theorem lv_wt (t : Coin) : (t.lv.map Prod.fst).sum = t.wt := by
  induction t with
  | leaf w s => simp [Coin.lv, Coin.wt]
  | pack a b iha ihb => simp [Coin.lv, Coin.wt, iha, ihb]
theorem ents_pos (t : Coin) : ∀ d, (∃ a b, t = .pack a b) ∨ 1 ≤ d → ∀ e ∈ t.ents d, 1 ≤ e.2.2 := by
  induction t with
  | leaf w s => intro d h e he; simp [Coin.ents] at he; subst he; rcases h with ⟨a, b, h⟩ | h; (· cases h); (· exact h)
  | pack a b iha ihb =>
    intro d _ e he
    simp only [Coin.ents, List.mem_append] at he
    rcases he with he | he
    · exact iha (d + 1) (.inr (by omega)) e he
    · exact ihb (d + 1) (.inr (by omega)) e he

theorem joined_tcost {l : List Coin} {t : Coin} {w : Nat} (h : Joined l t w) : (l.map Coin.tcost).sum + w = t.tcost := by
  induction h with
  | one t => simp
  | @two l i j c d t w h1 h2 h ih =>
    have pl : l.Perm (c :: d :: (l.eraseIdx i).eraseIdx j) := h1.perm.trans (h2.perm.cons _)
    have e1 := (pl.map Coin.tcost).sum_nat
    simp only [List.map_cons, List.sum_cons] at e1
    simp only [List.map_append, List.sum_append, List.map_cons, List.map_nil, List.sum_cons, List.sum_nil, Coin.tcost] at ih
    omega
theorem joined_lv {l : List Coin} {t : Coin} {w : Nat} (h : Joined l t w) : (l.flatMap Coin.lv).Perm t.lv := by
  induction h with
  | one t => simp
  | @two l i j c d t w h1 h2 h ih =>
    have pl : l.Perm (c :: d :: (l.eraseIdx i).eraseIdx j) := h1.perm.trans (h2.perm.cons _)
    refine (pl.flatMap_right _).trans (List.Perm.trans ?_ ih)
    simp only [List.flatMap_cons, List.flatMap_append, List.flatMap_nil, List.append_nil, Coin.lv]
    rw [← List.append_assoc]
    exact List.perm_append_comm
theorem joined_pack {l : List Coin} {t : Coin} {w : Nat} (h : Joined l t w) : 2 ≤ l.length → ∃ a b, t = .pack a b := by
  induction h with
  | one t => intro h; simp at h
  | @two l i j c d t w h1 h2 h ih =>
    intro _
    by_cases hl : 2 ≤ (((l.eraseIdx i).eraseIdx j) ++ [Coin.pack c d]).length
    · exact ih hl
    · have : (l.eraseIdx i).eraseIdx j = [] := List.eq_nil_of_length_eq_zero (by simp at hl; simp; omega)
      rw [this] at h
      cases h with
      | one => exact ⟨c, d, rfl⟩
      | two h1 h2 _ =>
        have a1 := h1.lt
        have a2 := h2.lt
        rw [List.length_eraseIdx_of_lt a1] at a2
        exact absurd a2 (by simp)

/-! ### How deep -/
def fib : Nat → Nat
  | 0 => 0
  | 1 => 1
  | n + 2 => fib (n + 1) + fib n
def Coin.big : Coin → Nat
  | .leaf _ _ => 0
  | .pack a b => max a.wt b.wt
structure FibOk (l : List Coin) (t : Coin) : Prop where
  wt : fib (t.ht + 2) ≤ t.wt
  big : t.ht = 0 ∨ fib (t.ht + 1) ≤ t.big
  low : ∀ u ∈ l, t.big ≤ u.wt
theorem fib_step (n : Nat) : fib (n + 2) = fib (n + 1) + fib n := rfl
theorem joined_fib {l : List Coin} {t : Coin} {w : Nat} (h : Joined l t w) : (∀ u ∈ l, FibOk l u) → fib (t.ht + 2) ≤ t.wt := by
  induction h with
  | one t => intro h; exact (h t (by simp)).wt
  | @two l i j c d t w h1 h2 h ih =>
    intro hl
    have pl : l.Perm (c :: d :: (l.eraseIdx i).eraseIdx j) := h1.perm.trans (h2.perm.cons _)
    have hc : c ∈ l := h1.mem
    have hd : d ∈ l := pl.symm.subset (by simp)
    have fc := hl c hc
    have fd := hl d hd
    have hcd : c.wt ≤ d.wt := by obtain ⟨k, hk⟩ := List.getElem?_of_mem hd; exact h1.least k d hk
    have hrest : ∀ u ∈ (l.eraseIdx i).eraseIdx j, u ∈ l ∧ d.wt ≤ u.wt := by
      intro u hu
      have hu2 : u ∈ l.eraseIdx i := h2.perm.symm.subset (List.mem_cons_of_mem _ hu)
      obtain ⟨k, hk⟩ := List.getElem?_of_mem hu2
      exact ⟨pl.symm.subset (by simp [hu]), h2.least k u hk⟩
    have key : ∀ x y : Coin, FibOk l x → FibOk l y → y ∈ l → y.ht ≤ x.ht → fib (x.ht + 1 + 2) ≤ x.wt + y.wt := by
      intro x y fx fy hy hh
      have e : fib (x.ht + 1 + 2) = fib (x.ht + 2) + fib (x.ht + 1) := rfl
      have := fx.wt
      have h3 := fx.low y hy
      rcases fx.big with h0 | h0
      · have h4 : y.ht = 0 := by omega
        have h5 := fy.wt
        rw [h4] at h5
        rw [e, h0]
        rw [h0] at this
        have e2 : fib (0 + 2) = 1 := rfl
        have e3 : fib (0 + 1) = 1 := rfl
        omega
      · omega
    apply ih
    intro u hu
    rcases List.mem_append.1 hu with hu | hu
    · obtain ⟨hul, _⟩ := hrest u hu
      refine ⟨(hl u hul).wt, (hl u hul).big, fun v hv => ?_⟩
      rcases List.mem_append.1 hv with hv | hv
      · exact (hl u hul).low v (hrest v hv).1
      · simp at hv; subst hv
        have := (hl u hul).low c hc
        simp only [Coin.wt]; omega
    · simp at hu; subst hu
      refine ⟨?_, .inr ?_, fun v hv => ?_⟩
      · simp only [Coin.ht, Coin.wt]
        rcases Nat.le_total d.ht c.ht with hh | hh
        · rw [Nat.max_eq_left hh]; exact key c d fc fd hd hh
        · rw [Nat.max_eq_right hh, Nat.add_comm c.wt]; exact key d c fd fc hc hh
      · simp only [Coin.ht, Coin.big]
        rcases Nat.le_total d.ht c.ht with hh | hh
        · rw [Nat.max_eq_left hh]; exact Nat.le_trans fc.wt (Nat.le_max_left _ _)
        · rw [Nat.max_eq_right hh]; exact Nat.le_trans fd.wt (Nat.le_max_right _ _)
      · simp only [Coin.big]
        rcases List.mem_append.1 hv with hv | hv
        · have := (hrest v hv).2; omega
        · simp at hv; subst hv; simp only [Coin.wt]; omega
theorem fib_mono {m n : Nat} (h : m ≤ n) : fib m ≤ fib n := by
  have step : ∀ k, fib k ≤ fib (k + 1) := by
    intro k
    cases k with
    | zero => decide
    | succ k => rw [fib_step]; omega
  induction n with
  | zero => have : m = 0 := by omega
            subst this; exact Nat.le_refl _
  | succ n ih =>
    by_cases e : m = n + 1
    · subst e; exact Nat.le_refl _
    · exact Nat.le_trans (ih (by omega)) (step n)
def fibP : Nat → Nat × Nat
  | 0 => (0, 1)
  | n + 1 => let p := fibP n; (p.2, p.1 + p.2)
theorem fibP_eq (n : Nat) : fibP n = (fib n, fib (n + 1)) := by
  induction n with
  | zero => rfl
  | succ n ih =>
    simp only [fibP, ih]
    rw [fib_step, Nat.add_comm (fib n)]
theorem fib_60 : fib 60 = 1548008755920 := by
  have h := fibP_eq 60
  have h2 : fibP 60 = (1548008755920, 2504730781961) := by decide
  rw [h2] at h
  exact (Prod.mk.inj h).1.symm
theorem ht_le {t : Coin} (h : fib (t.ht + 2) ≤ t.wt) (hw : t.wt ≤ 1236950581248) : t.ht ≤ 57 := by
  apply Nat.le_of_not_lt
  intro hlt
  have := fib_mono (m := 60) (n := t.ht + 2) (by omega)
  rw [fib_60] at this
  omega

/-! ### The lengths by the symbols' places -/
/-- The depths of all leaves of that symbol. -/
def depth (i : Nat) (t : Coin) : Nat := ((t.ents 0).filterMap fun e => if e.2.1 = i then some e.2.2 else none).sum
theorem ents_places {t : Coin} {w sy : Nat → Nat} {n : Nat} (hs : ∀ i j, i < n → j < n → sy i = sy j → i = j) (h : (t.lv).Perm ((List.range n).map fun j => (w j, sy j))) :
    (t.ents 0).Perm ((List.range n).map fun j => (w j, sy j, depth (sy j) t)) := by
  have hl := ents_lv t 0
  -- symbols stand once
  have nd0 : ((List.range n).map fun j => sy j).Nodup := by
    unfold List.Nodup
    rw [List.pairwise_map]
    refine List.Pairwise.imp_of_mem ?_ (List.pairwise_lt_range (n := n))
    intro a b ha hb hab e
    have := hs a b (List.mem_range.1 ha) (List.mem_range.1 hb) e
    omega
  have nd : ((t.ents 0).map fun e => e.2.1).Nodup := by
    have e1 : (t.ents 0).map (fun e => e.2.1) = t.lv.map Prod.snd := by rw [← hl, List.map_map]; rfl
    have e2 : (t.lv.map Prod.snd).Perm ((List.range n).map fun j => sy j) := by
      have := h.map Prod.snd
      rw [List.map_map] at this
      exact this
    rw [e1]
    exact e2.nodup_iff.2 nd0
  have each : ∀ (E : List (Nat × Nat × Nat)), (E.map fun e => e.2.1).Nodup → ∀ e ∈ E, (E.filterMap fun x => if x.2.1 = e.2.1 then some x.2.2 else none).sum = e.2.2 := by
    intro E
    induction E with
    | nil => intro _ e he; cases he
    | cons x E ih =>
      intro hn e he
      simp only [List.map_cons, List.nodup_cons] at hn
      rcases List.mem_cons.1 he with rfl | he
      · have : E.filterMap (fun x => if x.2.1 = e.2.1 then some x.2.2 else none) = [] := by
          rw [List.filterMap_eq_nil_iff]
          intro y hy
          rw [if_neg]
          intro e'
          exact hn.1 (List.mem_map.2 ⟨y, hy, e'⟩)
        rw [List.filterMap_cons_some (b := e.2.2) (by simp), this]; simp
      · rw [List.filterMap_cons_none (by
          rw [if_neg]; intro e'
          exact hn.1 (List.mem_map.2 ⟨e, he, e'.symm⟩))]
        exact ih hn.2 e he
  have e3 : t.ents 0 = (t.lv).map fun p => (p.1, p.2, depth p.2 t) := by
    rw [← hl, List.map_map]
    have : (t.ents 0).map ((fun p : Nat × Nat => (p.1, p.2, depth p.2 t)) ∘ fun e : Nat × Nat × Nat => (e.1, e.2.1)) = (t.ents 0).map id := by
      refine List.map_congr_left fun e he => ?_
      simp only [Function.comp, id]
      rw [depth, each _ nd e he]
    rw [this, List.map_id]
  rw [e3]
  have := h.map fun p => (p.1, p.2, depth p.2 t)
  rw [List.map_map] at this
  exact this
theorem sum_range (n : Nat) (f : Nat → Nat) : ((List.range n).map f).sum = sumN n f := by
  induction n with
  | zero => rfl
  | succ n ih => simp [List.range_succ, sumN, ih]

/-- Huffman's theorem, by places. -/
theorem huffman {w sy : Nat → Nat} {n : Nat} (hs : ∀ i j, i < n → j < n → sy i = sy j → i = j) (hn : 2 ≤ n) (hpos : ∀ j, j < n → 0 < w j) (htot : sumN n w ≤ 1236950581248) {t : Coin} {W : Nat} (h : Joined (lvs w sy n) t W) :
    (∀ j, j < n → 1 ≤ depth (sy j) t ∧ depth (sy j) t ≤ 57) ∧ (∀ M, 57 ≤ M → kraftN n M (fun j => depth (sy j) t) = 2 ^ M) ∧
      ∀ (M : Nat) (l : Nat → Nat), (∀ j, j < n → l j ≤ M) → kraftN n M l ≤ 2 ^ M → sumN n (fun j => w j * depth (sy j) t) ≤ sumN n (fun j => w j * l j) := by
  have elv : (lvs w sy n).flatMap Coin.lv = (List.range n).map fun j => (w j, sy j) := by
    unfold lvs
    rw [List.flatMap_map]
    simp only [Coin.lv]
    generalize List.range n = R
    induction R with
    | nil => rfl
    | cons a R ih => simp [List.flatMap_cons, ih]
  have hlv := joined_lv h
  rw [elv] at hlv
  have pe := ents_places hs hlv.symm
  have hwt : t.wt = sumN n w := by
    rw [← lv_wt t, ← (hlv.map Prod.fst).sum_nat, List.map_map, ← sum_range]; rfl
  have fi : ∀ u ∈ lvs w sy n, FibOk (lvs w sy n) u := by
    intro u hu
    obtain ⟨j, hj, rfl⟩ := List.mem_map.1 hu
    refine ⟨?_, .inl rfl, fun v _ => Nat.zero_le _⟩
    have := hpos j (List.mem_range.1 hj)
    simp only [Coin.ht, Coin.wt]
    have e : fib (0 + 2) = 1 := rfl
    omega
  have hht := ht_le (joined_fib h fi) (by omega)
  have entmem : ∀ j, j < n → (w j, sy j, depth (sy j) t) ∈ t.ents 0 := fun j hj => pe.symm.subset (List.mem_map.2 ⟨j, List.mem_range.2 hj, rfl⟩)
  refine ⟨fun j hj => ⟨ents_pos t 0 (.inl (joined_pack h (by rw [lvs_length]; exact hn))) _ (entmem j hj), ?_⟩, fun M hM => ?_, fun M l hl hk => ?_⟩
  · have := ents_ht t 0 _ (entmem j hj); simp only at this; omega
  · have h1 := ents_kraft (M := M) t 0 (by omega)
    rw [(pe.map fun e => 2 ^ (M - e.2.2)).sum_nat, List.map_map] at h1
    unfold kraftN
    rw [← sum_range]
    exact h1
  · have h1 := ents_cost t 0
    rw [(pe.map fun e => e.1 * e.2.2).sum_nat, List.map_map] at h1
    have h2 := joined_tcost h
    have h3 : ((lvs w sy n).map Coin.tcost).sum = 0 := by
      unfold lvs
      rw [List.map_map, sum_range]
      exact sumN_zero fun j _ => rfl
    have h4 := joined_least h (M := M) ((List.range n).map fun j => (w j, l j)) (by
      unfold lvs
      rw [List.map_map, List.map_map]
      exact List.Perm.refl _) (fun p hp => by
        obtain ⟨j, hj, rfl⟩ := List.mem_map.1 hp
        exact hl j (List.mem_range.1 hj)) (by
        unfold kr
        rw [List.map_map, sum_range]
        exact hk)
    unfold cost2 at h4
    rw [List.map_map, sum_range] at h4
    have h5 : sumN n (fun j => w j * depth (sy j) t) = t.tcost + 0 * t.wt := by rw [← h1, ← sum_range]; rfl
    have h6 : sumN n ((fun p : Nat × Nat => p.1 * p.2) ∘ fun j => (w j, l j)) = sumN n (fun j => w j * l j) := rfl
    omega
end Go.V
