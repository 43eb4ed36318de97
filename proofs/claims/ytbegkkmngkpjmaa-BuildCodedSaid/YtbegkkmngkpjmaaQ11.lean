/- What a list of code lengths must be: for the plain laws of layer 6. -/
import Derived.Test.YtbegkkmngkpjmaaQ10
set_option linter.unusedVariables false
set_option linter.unusedSimpArgs false
namespace Go.V
open Go
/-- A sum over the used symbols. -/
def sumU (a : List Int) (F : Nat → Nat) : Nat := sumN a.length fun i => if 0 < rd a (i : Int) then F i else 0
def costU (a : List Int) (l : Nat → Nat) : Nat := sumU a fun i => (rd a (i : Int)).toNat * l i
def used (a : List Int) (i : Nat) : Prop := i < a.length ∧ 0 < rd a (i : Int)
theorem sumU_eq {a : List Int} {F G : Nat → Nat} (h : ∀ i, used a i → F i = G i) : sumU a F = sumU a G := sumN_eq fun i hi => by
  by_cases c : 0 < rd a (i : Int)
  · rw [if_pos c, if_pos c, h i ⟨hi, c⟩]
  · rw [if_neg c, if_neg c]
theorem sumU_le {a : List Int} {F G : Nat → Nat} (h : ∀ i, used a i → F i ≤ G i) : sumU a F ≤ sumU a G := sumN_le fun i hi => by
  by_cases c : 0 < rd a (i : Int)
  · rw [if_pos c, if_pos c]; exact h i ⟨hi, c⟩
  · rw [if_neg c, if_neg c]; exact Nat.le_refl _
theorem sumU_mul (a : List Int) (F : Nat → Nat) (c : Nat) : sumU a (fun i => F i * c) = sumU a F * c := by
  unfold sumU
  rw [← sumN_mul]
  refine sumN_eq fun i _ => ?_
  split <;> simp
theorem sumU_up (a : List Int) (F : Nat → Nat) : ∀ m, ((upS a m).map fun x => F x.toNat).sum = sumN m fun i => if 0 < rd a (i : Int) then F i else 0 := by
  intro m
  induction m with
  | zero => rfl
  | succ m ih =>
    rw [upS_succ, List.map_append, List.sum_append, ih]
    simp only [sumN]
    by_cases c : 0 < rd a (m : Int)
    · rw [if_pos c, if_pos c]; simp
    · rw [if_neg c, if_neg c]; simp
theorem sumU_us (a : List Int) (F : Nat → Nat) : ((uS a).map fun x => F x.toNat).sum = sumU a F := sumU_up a F a.length
theorem sum_list (l : List Int) (F : Nat → Nat) : sumN l.length (fun j => F (l.getD j 0).toNat) = (l.map fun x => F x.toNat).sum := by
  rw [← sum_range]
  congr 1
  refine List.ext_getElem (by simp) fun i h1 h2 => ?_
  simp at h1
  simp [h1]
theorem getD_at {l : List Int} {j : Nat} (h : j < l.length) : l.getD j 0 = l[j] := by simp [h]
/-- The symbol in that place of the order. -/
def syS (a : List Int) (j : Nat) : Nat := ((srt a).getD j 0).toNat
theorem sumU_srt (a : List Int) (F : Nat → Nat) : sumU a F = sumN (uS a).length fun j => F (syS a j) := by
  rw [← srt_len]
  show _ = sumN (srt a).length (fun j => F ((srt a).getD j 0).toNat)
  rw [sum_list, ← sumU_us]
  exact (((srt_perm a).map _).sum_nat).symm
theorem syS_used {a : List Int} {j : Nat} (h : j < (uS a).length) : used a (syS a j) ∧ (srt a).getD j 0 = (syS a j : Int) := by
  rw [← srt_len] at h
  have hm : (srt a).getD j 0 ∈ srt a := by rw [getD_at h]; exact List.getElem_mem h
  obtain ⟨i, hi, h1, h2⟩ := srt_mem hm
  have e : syS a j = i := by unfold syS; rw [hi, Int.toNat_natCast]
  rw [e]
  rw [hi] at h2
  exact ⟨⟨h1, h2⟩, hi⟩
theorem syS_one {a : List Int} {i j : Nat} (hi : i < (uS a).length) (hj : j < (uS a).length) (h : syS a i = syS a j) : i = j := by
  have h1 := (syS_used hi).2
  have h2 := (syS_used hj).2
  rw [h, ← h2] at h1
  rw [← srt_len] at hi hj
  have hs := srt_sorted a
  rw [getD_at hi, getD_at hj] at h1
  rcases Nat.lt_trichotomy i j with c | c | c
  · have := List.pairwise_iff_getElem.1 hs i j hi hj c
    rw [h1] at this; exact (kle_asym this this).elim
  · exact c
  · have := List.pairwise_iff_getElem.1 hs j i hj hi c
    rw [h1] at this; exact (kle_asym this this).elim
theorem syS_of {a : List Int} {i : Nat} (h : used a i) : ∃ j, j < (uS a).length ∧ syS a j = i := by
  have hm := (srt_perm a).symm.subset (uS_of h.1 h.2)
  obtain ⟨j, hj, e⟩ := List.mem_iff_getElem.1 hm
  refine ⟨j, by rw [← srt_len]; exact hj, ?_⟩
  unfold syS
  rw [getD_at hj, e, Int.toNat_natCast]
theorem syS_kle {a : List Int} {i j : Nat} (hj : j < (uS a).length) (h : i < j) : kle a (syS a i : Int) (syS a j : Int) := by
  have h1 := (syS_used (a := a) (j := i) (by omega)).2
  have h2 := (syS_used hj).2
  have hi' : i < (srt a).length := by rw [srt_len]; omega
  have hj' : j < (srt a).length := by rw [srt_len]; omega
  have := List.pairwise_iff_getElem.1 (srt_sorted a) i j hi' hj' h
  rw [← h1, ← h2, getD_at hi', getD_at hj']
  exact this
/-- Of a code that is best: all that is asked. -/
structure BestCode (a : List Int) (lim : Nat) (L : Nat → Nat) : Prop where
  zero : ∀ i, i < a.length → ¬ 0 < rd a (i : Int) → L i = 0
  low : ∀ i, used a i → 1 ≤ L i
  high : ∀ i, used a i → L i ≤ lim
  full : sumU a (fun i => 2 ^ (60 - L i)) = 2 ^ 60
  best : ∀ l : Nat → Nat, (∀ i, used a i → l i ≤ lim) → sumU a (fun i => 2 ^ (60 - l i)) ≤ 2 ^ 60 → costU a L ≤ costU a l
theorem cnt_none {i : Nat} {P : Nat → Prop} : ∀ {c : Coin}, (∀ x ∈ c.sy, P x.toNat) → ¬ P i → c.cnt i = 0
  | .leaf w s, h, hn => by
    have := h (s : Int) (by simp [Coin.sy])
    rw [Int.toNat_natCast] at this
    show (if s = i then 1 else 0) = 0
    by_cases e : s = i
    · subst e; exact (hn this).elim
    · rw [if_neg e]
  | .pack a b, h, hn => by
    simp only [Coin.cnt]
    rw [cnt_none (fun x hx => h x (by simp [Coin.sy, hx])) hn, cnt_none (fun x hx => h x (by simp [Coin.sy, hx])) hn]
theorem prow_sy {P : Nat → Prop} {L : List Coin} (h : ∀ c ∈ L, ∀ x ∈ c.sy, P x.toNat) : ∀ r, ∀ c ∈ prow L r, ∀ x ∈ c.sy, P x.toNat := by
  intro r
  induction r with
  | zero => exact h
  | succ r ih =>
    intro c hc x hx
    rw [prow] at hc
    rcases (mem_mrg _ _).1 hc with hc | hc
    · exact h c hc x hx
    · obtain ⟨a, b, rfl, ha, hb⟩ := mem_packs hc
      simp only [Coin.sy, List.mem_append] at hx
      rcases hx with hx | hx
      · exact ih a ha x hx
      · exact ih b hb x hx
theorem csum_none {i : Nat} {P : Nat → Prop} {l : List Coin} (h : ∀ c ∈ l, ∀ x ∈ c.sy, P x.toNat) (hn : ¬ P i) : csum i l = 0 := by
  induction l with
  | nil => rfl
  | cons c l ih => rw [csum_cons, cnt_none (h c (by simp)) hn, ih fun d hd => h d (by simp [hd])]
def limF (a : List Int) (lim : Nat) (i : Nat) : Nat := csum i ((rowP a lim).take (2 * (uS a).length - 2))
theorem limL_eq (a : List Int) (lim : Nat) : limL a lim = lf a.length (limF a lim) := rfl
theorem pow_sub {l lim : Nat} (h : lim ≤ 60) (hl : l ≤ lim) : 2 ^ (60 - l) = 2 ^ (lim - l) * 2 ^ (60 - lim) := by
  rw [← Nat.pow_add]; congr 1; omega
theorem lim_core (a : List Int) (lim : Nat) (h1 : 1 ≤ lim) (h2 : lim ≤ 60) (hu : 2 ≤ (uS a).length) (hl : (uS a).length ≤ 2 ^ lim) :
    BestCode a lim (limF a lim) ∧ ∀ i j, i ≤ j → j < (uS a).length → limF a lim (syS a j) ≤ limF a lim (syS a i) := by
  have ew : ∀ j, j < (uS a).length → (rd a ((srt a).getD j 0)).toNat = (rd a (syS a j : Int)).toNat := fun j hj => by rw [(syS_used hj).2]
  obtain ⟨c, c1, c2, c3, c4, c5⟩ := collector (w := fun j => (rd a ((srt a).getD j 0)).toNat) (sy := syS a) (n := (uS a).length) (r := lim - 1)
    (fun i j hij hj => by
      show (rd a ((srt a).getD i 0)).toNat ≤ (rd a ((srt a).getD j 0)).toNat
      rcases Nat.lt_or_ge i j with c | c
      · rw [ew i (by omega), ew j hj]
        have := syS_kle hj c
        unfold kle at this; omega
      · obtain rfl : i = j := by omega
        exact Nat.le_refl _)
    (fun j hj => by
      show 0 < (rd a ((srt a).getD j 0)).toNat
      rw [ew j hj]
      have := (syS_used hj).1.2; omega)
    (fun i j hi hj h => syS_one hi hj h) hu (by rw [show lim - 1 + 1 = lim by omega]; exact hl)
  rw [show lim - 1 + 1 = lim by omega] at c2 c4 c5
  have eL : ∀ j, j < (uS a).length → limF a lim (syS a j) = c j := fun j hj => by
    unfold limF rowP
    rw [clS_lvs]
    exact c1 j hj
  have hk : ∀ l : Nat → Nat, (∀ i, used a i → l i ≤ lim) → sumU a (fun i => 2 ^ (60 - l i)) = kraftN (uS a).length lim (fun j => l (syS a j)) * 2 ^ (60 - lim) := fun l h => by
    rw [sumU_srt]
    unfold kraftN
    rw [← sumN_mul]
    exact sumN_eq fun j hj => pow_sub h2 (h _ (syS_used hj).1)
  have ep : (2 : Nat) ^ 60 = 2 ^ lim * 2 ^ (60 - lim) := by rw [← Nat.pow_add]; congr 1; omega
  have hc : ∀ l : Nat → Nat, costU a l = sumN (uS a).length (fun j => (rd a ((srt a).getD j 0)).toNat * l (syS a j)) := fun l => by
    unfold costU
    rw [sumU_srt]
    exact sumN_eq fun j hj => by rw [ew j hj]
  have high : ∀ i, used a i → limF a lim i ≤ lim := fun i hi => by
    obtain ⟨j, hj, rfl⟩ := syS_of hi
    rw [eL j hj]; exact (c2 j hj).2
  refine ⟨⟨fun i hi hn => ?_, fun i hi => ?_, high, ?_, fun l hl2 hk2 => ?_⟩, fun i j hij hj => ?_⟩
  · unfold limF
    refine csum_none (P := fun i => 0 < rd a (i : Int)) (fun d hd x hx => ?_) hn
    refine prow_sy (P := fun i => 0 < rd a (i : Int)) (fun d hd x hx => ?_) (lim - 1) d (List.mem_of_mem_take hd) x hx
    obtain ⟨s, hs, rfl⟩ := List.mem_map.1 hd
    obtain ⟨k, rfl, hk, hp⟩ := srt_mem hs
    simp only [Coin.sy, List.mem_singleton] at hx
    subst hx
    simpa using hp
  · obtain ⟨j, hj, rfl⟩ := syS_of hi
    rw [eL j hj]; exact (c2 j hj).1
  · rw [hk _ high, ep]
    congr 1
    rw [← c4]
    unfold kraftN
    exact sumN_eq fun j hj => by show 2 ^ (lim - limF a lim (syS a j)) = _; rw [eL j hj]
  · rw [hc, hc]
    rw [hk l hl2, ep] at hk2
    have := c5 (fun j => l (syS a j)) (fun j hj => hl2 _ (syS_used hj).1) (Nat.le_of_mul_le_mul_right hk2 (Nat.pow_pos (by omega)))
    refine Nat.le_trans (Nat.le_of_eq (sumN_eq fun j hj => by rw [eL j hj])) this
  · rw [eL i (by omega), eL j hj]; exact c3 i j hij hj
end Go.V
