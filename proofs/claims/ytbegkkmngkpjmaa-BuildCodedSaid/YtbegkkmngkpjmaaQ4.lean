/- Coins, packages and merges: the coin collector's theorem: for the plain laws. -/
import Derived.Test.YtbegkkmngkpjmaaQ1
set_option linter.unusedVariables false
set_option linter.unusedSimpArgs false
namespace Go.V
open Go

/-! ### Sums -/
def sumN : Nat → (Nat → Nat) → Nat
  | 0, _ => 0
  | n + 1, f => sumN n f + f n
theorem sumN_le {n : Nat} {f g : Nat → Nat} (h : ∀ j, j < n → f j ≤ g j) : sumN n f ≤ sumN n g := by
  induction n with
  | zero => exact Nat.le_refl _
  | succ n ih =>
    have h1 := ih fun j hj => h j (by omega)
    have h2 := h n (by omega)
    simp only [sumN]; omega
theorem sumN_eq {n : Nat} {f g : Nat → Nat} (h : ∀ j, j < n → f j = g j) : sumN n f = sumN n g := by
  induction n with
  | zero => rfl
  | succ n ih =>
    have h1 := ih fun j hj => h j (by omega)
    have h2 := h n (by omega)
    simp only [sumN]; omega
theorem sumN_add (n : Nat) (f g : Nat → Nat) : sumN n (fun j => f j + g j) = sumN n f + sumN n g := by
  induction n with
  | zero => rfl
  | succ n ih => simp only [sumN, ih]; omega
theorem sumN_const (n c : Nat) : sumN n (fun _ => c) = n * c := by
  induction n with
  | zero => simp [sumN]
  | succ n ih => simp only [sumN, ih]; rw [Nat.add_mul]; omega
theorem sumN_mul (n c : Nat) (f : Nat → Nat) : sumN n (fun j => f j * c) = sumN n f * c := by
  induction n with
  | zero => simp [sumN]
  | succ n ih => simp only [sumN, ih, Nat.add_mul]
theorem sumN_zero {n : Nat} {f : Nat → Nat} (h : ∀ j, j < n → f j = 0) : sumN n f = 0 := by
  rw [sumN_eq (g := fun _ => 0) h, sumN_const]; omega
theorem sumN_get {n : Nat} {f : Nat → Nat} {i : Nat} (hi : i < n) : f i ≤ sumN n f := by
  induction n with
  | zero => omega
  | succ n ih =>
    simp only [sumN]
    by_cases h : i = n
    · subst h; omega
    · have := ih (by omega); omega
theorem sumN_get2 {n : Nat} {f : Nat → Nat} {i j : Nat} (hi : i < n) (hj : j < n) (hij : i ≠ j) : f i + f j ≤ sumN n f := by
  induction n with
  | zero => omega
  | succ n ih =>
    simp only [sumN]
    by_cases h : i = n
    · subst h
      have := sumN_get (f := f) (n := i) (i := j) (by omega); omega
    · by_cases h2 : j = n
      · subst h2
        have := sumN_get (f := f) (n := j) (i := i) (by omega); omega
      · have := ih (by omega) (by omega); omega
/-- One entry is turned. -/
theorem sumN_turn {n : Nat} {f g : Nat → Nat} {i : Nat} (hi : i < n) (h : ∀ j, j < n → j ≠ i → g j = f j) : sumN n g + f i = sumN n f + g i := by
  induction n with
  | zero => omega
  | succ n ih =>
    simp only [sumN]
    by_cases e : i = n
    · subst e
      have := sumN_eq (n := i) (f := g) (g := f) fun j hj => h j (by omega) (by omega)
      omega
    · have h1 := ih (by omega) fun j hj hji => h j (by omega) hji
      have h2 := h n (by omega) (fun e' => e e'.symm)
      omega
theorem sumN_dvd {n d : Nat} {f : Nat → Nat} (h : ∀ j, j < n → d ∣ f j) : d ∣ sumN n f := by
  induction n with
  | zero => exact Nat.dvd_zero _
  | succ n ih => exact Nat.dvd_add (ih fun j hj => h j (by omega)) (h n (by omega))
/-- Of a rising row the first ones are the least. -/
theorem sumN_first {w : Nat → Nat} : ∀ {n : Nat} {b : Nat → Nat}, (∀ i j, i ≤ j → j < n → w i ≤ w j) → (∀ j, j < n → b j ≤ 1) → sumN n b ≤ n ∧ sumN (sumN n b) w ≤ sumN n (fun j => b j * w j) := by
  intro n
  induction n with
  | zero => intro b _ _; exact ⟨Nat.le_refl _, Nat.le_refl _⟩
  | succ n ih =>
    intro b hw hb
    obtain ⟨h1, h2⟩ := ih (b := b) (fun i j hij hj => hw i j hij (by omega)) (fun j hj => hb j (by omega))
    have h3 := hb n (by omega)
    simp only [sumN]
    refine ⟨by omega, ?_⟩
    rcases Nat.le_one_iff_eq_zero_or_eq_one.1 h3 with h | h
    · rw [h]; simpa using h2
    · rw [h]
      have := hw (sumN n b) n h1 (by omega)
      simp only [sumN, Nat.one_mul]; omega

/-! ### Coins -/
inductive Coin where
  | leaf (w s : Nat)
  | pack (a b : Coin)
def Coin.wt : Coin → Nat
  | .leaf w _ => w
  | .pack a b => a.wt + b.wt
/-- How often a symbol stands in it. -/
def Coin.cnt (i : Nat) : Coin → Nat
  | .leaf _ s => if s = i then 1 else 0
  | .pack a b => a.cnt i + b.cnt i
def wsum (l : List Coin) : Nat := (l.map Coin.wt).sum
def csum (i : Nat) (l : List Coin) : Nat := (l.map (Coin.cnt i)).sum
theorem wsum_cons (a : Coin) (l : List Coin) : wsum (a :: l) = a.wt + wsum l := by simp [wsum]
theorem csum_cons (i : Nat) (a : Coin) (l : List Coin) : csum i (a :: l) = a.cnt i + csum i l := by simp [csum]
theorem wsum_nil : wsum [] = 0 := rfl
theorem csum_nil (i : Nat) : csum i [] = 0 := rfl
theorem wsum_append (l m : List Coin) : wsum (l ++ m) = wsum l + wsum m := by simp [wsum]
theorem csum_append (i : Nat) (l m : List Coin) : csum i (l ++ m) = csum i l + csum i m := by simp [csum]

def packs : List Coin → List Coin
  | a :: b :: l => .pack a b :: packs l
  | _ => []
def mrg : List Coin → List Coin → List Coin
  | [], q => q
  | p, [] => p
  | a :: p, b :: q => if a.wt ≤ b.wt then a :: mrg p (b :: q) else b :: mrg (a :: p) q
termination_by p q => p.length + q.length
theorem mrg_nil (q : List Coin) : mrg [] q = q := by rw [mrg]
theorem mrg_nil' (p : List Coin) : mrg p [] = p := by cases p <;> rw [mrg]; simp
theorem mrg_cons (a b : Coin) (p q : List Coin) : mrg (a :: p) (b :: q) = if a.wt ≤ b.wt then a :: mrg p (b :: q) else b :: mrg (a :: p) q := by rw [mrg]
def prow (L : List Coin) : Nat → List Coin
  | 0 => L
  | r + 1 => mrg L (packs (prow L r))

def Ris (l : List Coin) : Prop := l.Pairwise fun a b => a.wt ≤ b.wt

theorem packs_length : ∀ l : List Coin, (packs l).length = l.length / 2
  | [] => rfl
  | [_] => by simp [packs]
  | a :: b :: l => by simp only [packs, List.length_cons, packs_length l]; omega
theorem mrg_length (p q : List Coin) : (mrg p q).length = p.length + q.length := by
  induction p, q using mrg.induct with
  | case1 q => rw [mrg_nil]; simp
  | case2 p h => rw [mrg_nil']; simp
  | case3 a p b q h ih => rw [mrg_cons, if_pos h, List.length_cons, ih]; simp; omega
  | case4 a p b q h ih => rw [mrg_cons, if_neg h, List.length_cons, ih]; simp; omega
theorem mem_mrg {x : Coin} (p q : List Coin) : x ∈ mrg p q ↔ x ∈ p ∨ x ∈ q := by
  induction p, q using mrg.induct with
  | case1 q => rw [mrg_nil]; simp
  | case2 p h => rw [mrg_nil']; simp
  | case3 a p b q h ih => rw [mrg_cons, if_pos h, List.mem_cons, ih]; simp only [List.mem_cons]; grind
  | case4 a p b q h ih => rw [mrg_cons, if_neg h, List.mem_cons, ih]; simp only [List.mem_cons]; grind
theorem mrg_ris {p q : List Coin} (hp : Ris p) (hq : Ris q) : Ris (mrg p q) := by
  unfold Ris at *
  induction p, q using mrg.induct with
  | case1 q => rw [mrg_nil]; exact hq
  | case2 p h => rw [mrg_nil']; exact hp
  | case3 a p b q h ih =>
    rw [mrg_cons, if_pos h]
    rw [List.pairwise_cons] at hp
    refine List.pairwise_cons.2 ⟨fun x hx => ?_, ih hp.2 hq⟩
    rcases (mem_mrg _ _).1 hx with hx | hx
    · exact hp.1 x hx
    · rcases List.mem_cons.1 hx with rfl | hx
      · exact h
      · have := (List.pairwise_cons.1 hq).1 x hx; omega
  | case4 a p b q h ih =>
    rw [mrg_cons, if_neg h]
    rw [List.pairwise_cons] at hq
    refine List.pairwise_cons.2 ⟨fun x hx => ?_, ih hp hq.2⟩
    rcases (mem_mrg _ _).1 hx with hx | hx
    · rcases List.mem_cons.1 hx with rfl | hx
      · omega
      · have := (List.pairwise_cons.1 hp).1 x hx; omega
    · exact hq.1 x hx
theorem mem_packs {x : Coin} : ∀ {l : List Coin}, x ∈ packs l → ∃ a b, x = .pack a b ∧ a ∈ l ∧ b ∈ l
  | [], h => by cases h
  | [_], h => by cases h
  | a :: b :: l, h => by
    simp only [packs, List.mem_cons] at h
    rcases h with rfl | h
    · exact ⟨a, b, rfl, by simp, by simp⟩
    · obtain ⟨a', b', e, h1, h2⟩ := mem_packs h
      exact ⟨a', b', e, by simp [h1], by simp [h2]⟩
theorem packs_ris : ∀ {l : List Coin}, Ris l → Ris (packs l)
  | [], _ => List.Pairwise.nil
  | [_], _ => List.Pairwise.nil
  | a :: b :: l, h => by
    unfold Ris at *
    simp only [packs]
    have h1 := List.pairwise_cons.1 h
    have h2 := List.pairwise_cons.1 h1.2
    refine List.pairwise_cons.2 ⟨fun x hx => ?_, packs_ris h2.2⟩
    obtain ⟨c, d, rfl, hc, hd⟩ := mem_packs hx
    have h3 := h1.1 c (by simp [hc])
    have h4 := h2.1 d hd
    simp only [Coin.wt]; omega
theorem prow_ris {L : List Coin} (h : Ris L) : ∀ r, Ris (prow L r)
  | 0 => h
  | r + 1 => mrg_ris h (packs_ris (prow_ris h r))
theorem packs_take : ∀ (m : Nat) (l : List Coin), 2 * m ≤ l.length → (packs l).take m = packs (l.take (2 * m))
  | 0, l, _ => by simp [packs]
  | m + 1, [], h => by simp at h
  | m + 1, [a], h => absurd h (by simp; omega)
  | m + 1, a :: b :: l, h => by
    have := packs_take m l (by simp at h; omega)
    rw [show 2 * (m + 1) = 2 * m + 1 + 1 by omega]
    simp only [packs, List.take_succ_cons, this]
theorem packs_wsum : ∀ (l : List Coin), l.length % 2 = 0 → wsum (packs l) = wsum l
  | [], _ => rfl
  | [_], h => by simp at h
  | a :: b :: l, h => by
    have := packs_wsum l (by simp at h; omega)
    simp only [packs, wsum_cons, Coin.wt, this]; omega
theorem packs_csum (i : Nat) : ∀ (l : List Coin), l.length % 2 = 0 → csum i (packs l) = csum i l
  | [], _ => rfl
  | [_], h => by simp at h
  | a :: b :: l, h => by
    have := packs_csum i l (by simp at h; omega)
    simp only [packs, csum_cons, Coin.cnt, this]; omega
theorem packs_wsum_take {m : Nat} {l : List Coin} (h : 2 * m ≤ l.length) : wsum ((packs l).take m) = wsum (l.take (2 * m)) := by
  rw [packs_take m l h, packs_wsum _ (by rw [List.length_take]; omega)]
theorem packs_csum_take {i m : Nat} {l : List Coin} (h : 2 * m ≤ l.length) : csum i ((packs l).take m) = csum i (l.take (2 * m)) := by
  rw [packs_take m l h, packs_csum i _ (by rw [List.length_take]; omega)]

theorem wsum_take_succ {l : List Coin} {k : Nat} (h : k < l.length) : wsum (l.take (k + 1)) = wsum (l.take k) + (l[k]).wt := by
  rw [List.take_succ_eq_append_getElem h, wsum_append]; simp [wsum]
theorem wsum_take_mono (l : List Coin) {j k : Nat} (h : j ≤ k) : wsum (l.take j) ≤ wsum (l.take k) := by
  have e : l.take k = l.take j ++ (l.take k).drop j := by
    conv => lhs; rw [← List.take_append_drop j (l.take k)]
    rw [List.take_take, Nat.min_eq_left h]
  rw [e, wsum_append]; omega
theorem ris_head {a : Coin} {l : List Coin} (h : Ris (a :: l)) {k : Nat} (hk : k < (a :: l).length) : a.wt ≤ ((a :: l)[k]).wt := by
  cases k with
  | zero => exact Nat.le_refl _
  | succ k => exact (List.pairwise_cons.1 h).1 _ (by simp)

/-- No choice is lighter than the merged row's first ones. -/
theorem mrg_least (p q : List Coin) (hp : Ris p) (hq : Ris q) : ∀ a b, a ≤ p.length → b ≤ q.length → wsum ((mrg p q).take (a + b)) ≤ wsum (p.take a) + wsum (q.take b) := by
  induction p, q using mrg.induct with
  | case1 q =>
    intro a b ha hb
    have : a = 0 := by simpa using ha
    subst this
    rw [mrg_nil]; simp [wsum_nil]
  | case2 p h =>
    intro a b ha hb
    have : b = 0 := by simpa using hb
    subst this
    rw [mrg_nil']; simp [wsum_nil]
  | case3 x p y q h ih =>
    intro a b ha hb
    have ih' := ih (List.pairwise_cons.1 hp).2 hq
    rw [mrg_cons, if_pos h]
    cases a with
    | succ a =>
      have := ih' a b (by simpa using ha) hb
      rw [show a + 1 + b = (a + b) + 1 by omega, List.take_succ_cons, List.take_succ_cons, wsum_cons, wsum_cons]; omega
    | zero =>
      cases b with
      | zero => simp [wsum_nil]
      | succ b =>
        have h1 := ih' 0 b (Nat.zero_le _) (by omega)
        have h2 := wsum_take_succ (l := y :: q) (k := b) (by omega)
        have h3 := ris_head hq (k := b) (by omega)
        rw [show 0 + (b + 1) = b + 1 by omega, List.take_succ_cons, wsum_cons, List.take_zero, wsum_nil, h2]
        rw [Nat.zero_add, List.take_zero, wsum_nil] at h1
        omega
  | case4 x p y q h ih =>
    intro a b ha hb
    have ih' := ih hp (List.pairwise_cons.1 hq).2
    rw [mrg_cons, if_neg h]
    cases b with
    | succ b =>
      have := ih' a b ha (by simpa using hb)
      rw [show a + (b + 1) = (a + b) + 1 by omega, List.take_succ_cons, List.take_succ_cons, wsum_cons, wsum_cons]; omega
    | zero =>
      cases a with
      | zero => simp [wsum_nil]
      | succ a =>
        have h1 := ih' a 0 (by omega) (Nat.zero_le _)
        have h2 := wsum_take_succ (l := x :: p) (k := a) (by omega)
        have h3 := ris_head hp (k := a) (by omega)
        rw [show a + 1 + 0 = a + 1 by omega, List.take_succ_cons, wsum_cons, List.take_zero, wsum_nil, h2]
        rw [Nat.add_zero, List.take_zero, wsum_nil] at h1
        omega
/-- The merged row's first ones are first ones of both. -/
theorem mrg_split (p q : List Coin) : ∀ k, k ≤ p.length + q.length → ∃ a b, a + b = k ∧ a ≤ p.length ∧ b ≤ q.length ∧ wsum ((mrg p q).take k) = wsum (p.take a) + wsum (q.take b) ∧ ∀ i, csum i ((mrg p q).take k) = csum i (p.take a) + csum i (q.take b) := by
  induction p, q using mrg.induct with
  | case1 q =>
    intro k hk
    exact ⟨0, k, by omega, Nat.le_refl _, by simpa using hk, by rw [mrg_nil]; simp [wsum_nil], fun i => by rw [mrg_nil]; simp [csum_nil]⟩
  | case2 p h =>
    intro k hk
    exact ⟨k, 0, by omega, by simpa using hk, Nat.le_refl _, by rw [mrg_nil']; simp [wsum_nil], fun i => by rw [mrg_nil']; simp [csum_nil]⟩
  | case3 x p y q h ih =>
    intro k hk
    rw [mrg_cons, if_pos h]
    cases k with
    | zero => exact ⟨0, 0, rfl, Nat.zero_le _, Nat.zero_le _, by simp [wsum_nil], fun i => by simp [csum_nil]⟩
    | succ k =>
      obtain ⟨a, b, e, ha, hb, hw, hc⟩ := ih k (by simp at hk ⊢; omega)
      refine ⟨a + 1, b, by omega, by simpa using ha, hb, ?_, fun i => ?_⟩
      · rw [List.take_succ_cons, List.take_succ_cons, wsum_cons, wsum_cons, hw]; omega
      · rw [List.take_succ_cons, List.take_succ_cons, csum_cons, csum_cons, hc]; omega
  | case4 x p y q h ih =>
    intro k hk
    rw [mrg_cons, if_neg h]
    cases k with
    | zero => exact ⟨0, 0, rfl, Nat.zero_le _, Nat.zero_le _, by simp [wsum_nil], fun i => by simp [csum_nil]⟩
    | succ k =>
      obtain ⟨a, b, e, ha, hb, hw, hc⟩ := ih k (by simp at hk ⊢; omega)
      refine ⟨a, b + 1, by omega, ha, by simpa using hb, ?_, fun i => ?_⟩
      · rw [List.take_succ_cons, List.take_succ_cons, wsum_cons, wsum_cons, hw]; omega
      · rw [List.take_succ_cons, List.take_succ_cons, csum_cons, csum_cons, hc]; omega

/-! ### The leaves -/
def lvs (w sy : Nat → Nat) (n : Nat) : List Coin := (List.range n).map fun j => .leaf (w j) (sy j)
theorem lvs_length (w sy : Nat → Nat) (n : Nat) : (lvs w sy n).length = n := by simp [lvs]
theorem lvs_take (w sy : Nat → Nat) {k n : Nat} (h : k ≤ n) : (lvs w sy n).take k = lvs w sy k := by
  simp only [lvs, ← List.map_take, List.take_range, Nat.min_eq_left h]
theorem lvs_succ (w sy : Nat → Nat) (n : Nat) : lvs w sy (n + 1) = lvs w sy n ++ [.leaf (w n) (sy n)] := by simp [lvs, List.range_succ]
theorem lvs_wsum (w sy : Nat → Nat) (n : Nat) : wsum (lvs w sy n) = sumN n w := by
  induction n with
  | zero => rfl
  | succ n ih => rw [lvs_succ, wsum_append, ih]; simp [sumN, wsum, Coin.wt]
theorem lvs_csum (w sy : Nat → Nat) (i n : Nat) : csum i (lvs w sy n) = sumN n (fun j => if sy j = i then 1 else 0) := by
  induction n with
  | zero => rfl
  | succ n ih => rw [lvs_succ, csum_append, ih]; simp [sumN, csum, Coin.cnt]
theorem lvs_ris {w sy : Nat → Nat} {n : Nat} (h : ∀ i j, i ≤ j → j < n → w i ≤ w j) : Ris (lvs w sy n) := by
  unfold Ris lvs
  rw [List.pairwise_map]
  have : (List.range n).Pairwise (fun a b => a < b) := List.pairwise_lt_range
  refine List.Pairwise.imp_of_mem ?_ this
  intro a b ha hb hab
  exact h a b (by omega) (List.mem_range.1 hb)
theorem csum_at {w sy : Nat → Nat} {n a j : Nat} (hs : ∀ i j, i < n → j < n → sy i = sy j → i = j) (ha : a ≤ n) (hj : j < n) : csum (sy j) (lvs w sy a) = if j < a then 1 else 0 := by
  rw [lvs_csum]
  by_cases h : j < a
  · rw [if_pos h]
    have h1 := sumN_turn (n := a) (f := fun _ => 0) (g := fun k => if sy k = sy j then 1 else 0) (i := j) h (fun k hk hkj => if_neg fun e => hkj (hs k j (by omega) hj e))
    rw [sumN_const] at h1
    simp only [if_pos] at h1
    omega
  · rw [if_neg h]
    exact sumN_zero fun k hk => if_neg fun e => h (by rw [← hs k j (by omega) hj e]; exact hk)

/-! ### The theorem -/
/-- What x coins of rising worth bring: 2^r, 2^(r-1), .. -/
def worth (r x : Nat) : Nat := 2 ^ (r + 1) - 2 ^ (r + 1 - x)
theorem worth_step {r x : Nat} (h : x ≤ r + 2) : worth (r + 1) x = (if 0 < x then 1 else 0) * 2 ^ (r + 1) + worth r (x - 1) := by
  unfold worth
  cases x with
  | zero => simp
  | succ x =>
    have e1 : r + 1 + 1 - (x + 1) = r + 1 - x := by omega
    have e2 : 2 ^ (r + 1 - x) ≤ 2 ^ (r + 1) := Nat.pow_le_pow_right (by omega) (by omega)
    have e3 : 2 ^ (r + 1 + 1) = 2 ^ (r + 1) + 2 ^ (r + 1) := by rw [Nat.pow_succ]; omega
    rw [e1, e3, if_pos (by omega), Nat.add_sub_cancel]; omega
theorem worth_le (r x : Nat) : worth r x ≤ worth (r + 1) x := by
  unfold worth
  by_cases h : x ≤ r + 1
  · have e1 : r + 1 + 1 - x = (r + 1 - x) + 1 := by omega
    have e2 : 2 ^ (r + 1 - x) ≤ 2 ^ (r + 1) := Nat.pow_le_pow_right (by omega) (by omega)
    rw [e1, Nat.pow_succ 2 (r + 1), Nat.pow_succ 2 (r + 1 - x)]; omega
  · have e1 : r + 1 - x = 0 := by omega
    have e2 : r + 1 + 1 - x = 0 ∨ r + 1 + 1 - x = 0 := by omega
    have e3 : r + 1 + 1 - x = 0 := by omega
    have : 2 ^ (r + 1) ≤ 2 ^ (r + 1 + 1) := Nat.pow_le_pow_right (by omega) (by omega)
    rw [e1, e3]; omega

section
variable {w sy : Nat → Nat} {n : Nat}

/-- Nobody's coins of that worth are lighter than the row's first ones. -/
theorem prow_least (hw : ∀ i j, i ≤ j → j < n → w i ≤ w j) : ∀ (r : Nat) (l : Nat → Nat), (∀ j, j < n → l j ≤ r + 1) → ∀ k, k * 2 ^ r ≤ sumN n (fun j => worth r (l j)) →
    k ≤ (prow (lvs w sy n) r).length ∧ wsum ((prow (lvs w sy n) r).take k) ≤ sumN n (fun j => w j * l j) := by
  intro r
  induction r with
  | zero =>
    intro l hl k hk
    have e : ∀ j, j < n → worth 0 (l j) = l j := by
      intro j hj
      have := hl j hj
      unfold worth
      rcases Nat.le_one_iff_eq_zero_or_eq_one.1 this with h | h <;> rw [h] <;> rfl
    rw [sumN_eq e] at hk
    obtain ⟨h1, h2⟩ := sumN_first (w := w) (n := n) (b := l) hw hl
    have hk' : k ≤ sumN n l := by simpa using hk
    simp only [prow]
    refine ⟨by rw [lvs_length]; omega, ?_⟩
    rw [lvs_take w sy (by omega), lvs_wsum]
    have h3 : sumN k w ≤ sumN (sumN n l) w := by
      have := wsum_take_mono (lvs w (fun _ => 0) n) hk'
      rwa [lvs_take w _ (by omega), lvs_take w _ h1, lvs_wsum, lvs_wsum] at this
    have h4 : sumN n (fun j => l j * w j) = sumN n (fun j => w j * l j) := sumN_eq fun j _ => Nat.mul_comm _ _
    omega
  | succ r ih =>
    intro l hl k hk
    have e : ∀ j, j < n → worth (r + 1) (l j) = (if 0 < l j then 1 else 0) * 2 ^ (r + 1) + worth r (l j - 1) := fun j hj => worth_step (hl j hj)
    rw [sumN_eq e, sumN_add, sumN_mul] at hk
    generalize hc : sumN n (fun j => if 0 < l j then 1 else 0) = c at hk
    generalize hV : sumN n (fun j => worth r (l j - 1)) = V at hk
    have hp : 0 < 2 ^ (r + 1) := Nat.pow_pos (by omega)
    have hm : 2 * (V / 2 ^ (r + 1)) * 2 ^ r ≤ V := by
      have := Nat.div_mul_le_self V (2 ^ (r + 1))
      have e2 : 2 * (V / 2 ^ (r + 1)) * 2 ^ r = V / 2 ^ (r + 1) * 2 ^ (r + 1) := by rw [Nat.pow_succ, Nat.mul_comm 2, Nat.mul_assoc, Nat.mul_comm 2]
      omega
    obtain ⟨i1, i2⟩ := ih (fun j => l j - 1) (fun j hj => by have := hl j hj; omega) (2 * (V / 2 ^ (r + 1))) (by rw [hV]; exact hm)
    generalize hM : V / 2 ^ (r + 1) = m at i1 i2 hm
    have hkm : k ≤ c + m := by
      have h1 : V < 2 ^ (r + 1) * (m + 1) := by rw [← hM]; exact Nat.lt_mul_div_succ V hp
      have h2 : k * 2 ^ (r + 1) < (c + m + 1) * 2 ^ (r + 1) := by
        have e3 : (c + m + 1) * 2 ^ (r + 1) = c * 2 ^ (r + 1) + 2 ^ (r + 1) * (m + 1) := by rw [Nat.add_assoc, Nat.add_mul, Nat.mul_comm (m + 1)]
        omega
      have := Nat.lt_of_mul_lt_mul_right h2
      omega
    obtain ⟨f1, f2⟩ := sumN_first (w := w) (n := n) (b := fun j => if 0 < l j then 1 else 0) hw (fun j _ => by by_cases h : 0 < l j <;> simp [h])
    rw [hc] at f1 f2
    have hpl : m ≤ (packs (prow (lvs w sy n) r)).length := by rw [packs_length]; omega
    simp only [prow]
    refine ⟨by rw [mrg_length, lvs_length]; omega, ?_⟩
    have g1 := wsum_take_mono (mrg (lvs w sy n) (packs (prow (lvs w sy n) r))) hkm
    have g2 := mrg_least (lvs w sy n) (packs (prow (lvs w sy n) r)) (lvs_ris hw) (packs_ris (prow_ris (lvs_ris hw) r)) c m (by rw [lvs_length]; exact f1) hpl
    rw [lvs_take w sy f1, lvs_wsum, packs_wsum_take i1] at g2
    have g3 : sumN n (fun j => (if 0 < l j then 1 else 0) * w j) + sumN n (fun j => w j * (l j - 1)) = sumN n (fun j => w j * l j) := by
      rw [← sumN_add]
      refine sumN_eq fun j _ => ?_
      by_cases h : 0 < l j
      · obtain ⟨e, he⟩ : ∃ e, l j = e + 1 := ⟨l j - 1, by omega⟩
        rw [he, if_pos (by omega), Nat.add_sub_cancel, Nat.mul_add]; omega
      · have : l j = 0 := by omega
        rw [if_neg h, this]; simp
    omega

/-- The row's first ones: how often each symbol stands in them. -/
theorem prow_holds (hs : ∀ i j, i < n → j < n → sy i = sy j → i = j) : ∀ (r k : Nat), k ≤ (prow (lvs w sy n) r).length → ∃ c : Nat → Nat,
    (∀ j, j < n → csum (sy j) ((prow (lvs w sy n) r).take k) = c j) ∧ (∀ j, j < n → c j ≤ r + 1) ∧ (∀ i j, i ≤ j → j < n → c j ≤ c i) ∧
    wsum ((prow (lvs w sy n) r).take k) = sumN n (fun j => w j * c j) ∧ k * 2 ^ r ≤ sumN n (fun j => worth r (c j)) := by
  intro r
  have prefixw : ∀ a, a ≤ n → sumN a w = sumN n (fun j => w j * (if j < a then 1 else 0)) := by
    intro a ha
    have : ∀ m, sumN (a + m) (fun j => w j * (if j < a then 1 else 0)) = sumN a w := by
      intro m
      induction m with
      | zero => exact sumN_eq fun j hj => by rw [if_pos (by omega), Nat.mul_one]
      | succ m ih => rw [show a + (m + 1) = (a + m) + 1 by omega]; simp only [sumN, ih]; rw [if_neg (by omega)]; omega
    have := this (n - a)
    rw [show a + (n - a) = n by omega] at this
    exact this.symm
  have prefixc : ∀ a b, a ≤ n → sumN n (fun j => (if j < a then 1 else 0) * b) = a * b := by
    intro a b ha
    have : ∀ m, sumN (a + m) (fun j => (if j < a then 1 else 0) * b) = a * b := by
      intro m
      induction m with
      | zero => rw [Nat.add_zero, sumN_eq (g := fun _ => b) fun j hj => by rw [if_pos (by omega), Nat.one_mul], sumN_const]
      | succ m ih => rw [show a + (m + 1) = (a + m) + 1 by omega]; simp only [sumN, ih]; rw [if_neg (by omega)]; omega
    have := this (n - a)
    rwa [show a + (n - a) = n by omega] at this
  induction r with
  | zero =>
    intro k hk
    simp only [prow] at hk ⊢
    rw [lvs_length] at hk
    refine ⟨fun j => if j < k then 1 else 0, fun j hj => ?_, fun j hj => ?_, fun i j hij hj => ?_, ?_, ?_⟩
    · rw [lvs_take w sy hk]; exact csum_at hs hk hj
    · simp only; split <;> omega
    · simp only; split <;> split <;> omega
    · rw [lvs_take w sy hk, lvs_wsum]; exact prefixw k hk
    · have e : sumN n (fun j => worth 0 (if j < k then 1 else 0)) = sumN n (fun j => (if j < k then 1 else 0) * 1) := sumN_eq fun j _ => by split <;> rfl
      rw [e, prefixc k 1 hk]; simp
  | succ r ih =>
    intro k hk
    simp only [prow] at hk ⊢
    rw [mrg_length] at hk
    obtain ⟨a, m, hk', ha, hm, e1, e2⟩ := mrg_split (lvs w sy n) (packs (prow (lvs w sy n) r)) k hk
    rw [lvs_length] at ha
    rw [packs_length] at hm
    have hm2 : 2 * m ≤ (prow (lvs w sy n) r).length := by omega
    obtain ⟨c, c1, c2, c3, c4, c5⟩ := ih (2 * m) hm2
    refine ⟨fun j => (if j < a then 1 else 0) + c j, fun j hj => ?_, fun j hj => ?_, fun i j hij hj => ?_, ?_, ?_⟩
    · rw [e2, packs_csum_take hm2, c1 j hj, lvs_take w sy ha, csum_at hs ha hj]
    · have := c2 j hj; simp only; split <;> omega
    · have := c3 i j hij hj; simp only; split <;> split <;> omega
    · rw [e1, packs_wsum_take hm2, c4, lvs_take w sy ha, lvs_wsum, prefixw a ha, ← sumN_add]
      exact sumN_eq fun j _ => by rw [Nat.mul_add]
    · have h1 : ∀ j, j < n → (if j < a then 1 else 0) * 2 ^ (r + 1) + worth r (c j) ≤ worth (r + 1) ((if j < a then 1 else 0) + c j) := by
        intro j hj
        have := c2 j hj
        by_cases h : j < a
        · rw [if_pos h, worth_step (by omega), if_pos (by omega), show 1 + c j - 1 = c j by omega]; exact Nat.le_refl _
        · rw [if_neg h]; have := worth_le r (c j); simpa using this
      have h2 := sumN_le h1
      rw [sumN_add, prefixc a _ ha] at h2
      have e3 : k * 2 ^ (r + 1) = a * 2 ^ (r + 1) + 2 * m * 2 ^ r := by
        rw [← hk', Nat.add_mul, Nat.pow_succ]; congr 1
        rw [Nat.mul_comm 2 m, Nat.mul_assoc, Nat.mul_comm 2]
      show k * 2 ^ (r + 1) ≤ sumN n (fun j => worth (r + 1) ((if j < a then 1 else 0) + c j))
      omega

/-- So long is the row. -/
theorem prow_long : ∀ (r : Nat), 1 ≤ n → 2 * n - (n - 1) / 2 ^ r - 1 ≤ (prow (lvs w sy n) r).length := by
  intro r hn
  induction r with
  | zero => simp only [prow, lvs_length, Nat.pow_zero, Nat.div_one]; omega
  | succ r ih =>
    simp only [prow, mrg_length, lvs_length, packs_length]
    have e : (n - 1) / 2 ^ (r + 1) = (n - 1) / 2 ^ r / 2 := by rw [Nat.pow_succ, Nat.div_div_eq_div_mul]
    rw [e]
    have : (n - 1) / 2 ^ r ≤ n - 1 := Nat.div_le_self _ _
    omega
theorem prow_enough {r : Nat} (hn : 1 ≤ n) (h : n ≤ 2 ^ (r + 1)) : 2 * n - 2 ≤ (prow (lvs w sy n) r).length := by
  have h1 := prow_long (w := w) (sy := sy) r hn
  have h2 : (n - 1) / 2 ^ r < 2 := by
    rw [Nat.div_lt_iff_lt_mul (Nat.pow_pos (by omega))]
    rw [Nat.pow_succ] at h; omega
  omega

/-- Kraft's sum, in parts of 2^-M. -/
def kraftN (n M : Nat) (l : Nat → Nat) : Nat := sumN n fun j => 2 ^ (M - l j)
theorem worth_kraft {r : Nat} (l : Nat → Nat) : sumN n (fun j => worth r (l j)) + kraftN n (r + 1) l = n * 2 ^ (r + 1) := by
  unfold kraftN
  rw [← sumN_add, ← sumN_const]
  refine sumN_eq fun j hj => ?_
  unfold worth
  have : 2 ^ (r + 1 - l j) ≤ 2 ^ (r + 1) := Nat.pow_le_pow_right (by omega) (by omega)
  omega

/-- A list that does not fill Kraft's sum may be made cheaper. -/
theorem kraft_better {M : Nat} {l : Nat → Nat} (hn : 2 ≤ n) (hl : ∀ j, j < n → l j ≤ M) (hk : kraftN n M l < 2 ^ M) : ∃ i, i < n ∧ 0 < l i ∧ kraftN n M (fun j => if j = i then l i - 1 else l j) ≤ 2 ^ M := by
  -- one of the greatest
  have hmax : ∀ m, 0 < m → ∃ i, i < m ∧ ∀ j, j < m → l j ≤ l i := by
    intro m
    induction m with
    | zero => intro h; omega
    | succ m ih =>
      intro _
      by_cases hm : m = 0
      · subst hm; exact ⟨0, by omega, fun j hj => by rw [show j = 0 by omega]; exact Nat.le_refl _⟩
      · obtain ⟨i, hi, h⟩ := ih (by omega)
        by_cases h2 : l m ≤ l i
        · exact ⟨i, by omega, fun j hj => by by_cases e : j = m; (· rw [e]; exact h2); (· exact h j (by omega))⟩
        · exact ⟨m, by omega, fun j hj => by by_cases e : j = m; (· rw [e]; exact Nat.le_refl _); (· have := h j (by omega); omega)⟩
  obtain ⟨i, hi, hm⟩ := hmax n (by omega)
  have hpos : 0 < l i := by
    apply Nat.pos_of_ne_zero
    intro h0
    have h1 := sumN_get (n := n) (f := fun j => 2 ^ (M - l j)) (i := i) hi
    simp only [h0, Nat.sub_zero] at h1
    unfold kraftN at hk; omega
  refine ⟨i, hi, hpos, ?_⟩
  have hd1 : 2 ^ (M - l i) ∣ kraftN n M l := sumN_dvd fun j hj => Nat.pow_dvd_pow 2 (by have := hm j hj; omega)
  have hd2 : 2 ^ (M - l i) ∣ 2 ^ M := Nat.pow_dvd_pow 2 (by omega)
  have hle : kraftN n M l + 2 ^ (M - l i) ≤ 2 ^ M := by
    obtain ⟨a, ha⟩ := hd1
    obtain ⟨b, hb⟩ := hd2
    rw [ha, hb] at hk ⊢
    have : a < b := Nat.lt_of_mul_lt_mul_left hk
    calc 2 ^ (M - l i) * a + 2 ^ (M - l i) = 2 ^ (M - l i) * (a + 1) := by rw [Nat.mul_add, Nat.mul_one]
      _ ≤ 2 ^ (M - l i) * b := Nat.mul_le_mul_left _ this
  have ht := sumN_turn (n := n) (f := fun j => 2 ^ (M - l j)) (g := fun j => 2 ^ (M - (if j = i then l i - 1 else l j))) (i := i) hi (fun j _ hji => by simp only [if_neg hji])
  simp only [if_pos] at ht
  have hp : 2 ^ (M - (l i - 1)) = 2 ^ (M - l i) + 2 ^ (M - l i) := by
    have := hl i hi
    rw [show M - (l i - 1) = (M - l i) + 1 by omega, Nat.pow_succ]; omega
  unfold kraftN at hle ⊢
  show sumN n (fun j => 2 ^ (M - (if j = i then l i - 1 else l j))) ≤ 2 ^ M
  omega

/-- The coin collector's theorem. -/
theorem collector {r : Nat} (hw : ∀ i j, i ≤ j → j < n → w i ≤ w j) (hpos : ∀ j, j < n → 0 < w j) (hs : ∀ i j, i < n → j < n → sy i = sy j → i = j) (hn : 2 ≤ n) (h : n ≤ 2 ^ (r + 1)) :
    ∃ c : Nat → Nat, (∀ j, j < n → csum (sy j) ((prow (lvs w sy n) r).take (2 * n - 2)) = c j) ∧ (∀ j, j < n → 1 ≤ c j ∧ c j ≤ r + 1) ∧ (∀ i j, i ≤ j → j < n → c j ≤ c i) ∧
      kraftN n (r + 1) c = 2 ^ (r + 1) ∧ ∀ l : Nat → Nat, (∀ j, j < n → l j ≤ r + 1) → kraftN n (r + 1) l ≤ 2 ^ (r + 1) → sumN n (fun j => w j * c j) ≤ sumN n (fun j => w j * l j) := by
  have hlen := prow_enough (w := w) (sy := sy) (r := r) (by omega) h
  obtain ⟨c, c1, c2, c3, c4, c5⟩ := prow_holds (w := w) hs r (2 * n - 2) hlen
  have hval : ∀ l : Nat → Nat, (2 * n - 2) * 2 ^ r ≤ sumN n (fun j => worth r (l j)) ↔ kraftN n (r + 1) l ≤ 2 ^ (r + 1) := by
    intro l
    have h1 := worth_kraft (n := n) (r := r) l
    have h2 : (2 * n - 2) * 2 ^ r + 2 ^ (r + 1) = n * 2 ^ (r + 1) := by
      rw [Nat.pow_succ, Nat.mul_comm (2 ^ r) 2, ← Nat.add_mul, ← Nat.mul_assoc, show 2 * n - 2 + 2 = n * 2 by omega]
    omega
  have hk := (hval c).1 c5
  have least : ∀ l : Nat → Nat, (∀ j, j < n → l j ≤ r + 1) → kraftN n (r + 1) l ≤ 2 ^ (r + 1) → sumN n (fun j => w j * c j) ≤ sumN n (fun j => w j * l j) := by
    intro l hl hkl
    have := (prow_least (sy := sy) hw r l hl (2 * n - 2) ((hval l).2 hkl)).2
    omega
  have heq : kraftN n (r + 1) c = 2 ^ (r + 1) := by
    apply Nat.le_antisymm hk
    apply Nat.le_of_not_lt
    intro hlt
    obtain ⟨i, hi, h0, hb⟩ := kraft_better hn c2 hlt
    have h1 := least _ (fun j hj => by have := c2 j hj; have := c2 i hi; split <;> omega) hb
    have h2 := sumN_turn (n := n) (f := fun j => w j * c j) (g := fun j => w j * (if j = i then c i - 1 else c j)) (i := i) hi (fun j _ hji => by simp only [if_neg hji])
    simp only [if_pos] at h2
    have h3 := hpos i hi
    have h4 : w i * (c i - 1) + w i = w i * c i := by rw [← Nat.mul_add_one]; congr 1; omega
    omega
  refine ⟨c, c1, fun j hj => ⟨?_, c2 j hj⟩, c3, heq, least⟩
  apply Nat.pos_of_ne_zero
  intro h0
  obtain ⟨i, hi, hij⟩ : ∃ i, i < n ∧ i ≠ j := by
    by_cases e : j = 0
    · exact ⟨1, by omega, by omega⟩
    · exact ⟨0, by omega, fun e' => e e'.symm⟩
  have h1 := sumN_get2 (n := n) (f := fun j => 2 ^ (r + 1 - c j)) hi hj hij
  simp only [h0, Nat.sub_zero] at h1
  have h2 : 0 < 2 ^ (r + 1 - c i) := Nat.pow_pos (by omega)
  unfold kraftN at heq; omega
end
end Go.V
