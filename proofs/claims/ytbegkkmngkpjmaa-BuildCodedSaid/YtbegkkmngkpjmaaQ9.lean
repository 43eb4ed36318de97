/- Decoders: rows of bits, the highest first; symbols in the order of their words: for the plain laws. -/
import Derived.Test.YtbegkkmngkpjmaaQ7
import Derived.Test.YtbegkkmngkpjmaaQ2
set_option linter.unusedVariables false
set_option linter.unusedSimpArgs false
namespace Go.V
open Go

/-- The number that bits say, the highest first. -/
def mval (s : List Bool) : Nat := val s.reverse
theorem mval_nil : mval [] = 0 := rfl
theorem mval_snoc (s : List Bool) (b : Bool) : mval (s ++ [b]) = 2 * mval s + b.toNat := by
  unfold mval; rw [List.reverse_append]; show b.toNat + 2 * val s.reverse = _; omega
theorem mval_lt (s : List Bool) : mval s < 2 ^ s.length := by
  have := val_lt s.reverse; rwa [List.length_reverse] at this
theorem mval_inj {s t : List Bool} (hl : s.length = t.length) (h : mval s = mval t) : s = t := by
  have := val_inj (s := s.reverse) (t := t.reverse) (by simp [hl]) h
  exact List.reverse_inj.1 this
theorem mval_append (s t : List Bool) : mval (s ++ t) = mval s * 2 ^ t.length + mval t := by
  unfold mval; rw [List.reverse_append, val_append, List.length_reverse, Nat.mul_comm, Nat.add_comm]
theorem mval_take_div (s : List Bool) {a b : Nat} (hab : a ≤ b) (hb : b ≤ s.length) : mval (s.take b) / 2 ^ (b - a) = mval (s.take a) := by
  have e : s.take b = s.take a ++ (s.drop a).take (b - a) := by
    rw [show b = a + (b - a) by omega, List.take_add, show a + (b - a) - a = b - a by omega]
  have l : ((s.drop a).take (b - a)).length = b - a := by rw [List.length_take, List.length_drop]; omega
  have lt := mval_lt ((s.drop a).take (b - a))
  rw [l] at lt
  rw [e, mval_append, l, Nat.add_comm, Nat.add_mul_div_right _ _ (Nat.pow_pos (by omega)), Nat.div_eq_of_lt lt, Nat.zero_add]
theorem take_step (s : List Bool) {v : Nat} (h : v < s.length) : s.take (v + 1) = s.take v ++ [s[v]] := by
  rw [List.take_add_one, List.getElem?_eq_getElem h]; rfl
theorem val_bit (s : List Bool) {v : Nat} (h : v < s.length) : val s / 2 ^ v % 2 = (s[v]).toNat := by
  rw [← val_drop, List.drop_eq_getElem_cons h, val]
  have : (s[v]).toNat < 2 := Bool.toNat_lt _
  omega
/-- The bits of a symbol's word. -/
def wbits (l : Nat → Nat) (n s : Nat) : List Bool := (tobits (l s) (wordW l n s)).reverse
theorem wbits_length (l : Nat → Nat) (n s : Nat) : (wbits l n s).length = l s := by simp [wbits, tobits_length]
theorem mval_wbits {l : Nat → Nat} {n s : Nat} (h : wordW l n s < 2 ^ l s) : mval (wbits l n s) = wordW l n s := by
  unfold mval wbits; rw [List.reverse_reverse, val_tobits, Nat.mod_eq_of_lt h]
/-- A symbol's word stands first. -/
def hits (l : Nat → Nat) (n : Nat) (t : List Bool) (s : Nat) : Prop := s < n ∧ 1 ≤ l s ∧ wbits l n s <+: t
theorem hits_iff {l : Nat → Nat} {n : Nat} (h : ∀ j, j < n → l j ≤ 15) (hT : takeW l n ≤ 2 ^ 15) {t : List Bool} {s : Nat} (hs : s < n) (h1 : 1 ≤ l s) : hits l n t s ↔ l s ≤ t.length ∧ mval (t.take (l s)) = wordW l n s := by
  have hw := word_lt h hT hs h1
  constructor
  · rintro ⟨_, _, u, rfl⟩
    have hl := wbits_length l n s
    refine ⟨by rw [List.length_append]; omega, ?_⟩
    rw [List.take_append_of_le_length (by omega), List.take_of_length_le (by omega), mval_wbits hw]
  · rintro ⟨a, b⟩
    refine ⟨hs, h1, ?_⟩
    have : wbits l n s = t.take (l s) := mval_inj (by rw [wbits_length, List.length_take]; omega) (by rw [mval_wbits hw, b])
    rw [this]; exact List.take_prefix _ _
theorem hits_one {l : Nat → Nat} {n : Nat} (h : ∀ j, j < n → l j ≤ 15) (hT : takeW l n ≤ 2 ^ 15) {t : List Bool} {s r : Nat} (hs : hits l n t s) (hr : hits l n t r) : s = r := by
  apply Classical.byContradiction
  intro hne
  have key : ∀ {s r : Nat}, s ≠ r → l s ≤ l r → hits l n t s → hits l n t r → False := by
    intro s r hne hle hs hr
    have a := (hits_iff h hT hs.1 hs.2.1).1 hs
    have b := (hits_iff h hT hr.1 hr.2.1).1 hr
    have c := no_prefix h hs.1 hr.1 hne hs.2.1 hle
    rw [← a.2, ← b.2, mval_take_div t hle b.1] at c
    exact c rfl
  by_cases c : l s ≤ l r
  · exact key hne c hs hr
  · exact key (Ne.symm hne) (by omega) hr hs
/-- Where all rows are taken, fifteen bits begin with a word. -/
theorem hits_full {l : Nat → Nat} {n : Nat} (h : ∀ j, j < n → l j ≤ 15) (hT : takeW l n = 2 ^ 15) {t : List Bool} (ht : 15 ≤ t.length) : ∃ s, hits l n t s := by
  have hlt := mval_lt (t.take 15)
  rw [List.length_take, Nat.min_eq_left ht] at hlt
  obtain ⟨s, s1, s2, s3, s4, s5⟩ := full_hit h hT hlt
  refine ⟨s, (hits_iff h (by omega) s1 s2).2 ⟨by omega, ?_⟩⟩
  rw [← mval_take_div t s3 ht]
  unfold startW at s4 s5
  have hp : 0 < 2 ^ (15 - l s) := Nat.pow_pos (by omega)
  apply Nat.le_antisymm
  · apply Nat.le_of_lt_succ
    rw [Nat.div_lt_iff_lt_mul hp, Nat.succ_mul]; exact s5
  · rw [Nat.le_div_iff_mul_le hp]; exact s4

/-- The symbols of one length, in their order; and of all shorter than v. -/
def rowS (l : Nat → Nat) (v : Nat) : Nat → List Int
  | 0 => []
  | n + 1 => if l n = v then rowS l v n ++ [(n : Int)] else rowS l v n
theorem rowS_length (l : Nat → Nat) (v : Nat) : ∀ n, (rowS l v n).length = cntL l v n := by
  intro n
  induction n with
  | zero => rfl
  | succ n ih =>
    rw [cntL_succ, rowS]
    by_cases c : l n = v
    · rw [if_pos c, if_pos c, List.length_append, ih]; rfl
    · rw [if_neg c, if_neg c, ih]; rfl
theorem rowS_at {l : Nat → Nat} {v : Nat} : ∀ {n s : Nat}, s < n → l s = v → (rowS l v n)[cntL l v s]? = some (s : Int) := by
  intro n
  induction n with
  | zero => intro s h; omega
  | succ n ih =>
    intro s h hv
    rw [rowS]
    by_cases e : s = n
    · subst e
      rw [if_pos hv, ← rowS_length l v s, List.getElem?_append_right (Nat.le_refl _), Nat.sub_self]; rfl
    · have hlt := cntL_lt (m := n) (by omega) hv
      have := ih (by omega) hv
      by_cases c : l n = v
      · rw [if_pos c, List.getElem?_append_left (by rw [rowS_length]; exact hlt)]; exact this
      · rw [if_neg c]; exact this
def symsL (l : Nat → Nat) (n : Nat) : Nat → List Int
  | 0 => []
  | v + 1 => symsL l n v ++ if v = 0 then [] else rowS l v n
theorem symsL_length (l : Nat → Nat) (n : Nat) : ∀ v, (symsL l n v).length = wupto l n v := by
  intro v
  induction v with
  | zero => rfl
  | succ v ih =>
    rw [symsL, List.length_append, ih, wupto]
    by_cases c : v = 0
    · rw [if_pos c, if_pos c]; rfl
    · rw [if_neg c, if_neg c, rowS_length]
theorem symsL_mono (l : Nat → Nat) (n : Nat) {u v : Nat} (h : u ≤ v) : symsL l n u <+: symsL l n v := by
  induction v with
  | zero => rw [show u = 0 by omega]; exact List.prefix_rfl
  | succ v ih =>
    by_cases e : u = v + 1
    · rw [e]; exact List.prefix_rfl
    · rw [symsL]; exact (ih (by omega)).trans (List.prefix_append _ _)
theorem symsL_at {l : Nat → Nat} {n s : Nat} (hs : s < n) (h1 : 1 ≤ l s) (h2 : l s ≤ 15) : (symsL l n 16)[wupto l n (l s) + cntL l (l s) s]? = some (s : Int) := by
  obtain ⟨u, hu⟩ := symsL_mono l n (show l s + 1 ≤ 16 by omega)
  have hr := rowS_at hs (rfl : l s = l s)
  have hlt : cntL l (l s) s < (rowS l (l s) n).length := by rw [rowS_length]; exact cntL_lt hs rfl
  rw [← hu, symsL, if_neg (by omega), List.append_assoc, List.getElem?_append_right (by rw [symsL_length]; omega), symsL_length, Nat.add_sub_cancel_left, List.getElem?_append_left hlt, hr]
theorem symsL_used {l : Nat → Nat} {n : Nat} (h : ∀ j, j < n → l j ≤ 15) : (symsL l n 16).length = usedW l n := by rw [symsL_length, wupto_all h]
theorem wupto_le (l : Nat → Nat) (n : Nat) : ∀ v, wupto l n v ≤ v * n := by
  intro v
  induction v with
  | zero => simp [wupto]
  | succ v ih =>
    have := cntL_le l v n
    rw [wupto, Nat.succ_mul]
    split <;> omega

theorem bor_i64 (w : Nat) (b : Bool) (h : w < 4611686018427387904) : bor .i64 ((2 * w : Nat) : Int) (b.toNat : Int) = ((2 * w + b.toNat : Nat) : Int) := by
  have hb : b.toNat < 2 := Bool.toNat_lt b
  have e : 2 * w ||| b.toNat = 2 * w + b.toNat := by
    have := Nat.two_pow_add_eq_or_of_lt (i := 1) hb w
    rw [Nat.pow_one] at this; exact this.symm
  unfold bor
  rw [BitVec.ofInt_natCast, BitVec.ofInt_natCast, BitVec.toNat_or, BitVec.toNat_ofNat, BitVec.toNat_ofNat, Nat.mod_eq_of_lt (show 2 * w < 2 ^ IntKind.i64.bits by show 2 * w < 18446744073709551616; omega), Nat.mod_eq_of_lt (show b.toNat < 2 ^ IntKind.i64.bits by show b.toNat < 18446744073709551616; omega), e, wr_i64 (by omega)]

/-- The decoder's code: complete, or a single word of one bit. -/
structure Dec (l : Nat → Nat) (n : Nat) : Prop where
  small : n ≤ 288
  ok : ∀ j, j < n → l j ≤ 15
  full : takeW l n = 32768 ∨ usedW l n = 1 ∧ takeW l n = 16384
theorem Dec.take {l : Nat → Nat} {n : Nat} (D : Dec l n) : takeW l n ≤ 2 ^ 15 := by have := D.full; omega
theorem Dec.single {l : Nat → Nat} {n : Nat} (D : Dec l n) (h : usedW l n = 1) : ∃ s, s < n ∧ l s = 1 ∧ wordW l n s = 0 := by
  have hT : takeW l n = 16384 := by
    rcases D.full with a | a
    · have := takeW_le l n; omega
    · exact a.2
  have hc := (single_iff h).2 hT
  obtain ⟨s, s1, s2, s3⟩ := cntL_ex (l := l) (v := 1) (n := n) (k := 0) (by omega)
  refine ⟨s, s1, s2, ?_⟩
  unfold wordW; rw [s2, s3]; simp [fstW]
theorem Dec.single_hit {l : Nat → Nat} {n : Nat} (D : Dec l n) (h : usedW l n = 1) {t : List Bool} (ht : 1 ≤ t.length) (h0 : mval (t.take 1) = 0) : ∃ s, l s = 1 ∧ hits l n t s := by
  obtain ⟨s, s1, s2, s3⟩ := D.single h
  exact ⟨s, s2, (hits_iff D.ok D.take s1 (by omega)).2 ⟨by omega, by rw [s2, s3, h0]⟩⟩
theorem wupto_mono (l : Nat → Nat) (n : Nat) {u v : Nat} (h : u ≤ v) : wupto l n u ≤ wupto l n v := by
  have := (symsL_mono l n h).length_le
  rwa [symsL_length, symsL_length] at this
theorem Dec.single_len {l : Nat → Nat} {n : Nat} (D : Dec l n) (h : usedW l n = 1) {s : Nat} (hs : s < n) (h1 : 1 ≤ l s) : l s = 1 := by
  apply Classical.byContradiction
  intro hne
  obtain ⟨r, r1, r2, _⟩ := D.single h
  have a := cntL_lt r1 r2
  have b := cntL_lt hs (rfl : l s = l s)
  have c := wupto_mono l n (show 2 ≤ l s by omega)
  have d := wupto_mono l n (show l s + 1 ≤ 16 by have := D.ok s hs; omega)
  rw [wupto_all D.ok, wupto, if_neg (by omega)] at d
  have e : wupto l n 2 = cntL l 1 n := by simp [wupto]
  omega
/-- A hit of this length, from the counts. -/
theorem Dec.hit_at {l : Nat → Nat} {n : Nat} (D : Dec l n) {t : List Bool} {v : Nat} (h1 : 1 ≤ v) (hv : v ≤ t.length) (hr : fstW l n v ≤ mval (t.take v) ∧ mval (t.take v) < fstW l n v + cntL l v n) :
    ∃ s, hits l n t s ∧ l s = v ∧ cntL l v s = mval (t.take v) - fstW l n v := by
  obtain ⟨s, s1, s2, s3⟩ := cntL_ex (l := l) (v := v) (n := n) (k := mval (t.take v) - fstW l n v) (by omega)
  refine ⟨s, (hits_iff D.ok D.take s1 (by omega)).2 ⟨by omega, ?_⟩, s2, s3⟩
  unfold wordW; rw [s2, s3]; omega
theorem Dec.at_hit {l : Nat → Nat} {n : Nat} (D : Dec l n) {t : List Bool} {s : Nat} (h : hits l n t s) : fstW l n (l s) ≤ mval (t.take (l s)) ∧ mval (t.take (l s)) < fstW l n (l s) + cntL l (l s) n := by
  have := (hits_iff D.ok D.take h.1 h.2.1).1 h
  have c := cntL_lt h.1 (rfl : l s = l s)
  rw [this.2]; unfold wordW; omega
theorem bxor_i64 {a b : Nat} (ha : a < 4611686018427387904) (hb : b < 4611686018427387904) : bxor .i64 (a : Int) (b : Int) = ((a ^^^ b : Nat) : Int) := by
  have h : a ^^^ b < 2 ^ 62 := Nat.xor_lt_two_pow (show a < 2 ^ 62 from ha) (show b < 2 ^ 62 from hb)
  unfold bxor
  rw [BitVec.ofInt_natCast, BitVec.ofInt_natCast, BitVec.toNat_xor, BitVec.toNat_ofNat, BitVec.toNat_ofNat, Nat.mod_eq_of_lt (show a < 2 ^ IntKind.i64.bits by show a < 18446744073709551616; omega), Nat.mod_eq_of_lt (show b < 2 ^ IntKind.i64.bits by show b < 18446744073709551616; omega), wr_i64 (by omega)]
theorem tobits_take (n x : Nat) {v : Nat} (h : v ≤ n) : (tobits n x).take v = tobits v x := by
  rw [show n = v + (n - v) by omega, tobits_add, List.take_append_of_le_length (by rw [tobits_length]; exact Nat.le_refl _), List.take_of_length_le (by rw [tobits_length]; exact Nat.le_refl _)]
theorem flip_far (x : Nat) {i v : Nat} (h : v ≤ i) : tobits v (x ^^^ 2 ^ i) = tobits v x := by
  rw [← tobits_mod v (x ^^^ 2 ^ i), Nat.xor_mod_two_pow, Nat.mod_eq_zero_of_dvd (Nat.pow_dvd_pow 2 h), Nat.xor_zero, tobits_mod]
theorem flip_near (x v : Nat) : tobits (v + 1) (x ^^^ 2 ^ v) ≠ tobits (v + 1) x := by
  intro h
  have h1 := congrArg val h
  rw [val_tobits, val_tobits, Nat.xor_mod_two_pow, Nat.mod_eq_of_lt (Nat.pow_lt_pow_right (by omega) (by omega) : 2 ^ v < 2 ^ (v + 1))] at h1
  have h2 : x % 2 ^ (v + 1) ^^^ (x % 2 ^ (v + 1) ^^^ 2 ^ v) = 0 := by rw [h1, Nat.xor_self]
  rw [← Nat.xor_assoc, Nat.xor_self, Nat.zero_xor] at h2
  have := Nat.pow_pos (n := v) (show 0 < 2 by omega)
  omega
end Go.V
