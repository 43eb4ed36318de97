/- Strings of bits, and how they lie in bytes: for the plain laws. -/
import Derived.Test.YtbegkkmngkpjmaaQ1
set_option linter.unusedVariables false
set_option linter.unusedSimpArgs false
namespace Go.V
open Go

/-- The n low bits of a number, the lowest first. -/
def tobits : Nat → Nat → List Bool
  | 0, _ => []
  | n + 1, v => (v % 2 == 1) :: tobits n (v / 2)
/-- The number that bits say, the lowest first. -/
def val : List Bool → Nat
  | [] => 0
  | b :: s => b.toNat + 2 * val s

theorem tobits_length (n : Nat) : ∀ v, (tobits n v).length = n := by
  induction n with
  | zero => intro v; rfl
  | succ n ih => intro v; simp [tobits, ih]
theorem val_tobits (n : Nat) : ∀ v, val (tobits n v) = v % 2 ^ n := by
  induction n with
  | zero => intro v; simp [tobits, val, Nat.mod_one]
  | succ n ih =>
    intro v
    rw [tobits, val, ih, Nat.pow_succ, Nat.mul_comm (2 ^ n) 2, Nat.mod_mul]
    have : (v % 2 == 1).toNat = v % 2 := by
      rcases Nat.mod_two_eq_zero_or_one v with h | h <;> simp [h]
    rw [this]
theorem val_lt (s : List Bool) : val s < 2 ^ s.length := by
  induction s with
  | nil => simp [val]
  | cons b s ih =>
    rw [val, List.length_cons, Nat.pow_succ]
    have : b.toNat < 2 := Bool.toNat_lt b
    omega
theorem val_append (s t : List Bool) : val (s ++ t) = val s + 2 ^ s.length * val t := by
  induction s with
  | nil => simp [val]
  | cons b s ih =>
    rw [List.cons_append, val, val, ih, List.length_cons, Nat.pow_succ, Nat.mul_add]
    have : 2 * (2 ^ s.length * val t) = 2 ^ s.length * 2 * val t := by rw [← Nat.mul_assoc, Nat.mul_comm 2]
    omega
theorem tobits_val (s : List Bool) : tobits s.length (val s) = s := by
  induction s with
  | nil => rfl
  | cons b s ih =>
    have h1 : (b.toNat + 2 * val s) % 2 = b.toNat := by have : b.toNat < 2 := Bool.toNat_lt b; omega
    have h2 : (b.toNat + 2 * val s) / 2 = val s := by have : b.toNat < 2 := Bool.toNat_lt b; omega
    rw [List.length_cons, val, tobits, h1, h2, ih]
    cases b <;> rfl
theorem tobits_add (m : Nat) : ∀ (n v : Nat), tobits (m + n) v = tobits m v ++ tobits n (v / 2 ^ m) := by
  induction m with
  | zero => intro n v; simp [tobits]
  | succ m ih =>
    intro n v
    rw [show m + 1 + n = (m + n) + 1 by omega, tobits, tobits, ih, Nat.div_div_eq_div_mul, Nat.pow_succ, Nat.mul_comm (2 ^ m) 2]
    rfl
theorem tobits_mod (n : Nat) : ∀ v, tobits n (v % 2 ^ n) = tobits n v := by
  intro v
  have h1 := tobits_val (tobits n v)
  rw [tobits_length, val_tobits] at h1
  exact h1
theorem val_inj {s t : List Bool} (hl : s.length = t.length) (h : val s = val t) : s = t := by
  rw [← tobits_val s, ← tobits_val t, hl, h]
theorem val_take (s : List Bool) (n : Nat) : val (s.take n) = val s % 2 ^ n := by
  by_cases h : n ≤ s.length
  · have h1 := congrArg val (List.take_append_drop n s)
    rw [val_append, List.length_take, Nat.min_eq_left h] at h1
    have h2 := val_lt (s.take n)
    rw [List.length_take, Nat.min_eq_left h] at h2
    rw [← h1, Nat.add_mul_mod_self_left, Nat.mod_eq_of_lt h2]
  · rw [List.take_of_length_le (by omega)]
    have := val_lt s
    rw [Nat.mod_eq_of_lt (Nat.lt_of_lt_of_le this (Nat.pow_le_pow_right (by omega) (by omega)))]
theorem val_drop (s : List Bool) (n : Nat) : val (s.drop n) = val s / 2 ^ n := by
  by_cases h : n ≤ s.length
  · have h1 := congrArg val (List.take_append_drop n s)
    rw [val_append, List.length_take, Nat.min_eq_left h] at h1
    have h2 := val_lt (s.take n)
    rw [List.length_take, Nat.min_eq_left h] at h2
    rw [← h1, Nat.add_mul_div_left _ _ (Nat.pow_pos (by omega)), Nat.div_eq_of_lt h2, Nat.zero_add]
  · rw [List.drop_of_length_le (by omega)]
    have := val_lt s
    rw [Nat.div_eq_of_lt (Nat.lt_of_lt_of_le this (Nat.pow_le_pow_right (by omega) (by omega)))]
    rfl
theorem val_replicate (n : Nat) : val (List.replicate n false) = 0 := by
  induction n with
  | zero => rfl
  | succ n ih => rw [List.replicate_succ, val, ih]; rfl
theorem tobits_zero (n : Nat) : tobits n 0 = List.replicate n false := by
  induction n with
  | zero => rfl
  | succ n ih => rw [tobits, List.replicate_succ, Nat.zero_div, ih]; rfl

/-! ### Bytes -/
def packN : Nat → List Bool → List Int
  | 0, _ => []
  | q + 1, s => (val (s.take 8) : Int) :: packN q (s.drop 8)
/-- Bits in bytes, the lowest first; the last byte is filled up with 0. -/
def pack (s : List Bool) : List Int := packN ((s.length + 7) / 8) s
/-- The bits of bytes. -/
def unpack (d : List Int) : List Bool := d.flatMap fun x => tobits 8 x.toNat

theorem pack_nil : pack [] = [] := rfl
theorem packN_length (q : Nat) : ∀ s, (packN q s).length = q := by
  induction q with
  | zero => intro s; rfl
  | succ q ih => intro s; simp [packN, ih]
theorem pack_length (s : List Bool) : (pack s).length = (s.length + 7) / 8 := packN_length _ _
theorem packN_append (q : Nat) : ∀ (r : Nat) (s t : List Bool), s.length = 8 * q → packN (q + r) (s ++ t) = packN q s ++ packN r t := by
  induction q with
  | zero =>
    intro r s t h
    have : s = [] := List.length_eq_zero_iff.1 (by omega)
    subst this
    simp [packN]
  | succ q ih =>
    intro r s t h
    rw [show q + 1 + r = (q + r) + 1 by omega, packN, packN, List.take_append_of_le_length (by omega), List.drop_append_of_le_length (by omega), ih r _ t (by simp; omega)]
    rfl
theorem pack_append {s : List Bool} {q : Nat} (h : s.length = 8 * q) (t : List Bool) : pack (s ++ t) = pack s ++ pack t := by
  unfold pack
  rw [List.length_append, h]
  have e1 : (8 * q + t.length + 7) / 8 = q + (t.length + 7) / 8 := by omega
  have e2 : (8 * q + 7) / 8 = q := by omega
  rw [e1, e2, packN_append q _ s t h]
theorem pack_short {t : List Bool} (h0 : t ≠ []) (h : t.length ≤ 8) : pack t = [(val t : Int)] := by
  unfold pack
  have : 0 < t.length := List.length_pos_iff.2 h0
  have e : (t.length + 7) / 8 = 0 + 1 := by omega
  rw [e, packN, packN, List.take_of_length_le h]
theorem pack_byte (s : List Bool) : ∀ x ∈ pack s, 0 ≤ x ∧ x < 256 := by
  unfold pack
  generalize (s.length + 7) / 8 = q
  induction q generalizing s with
  | zero => intro x hx; cases hx
  | succ q ih =>
    intro x hx
    rw [packN] at hx
    rcases List.mem_cons.1 hx with rfl | hx
    · have h1 := val_lt (s.take 8)
      have h2 : 2 ^ (s.take 8).length ≤ 2 ^ 8 := Nat.pow_le_pow_right (by omega) (by simp; omega)
      omega
    · exact ih _ x hx
theorem unpack_length (d : List Int) : (unpack d).length = 8 * d.length := by
  unfold unpack
  induction d with
  | nil => rfl
  | cons x d ih => rw [List.flatMap_cons, List.length_append, ih, tobits_length, List.length_cons]; omega
theorem unpack_append (d e : List Int) : unpack (d ++ e) = unpack d ++ unpack e := by simp [unpack]
theorem pack_unpack (d : List Int) (h : ∀ x ∈ d, 0 ≤ x ∧ x < 256) : pack (unpack d) = d := by
  induction d with
  | nil => rfl
  | cons x d ih =>
    have hx := h x (by simp)
    have e : unpack (x :: d) = tobits 8 x.toNat ++ unpack d := by simp [unpack]
    rw [e, pack_append (q := 1) (tobits_length _ _), ih (fun y hy => h y (by simp [hy])), pack_short (by intro hn; have := congrArg List.length hn; rw [tobits_length] at this; simp at this) (by rw [tobits_length]; omega), val_tobits]
    have : ((x.toNat % 2 ^ 8 : Nat) : Int) = x := by omega
    rw [this]; rfl
/-- The bytes of bits, as bits: filled up with 0. -/
theorem unpack_pack (s : List Bool) : unpack (pack s) = s ++ List.replicate (8 * ((s.length + 7) / 8) - s.length) false := by
  unfold pack
  generalize hq : (s.length + 7) / 8 = q
  induction q generalizing s with
  | zero =>
    have : s = [] := List.length_eq_zero_iff.1 (by omega)
    subst this; rfl
  | succ q ih =>
    rw [packN]
    have e : unpack ((val (s.take 8) : Int) :: packN q (s.drop 8)) = tobits 8 (val (s.take 8)) ++ unpack (packN q (s.drop 8)) := by simp [unpack]
    rw [e]
    by_cases h8 : 8 ≤ s.length
    · rw [ih (s.drop 8) (by simp; omega)]
      have h1 : tobits 8 (val (s.take 8)) = s.take 8 := by
        have := tobits_val (s.take 8)
        rwa [List.length_take, Nat.min_eq_left h8] at this
      rw [h1, ← List.append_assoc, List.take_append_drop, List.length_drop]
      congr 2; omega
    · have hd : s.drop 8 = [] := List.drop_of_length_le (by omega)
      have hq0 : q = 0 := by omega
      subst hq0
      rw [packN]
      have e2 : unpack [] = [] := rfl
      rw [e2, List.append_nil, List.take_of_length_le (by omega)]
      have e3 : 8 = s.length + (8 - s.length) := by omega
      have e4 : tobits 8 (val s) = tobits (s.length + (8 - s.length)) (val s) := by rw [← e3]
      rw [e4, tobits_add, tobits_val, Nat.div_eq_of_lt (val_lt s), tobits_zero]
end Go.V
