/- Words of the program as natural numbers. -/
import Derived.Test.YtbegkkmngkpjmaaV9
set_option linter.unusedVariables false
set_option linter.unusedSimpArgs false
namespace Go.V
open Go

theorem FU_eq : FU = 36893488147419103232 := rfl

theorem wrap_u {k : IntKind} (hk : k.signed = false) (x : Int) : k.wrap x = x % (2 ^ k.bits : Int) := by
  simp [IntKind.wrap, hk]
theorem wrap_nat {k : IntKind} (hk : k.signed = false) {a : Nat} (h : a < 2 ^ k.bits) : k.wrap (a : Int) = a := by
  rw [wrap_u hk]
  have : (2 ^ k.bits : Int) = ((2 ^ k.bits : Nat) : Int) := by simp
  rw [this, ← Int.natCast_emod, Nat.mod_eq_of_lt h]
theorem band_nat {k : IntKind} (hk : k.signed = false) {a b : Nat} (ha : a < 2 ^ k.bits) (hb : b < 2 ^ k.bits) : band k a b = ((a &&& b : Nat) : Int) := by
  unfold band
  rw [BitVec.ofInt_natCast, BitVec.ofInt_natCast, BitVec.toNat_and, BitVec.toNat_ofNat, BitVec.toNat_ofNat, Nat.mod_eq_of_lt ha, Nat.mod_eq_of_lt hb]
  exact wrap_nat hk (Nat.lt_of_le_of_lt Nat.and_le_left ha)
theorem bor_nat {k : IntKind} (hk : k.signed = false) {a b : Nat} (ha : a < 2 ^ k.bits) (hb : b < 2 ^ k.bits) : bor k a b = ((a ||| b : Nat) : Int) := by
  unfold bor
  rw [BitVec.ofInt_natCast, BitVec.ofInt_natCast, BitVec.toNat_or, BitVec.toNat_ofNat, BitVec.toNat_ofNat, Nat.mod_eq_of_lt ha, Nat.mod_eq_of_lt hb]
  exact wrap_nat hk (Nat.or_lt_two_pow ha hb)
theorem bxor_nat {k : IntKind} (hk : k.signed = false) {a b : Nat} (ha : a < 2 ^ k.bits) (hb : b < 2 ^ k.bits) : bxor k a b = ((a ^^^ b : Nat) : Int) := by
  unfold bxor
  rw [BitVec.ofInt_natCast, BitVec.ofInt_natCast, BitVec.toNat_xor, BitVec.toNat_ofNat, BitVec.toNat_ofNat, Nat.mod_eq_of_lt ha, Nat.mod_eq_of_lt hb]
  exact wrap_nat hk (Nat.xor_lt_two_pow ha hb)
theorem shr_nat {k : IntKind} {a n : Nat} (ha : a < 2 ^ k.bits) : shr k a n = ((a / 2 ^ n : Nat) : Int) := by
  unfold shr
  have e : ((2 : Int) ^ (min (n : Int).toNat k.bits)) = ((2 ^ (min n k.bits) : Nat) : Int) := by simp
  rw [e, Int.fdiv_eq_ediv_of_nonneg _ (Int.natCast_nonneg _), ← Int.natCast_ediv]
  by_cases h : n ≤ k.bits
  · rw [Nat.min_eq_left h]
  · rw [Nat.min_eq_right (by omega), Nat.div_eq_of_lt ha, Nat.div_eq_of_lt (Nat.lt_of_lt_of_le ha (Nat.pow_le_pow_right (by omega) (by omega)))]
theorem shl_nat {k : IntKind} (hk : k.signed = false) {a n : Nat} : shl k a n = ((a * 2 ^ n % 2 ^ k.bits : Nat) : Int) := by
  unfold shl
  rw [wrap_u hk]
  have e : ((2 : Int) ^ (min (n : Int).toNat k.bits)) = ((2 ^ (min n k.bits) : Nat) : Int) := by simp
  have e2 : (2 ^ k.bits : Int) = ((2 ^ k.bits : Nat) : Int) := by simp
  rw [e, e2, ← Int.natCast_mul, ← Int.natCast_emod]
  by_cases h : n ≤ k.bits
  · rw [Nat.min_eq_left h]
  · rw [Nat.min_eq_right (by omega), Nat.mul_mod_left]
    have : 2 ^ n = 2 ^ k.bits * 2 ^ (n - k.bits) := by rw [← Nat.pow_add]; congr 1; omega
    rw [this, Nat.mul_comm a, Nat.mul_assoc, Nat.mul_mod_right]
theorem shl_nat' {k : IntKind} (hk : k.signed = false) {a n : Nat} (h : a * 2 ^ n < 2 ^ k.bits) : shl k a n = ((a * 2 ^ n : Nat) : Int) := by
  rw [shl_nat hk, Nat.mod_eq_of_lt h]

/-- A number of a kind as a natural number. -/
theorem wf_u {k : IntKind} {x : Int} (hk : k.signed = false) (h : (Lit.int k x).wf = true) : ∃ a : Nat, x = a ∧ a < 2 ^ k.bits := by
  simp only [Lit.wf, Bool.and_eq_true, decide_eq_true_eq] at h
  cases k <;> simp [IntKind.signed] at hk <;> simp [IntKind.min, IntKind.max, IntKind.signed, IntKind.bits] at h ⊢ <;> exact ⟨x.toNat, by omega, by omega⟩
theorem wf_i64 {x : Int} (h : (Lit.int .i64 x).wf = true) : -9223372036854775808 ≤ x ∧ x ≤ 9223372036854775807 := by
  simpa [Lit.wf, IntKind.min, IntKind.max, IntKind.signed, IntKind.bits] using h
end Go.V
