/- The plain law: the two ways to turn a number's bits round come to the same. -/
import Derived.Test.YtmbcoaiaeeckiaaGBitsReversesPure
import Derived.Test.YtmbcoaiaeeckiaaV11
set_option linter.unusedVariables false
set_option linter.unusedSimpArgs false
namespace Go.V.Pu
open Go Go.V

/-- The low n bits of v, turned round, behind acc. -/
def rev : Nat → Nat → Nat → Nat
  | 0, _, acc => acc
  | n + 1, v, acc => rev n (v / 2) (acc * 2 + v % 2)

theorem rev_acc (n : Nat) : ∀ v acc, rev n v acc = acc * 2 ^ n + rev n v 0 := by
  induction n with
  | zero => intro v acc; simp [rev]
  | succ n ih =>
    intro v acc
    rw [rev, rev, ih, ih (v / 2) (0 * 2 + v % 2), Nat.pow_succ]
    generalize rev n (v / 2) 0 = z
    rw [Nat.add_mul, Nat.add_mul, Nat.mul_assoc, Nat.mul_comm 2 (2 ^ n)]
    simp [Nat.add_assoc]
theorem rev_low (m : Nat) : ∀ v, rev (m + 1) v 0 = v / 2 ^ m % 2 + 2 * rev m v 0 := by
  induction m with
  | zero => intro v; simp [rev]
  | succ m ih =>
    intro v
    rw [rev, rev_acc, ih (v / 2), rev, rev_acc m (v / 2) (0 * 2 + v % 2), Nat.div_div_eq_div_mul, Nat.pow_succ, Nat.mul_comm (2 ^ m) 2]
    rw [Nat.mul_add, ← Nat.mul_assoc, ← Nat.mul_assoc]
    simp only [Nat.zero_mul, Nat.zero_add, Nat.mul_comm, Nat.mul_left_comm]
    omega
theorem rev_lt (n : Nat) : ∀ v acc t, acc < 2 ^ t → rev n v acc < 2 ^ (t + n) := by
  induction n with
  | zero => intro v acc t h; exact h
  | succ n ih =>
    intro v acc t h
    rw [rev, show t + (n + 1) = (t + 1) + n by omega]
    apply ih
    rw [Nat.pow_succ]
    omega

theorem or_low (a b : Nat) (h : b < 2) : a * 2 ||| b = a * 2 + b := by
  have := Nat.shiftLeft_add_eq_or_of_lt (i := 1) (b := b) (by simpa using h) a
  rw [Nat.shiftLeft_eq] at this
  simpa using this.symm

theorem reverse_loop (m : Nat) : ∀ (k v out t : Nat), m < k → v < 2 ^ 32 → out < 2 ^ t → t + m ≤ 32 →
    bits_Reverse.l1 k v out t ((t + m : Nat) : Int) = some ((rev m v out : Nat) : Int) := by
  induction m with
  | zero =>
    intro k v out t hk hv ho ht
    obtain ⟨k, rfl⟩ : ∃ j, k = j + 1 := ⟨k - 1, by omega⟩
    rw [bits_Reverse.l1, if_neg (by omega)]
    simp [rev]
  | succ m ih =>
    intro k v out t hk hv ho ht
    obtain ⟨k, rfl⟩ : ∃ j, k = j + 1 := ⟨k - 1, by omega⟩
    have hp : (2 : Nat) ^ (t + 1) ≤ 2 ^ 32 := Nat.pow_le_pow_right (by omega) (by omega)
    rw [Nat.pow_succ] at hp
    have e1 : shl .u32 (out : Int) (1 : Int) = ((out * 2 : Nat) : Int) := by
      have := shl_nat' (k := .u32) rfl (a := out) (n := 1) (by simp [IntKind.bits]; omega)
      simpa using this
    have e2 : band .u32 (v : Int) (1 : Int) = ((v % 2 : Nat) : Int) := by
      have := band_nat (k := .u32) rfl (a := v) (b := 1) hv (by decide)
      rw [Nat.and_one_is_mod] at this
      exact this
    have e3 : shr .u32 (v : Int) (1 : Int) = ((v / 2 : Nat) : Int) := by
      have := shr_nat (k := .u32) (a := v) (n := 1) hv
      simpa using this
    have e4 : bor .u32 ((out * 2 : Nat) : Int) ((v % 2 : Nat) : Int) = ((out * 2 + v % 2 : Nat) : Int) := by
      rw [bor_nat (k := .u32) rfl (by simp [IntKind.bits]; omega) (by simp [IntKind.bits]; omega), or_low _ _ (by omega)]
    have e5 : IntKind.i64.wrap ((t : Int) + 1) = ((t + 1 : Nat) : Int) := by rw [wr_i64 (by omega)]; rfl
    rw [bits_Reverse.l1, if_pos (by omega), e1, e2, e3, e4, e5]
    simp only [bnd]
    rw [show t + (m + 1) = (t + 1) + m by omega, ih k (v / 2) (out * 2 + v % 2) (t + 1) (by omega) (by omega) (by rw [Nat.pow_succ]; omega) (by omega), rev]

theorem bit_eq {v i : Nat} (hv : v < 2 ^ 32) : valiseref3_bit.f v i = some ((v / 2 ^ i % 2 : Nat) : Int) ∨ 18446744073709551616 ≤ i := by
  by_cases h : i < 18446744073709551616
  · left
    have e0 : IntKind.u64.wrap (i : Int) = i := wr_u64 (by omega)
    rw [valiseref3_bit.f, e0, gd_pos (by omega), shr_nat (k := .u32) hv]
    have e2 : band .u32 ((v / 2 ^ i : Nat) : Int) (1 : Int) = ((v / 2 ^ i % 2 : Nat) : Int) := by
      have := band_nat (k := .u32) rfl (a := v / 2 ^ i) (b := 1) (Nat.lt_of_le_of_lt (Nat.div_le_self _ _) hv) (by decide)
      rw [Nat.and_one_is_mod] at this
      exact this
    rw [e2, wr_u8 (by omega)]
  · right; omega

theorem ref_loop (m : Nat) : ∀ (k v out i : Nat), m < k → v < 2 ^ 32 → out < 2 ^ i → i + m ≤ 32 →
    valiseref3_Reverse.l1 k out i v ((i + m : Nat) : Int) = some ((out + 2 ^ i * rev m v 0 : Nat) : Int) := by
  induction m with
  | zero =>
    intro k v out t hk hv ho ht
    obtain ⟨k, rfl⟩ : ∃ j, k = j + 1 := ⟨k - 1, by omega⟩
    rw [valiseref3_Reverse.l1, if_neg (by omega)]
    simp [rev]
  | succ m ih =>
    intro k v out i hk hv ho ht
    obtain ⟨k, rfl⟩ : ∃ j, k = j + 1 := ⟨k - 1, by omega⟩
    have hp : (2 : Nat) ^ (i + 1) ≤ 2 ^ 32 := Nat.pow_le_pow_right (by omega) (by omega)
    rw [Nat.pow_succ] at hp
    have e1 : IntKind.i64.wrap (IntKind.i64.wrap (((i + (m + 1) : Nat) : Int) - 1) - (i : Int)) = (m : Int) := by
      rw [wr_i64 (x := ((i + (m + 1) : Nat) : Int) - 1) (by omega), wr_i64 (by omega)]; omega
    have e2 : valiseref3_bit.f v m = some ((v / 2 ^ m % 2 : Nat) : Int) := by
      rcases bit_eq (v := v) (i := m) hv with h | h
      · exact h
      · omega
    have e3 : IntKind.u64.wrap (i : Int) = i := wr_u64 (by omega)
    generalize hb : v / 2 ^ m % 2 = b at e2
    have hb2 : b < 2 := by omega
    have hbi : b * 2 ^ i ≤ 2 ^ i := by
      have : b * 2 ^ i ≤ 1 * 2 ^ i := Nat.mul_le_mul_right _ (by omega)
      omega
    have e4 : shl .u32 (IntKind.u32.wrap ((b : Nat) : Int)) (i : Int) = ((b * 2 ^ i : Nat) : Int) := by
      rw [wr_u32 (by omega)]
      exact shl_nat' rfl (by simp only [IntKind.bits]; omega)
    have e5 : IntKind.u32.wrap ((out : Int) + ((b * 2 ^ i : Nat) : Int)) = ((out + b * 2 ^ i : Nat) : Int) := by rw [wr_u32 (by omega)]; rfl
    have e6 : IntKind.i64.wrap ((i : Int) + 1) = ((i + 1 : Nat) : Int) := by rw [wr_i64 (by omega)]; rfl
    rw [valiseref3_Reverse.l1, if_pos (by omega), e1, e2]
    simp only [Option.bind_some, e3, e4, e5, e6, bnd]
    rw [gd_pos (by omega), show i + (m + 1) = (i + 1) + m by omega, ih k v (out + b * 2 ^ i) (i + 1) (by omega) hv (by rw [Nat.pow_succ]; omega) (by omega), rev_low, hb]
    congr 2
    rw [Nat.mul_add, Nat.pow_succ, Nat.mul_comm b, Nat.mul_assoc]
    omega

theorem valiselaw3_BitsReverses_true (v n : Int) (hv : (Lit.int .u32 v).wf = true) (hn : (Lit.int .i64 n).wf = true) : valiselaw3_BitsReverses.f v n = some true := by
  obtain ⟨v, rfl, hv'⟩ := wf_u (k := .u32) rfl hv
  have hn := wf_i64 hn
  have hv' : v < 2 ^ 32 := hv'
  unfold valiselaw3_BitsReverses.f bits_Reverse.f valiseref3_Reverse.f valiselaw3_num.f
  by_cases hb : n < 0 ∨ 32 < n
  · simp [hb]
  · obtain ⟨n, rfl⟩ : ∃ m : Nat, n = m := ⟨n.toNat, by omega⟩
    have hn32 : n ≤ 32 := by omega
    have e0 : IntKind.u64.wrap (n : Int) = n := wr_u64 (by omega)
    have ev : IntKind.u64.wrap (v : Int) = v := wr_u64 (by omega)
    have e1 : shl .u64 1 (n : Int) = ((2 ^ n : Nat) : Int) := by
      have hp : (2 : Nat) ^ n ≤ 2 ^ 32 := Nat.pow_le_pow_right (by omega) hn32
      have := shl_nat' (k := .u64) rfl (a := 1) (n := n) (by simp only [IntKind.bits]; omega)
      simpa using this
    have e2 : shr .u64 (v : Int) (n : Int) = ((v / 2 ^ n : Nat) : Int) := shr_nat (k := .u64) (by simp only [IntKind.bits]; omega)
    have hd : (v / 2 ^ n ≠ 0) ↔ ¬ v < 2 ^ n := by
      rw [Ne, Nat.div_eq_zero_iff_lt (Nat.pow_pos (by omega))]
    simp only [if_neg hb, e0, ev, e2, valiseref3_below.f, e1]
    rw [gd_pos (by omega), gd_pos (by omega)]
    simp only [Option.bind_some]
    by_cases hl : v < 2 ^ n
    · have r1 : bits_Reverse.l1 FU v 0 0 n = some ((rev n v 0 : Nat) : Int) := by simpa using reverse_loop n FU v 0 0 (by rw [FU_eq]; omega) hv' (by simp) (by omega)
      have r2 : valiseref3_Reverse.l1 FU 0 0 v n = some ((rev n v 0 : Nat) : Int) := by simpa using ref_loop n FU v 0 0 (by rw [FU_eq]; omega) hv' (by simp) (by omega)
      have hq : v / 2 ^ n = 0 := Nat.div_eq_of_lt hl
      have hl' : (v : Int) < ((2 ^ n : Nat) : Int) := by omega
      simp [hq, hl', r1, r2, -Int.natCast_pow]
    · have hq : v / 2 ^ n ≠ 0 := hd.2 hl
      have hq' : ((v / 2 ^ n : Nat) : Int) ≠ 0 := by omega
      have hl' : ¬ (v : Int) < ((2 ^ n : Nat) : Int) := by omega
      have hl2 : 2 ^ n ≤ v := by omega
      simp [hl2, hl', -Int.natCast_pow, -Int.natCast_ediv]
end Go.V.Pu
