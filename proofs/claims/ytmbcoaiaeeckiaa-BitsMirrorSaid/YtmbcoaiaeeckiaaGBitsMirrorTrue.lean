/- The plain law: of a reversed number the highest bit comes off first. -/
import Derived.Test.YtmbcoaiaeeckiaaGBitsMirrorPure
import Derived.Test.YtmbcoaiaeeckiaaQ2
set_option linter.unusedVariables false
set_option linter.unusedSimpArgs false
namespace Go.V.Pu
open Go Go.V

/-- The low n bits of v, turned round, behind acc. -/
def rev : Nat → Nat → Nat → Nat
  | 0, _, acc => acc
  | n + 1, v, acc => rev n (v / 2) (acc * 2 + v % 2)

theorem rev_acc (n : Nat) : ∀ v acc, rev n v acc = acc * 2 ^ n + rev n v 0 := by
  induction n with
  | zero => intro v acc; simp [rev]
  | succ n ih =>
    intro v acc
    rw [rev, rev, ih, ih (v / 2) (0 * 2 + v % 2), Nat.pow_succ]
    generalize rev n (v / 2) 0 = z
    rw [Nat.add_mul, Nat.add_mul, Nat.mul_assoc, Nat.mul_comm 2 (2 ^ n)]
    simp [Nat.add_assoc]
theorem rev_low (m : Nat) : ∀ v, rev (m + 1) v 0 = v / 2 ^ m % 2 + 2 * rev m v 0 := by
  induction m with
  | zero => intro v; simp [rev]
  | succ m ih =>
    intro v
    rw [rev, rev_acc, ih (v / 2), rev, rev_acc m (v / 2) (0 * 2 + v % 2), Nat.div_div_eq_div_mul, Nat.pow_succ, Nat.mul_comm (2 ^ m) 2]
    rw [Nat.mul_add, ← Nat.mul_assoc, ← Nat.mul_assoc]
    simp only [Nat.zero_mul, Nat.zero_add, Nat.mul_comm, Nat.mul_left_comm]
    omega
theorem rev_lt (n : Nat) : ∀ v acc t, acc < 2 ^ t → rev n v acc < 2 ^ (t + n) := by
  induction n with
  | zero => intro v acc t h; exact h
  | succ n ih =>
    intro v acc t h
    rw [rev, show t + (n + 1) = (t + 1) + n by omega]
    apply ih
    rw [Nat.pow_succ]
    omega

theorem or_low (a b : Nat) (h : b < 2) : a * 2 ||| b = a * 2 + b := by
  have := Nat.shiftLeft_add_eq_or_of_lt (i := 1) (b := b) (by simpa using h) a
  rw [Nat.shiftLeft_eq] at this
  simpa using this.symm

theorem reverse_loop (m : Nat) : ∀ (k v out t : Nat), m < k → v < 2 ^ 32 → out < 2 ^ t → t + m ≤ 32 →
    bits_Reverse.l1 k v out t ((t + m : Nat) : Int) = some ((rev m v out : Nat) : Int) := by
  induction m with
  | zero =>
    intro k v out t hk hv ho ht
    obtain ⟨k, rfl⟩ : ∃ j, k = j + 1 := ⟨k - 1, by omega⟩
    rw [bits_Reverse.l1, if_neg (by omega)]
    simp [rev]
  | succ m ih =>
    intro k v out t hk hv ho ht
    obtain ⟨k, rfl⟩ : ∃ j, k = j + 1 := ⟨k - 1, by omega⟩
    have hp : (2 : Nat) ^ (t + 1) ≤ 2 ^ 32 := Nat.pow_le_pow_right (by omega) (by omega)
    rw [Nat.pow_succ] at hp
    have e1 : shl .u32 (out : Int) (1 : Int) = ((out * 2 : Nat) : Int) := by
      have := shl_nat' (k := .u32) rfl (a := out) (n := 1) (by simp [IntKind.bits]; omega)
      simpa using this
    have e2 : band .u32 (v : Int) (1 : Int) = ((v % 2 : Nat) : Int) := by
      have := band_nat (k := .u32) rfl (a := v) (b := 1) hv (by decide)
      rw [Nat.and_one_is_mod] at this
      exact this
    have e3 : shr .u32 (v : Int) (1 : Int) = ((v / 2 : Nat) : Int) := by
      have := shr_nat (k := .u32) (a := v) (n := 1) hv
      simpa using this
    have e4 : bor .u32 ((out * 2 : Nat) : Int) ((v % 2 : Nat) : Int) = ((out * 2 + v % 2 : Nat) : Int) := by
      rw [bor_nat (k := .u32) rfl (by simp [IntKind.bits]; omega) (by simp [IntKind.bits]; omega), or_low _ _ (by omega)]
    have e5 : IntKind.i64.wrap ((t : Int) + 1) = ((t + 1 : Nat) : Int) := by rw [wr_i64 (by omega)]; rfl
    rw [bits_Reverse.l1, if_pos (by omega), e1, e2, e3, e4, e5]
    simp only [bnd]
    rw [show t + (m + 1) = (t + 1) + m by omega, ih k (v / 2) (out * 2 + v % 2) (t + 1) (by omega) (by omega) (by rw [Nat.pow_succ]; omega) (by omega), rev]

theorem tobits_rev (n : Nat) : ∀ v, tobits n (rev n v 0) = (tobits n v).reverse := by
  induction n with
  | zero => intro v; rfl
  | succ m ih =>
    intro v
    have h2 : (v / 2 ^ m % 2 + 2 * rev m v 0) % 2 = v / 2 ^ m % 2 := by omega
    have h3 : (v / 2 ^ m % 2 + 2 * rev m v 0) / 2 = rev m v 0 := by omega
    rw [rev_low, tobits, h2, h3, ih, tobits_add m 1 v, List.reverse_append]
    rfl
theorem bits_Reverse_spec (v n : Nat) (hn : n ≤ 32) (hv : v < 2 ^ n) : bits_Reverse.f (v : Int) (n : Int) = some (((rev n v 0 : Nat) : Int), 0) := by
  have hp : (2 : Nat) ^ n ≤ 2 ^ 32 := Nat.pow_le_pow_right (by omega) hn
  have hv' : v < 2 ^ 32 := by omega
  have e0 : IntKind.u64.wrap (n : Int) = n := wr_u64 (by omega)
  have ev : IntKind.u64.wrap (v : Int) = v := wr_u64 (by omega)
  have e2 : shr .u64 (v : Int) (n : Int) = 0 := by
    have := shr_nat (k := .u64) (a := v) (n := n) (by simp only [IntKind.bits]; omega)
    rw [Nat.div_eq_of_lt hv] at this; exact this
  have r1 : bits_Reverse.l1 FU v 0 0 n = some ((rev n v 0 : Nat) : Int) := by simpa using reverse_loop n FU v 0 0 (by rw [FU_eq]; omega) hv' (by simp) (by omega)
  rw [bits_Reverse.f, if_neg (by omega), e0, ev, gd_pos (by omega), e2]
  simp only [Option.bind_some, ne_eq, not_true_eq_false, decide_false, Bool.false_eq_true, if_false]
  rw [r1]; rfl

theorem set_last (l : List Int) (x y : Int) : (l ++ [x]).set l.length y = l ++ [y] := by
  rw [List.set_append_right _ _ (Nat.le_refl _), Nat.sub_self]; rfl
theorem rd_last (l : List Int) (x : Int) : rd (l ++ [x]) (l.length : Int) = x := by
  show (l ++ [x]).getD ((l.length : Int).toNat) 0 = x
  rw [Int.toNat_natCast, List.getD_eq_getElem?_getD, List.getElem?_append_right (Nat.le_refl _), Nat.sub_self]; rfl
/-- One step: k bits of v into the last byte, which holds p. -/
theorem lay_byte (v k i : Nat) (p : List Bool) (hv : v < 2 ^ 64) (hk : k + i ≤ 8) (hp : p.length = i) :
    bor .u8 (val p : Int) (IntKind.u8.wrap (shl .u64 (band .u64 (v : Int) (IntKind.u64.wrap (shl .u64 1 (IntKind.u64.wrap (k : Int)) - 1))) (IntKind.u64.wrap (i : Int)))) = (val (p ++ tobits k v) : Int) := by
  have hk8 : (2 : Nat) ^ k ≤ 2 ^ 8 := Nat.pow_le_pow_right (by omega) (by omega)
  have hk1 : 0 < (2 : Nat) ^ k := Nat.pow_pos (by omega)
  have hi1 : 0 < (2 : Nat) ^ i := Nat.pow_pos (by omega)
  have hki : (2 : Nat) ^ k * 2 ^ i ≤ 2 ^ 8 := by rw [← Nat.pow_add]; exact Nat.pow_le_pow_right (by omega) hk
  have e1 : IntKind.u64.wrap (k : Int) = k := wr_u64 (by omega)
  have e2 : IntKind.u64.wrap (i : Int) = i := wr_u64 (by omega)
  have e3 : shl .u64 1 (k : Int) = ((2 ^ k : Nat) : Int) := by
    have := shl_nat' (k := .u64) rfl (a := 1) (n := k) (by simp only [IntKind.bits]; omega)
    simpa using this
  have e4 : IntKind.u64.wrap (((2 ^ k : Nat) : Int) - 1) = ((2 ^ k - 1 : Nat) : Int) := by rw [wr_u64 (by omega)]; omega
  have e5 : band .u64 (v : Int) ((2 ^ k - 1 : Nat) : Int) = ((v % 2 ^ k : Nat) : Int) := by
    have := band_nat (k := .u64) rfl (a := v) (b := 2 ^ k - 1) hv (by simp only [IntKind.bits]; omega)
    rw [Nat.and_two_pow_sub_one_eq_mod] at this
    exact this
  have hm : v % 2 ^ k < 2 ^ k := Nat.mod_lt _ hk1
  have hmi : v % 2 ^ k * 2 ^ i + 2 ^ i ≤ 2 ^ 8 := by
    have : (v % 2 ^ k + 1) * 2 ^ i ≤ 2 ^ k * 2 ^ i := Nat.mul_le_mul_right _ hm
    rw [Nat.add_mul] at this; omega
  have e6 : shl .u64 ((v % 2 ^ k : Nat) : Int) (i : Int) = ((v % 2 ^ k * 2 ^ i : Nat) : Int) := shl_nat' rfl (by simp only [IntKind.bits]; omega)
  have hpv : val p < 2 ^ i := by have := val_lt p; rwa [hp] at this
  rw [e1, e2, e3, e4, e5, e6, wr_u8 (by omega), bor_nat (k := .u8) rfl (by simp only [IntKind.bits]; omega) (by simp only [IntKind.bits]; omega), val_append, val_tobits, hp, Nat.or_comm]
  have := Nat.shiftLeft_add_eq_or_of_lt (i := i) (b := val p) hpv (v % 2 ^ k)
  rw [Nat.shiftLeft_eq] at this
  rw [← this, Nat.add_comm, Nat.mul_comm]

theorem pack_step (s : List Bool) (t : List Bool) (h0 : t ≠ []) (hl : s.length % 8 + t.length ≤ 8) :
    (s.length % 8 = 0 → pack (s ++ t) = pack s ++ [(val t : Int)]) ∧
    (s.length % 8 ≠ 0 → ∃ l p, pack s = l ++ [(val p : Int)] ∧ p.length = s.length % 8 ∧ pack (s ++ t) = l ++ [(val (p ++ t) : Int)]) := by
  constructor
  · intro h
    rw [pack_append (q := s.length / 8) (by omega), pack_short h0 (by omega)]
  · intro h
    have hs : s = s.take (8 * (s.length / 8)) ++ s.drop (8 * (s.length / 8)) := (List.take_append_drop _ _).symm
    have hp : (s.drop (8 * (s.length / 8))).length = s.length % 8 := by rw [List.length_drop]; omega
    have hq : (s.take (8 * (s.length / 8))).length = 8 * (s.length / 8) := by rw [List.length_take]; omega
    have hpn : s.drop (8 * (s.length / 8)) ≠ [] := by intro e; rw [e] at hp; simp at hp; omega
    refine ⟨pack (s.take (8 * (s.length / 8))), s.drop (8 * (s.length / 8)), ?_, hp, ?_⟩
    · conv => lhs; rw [hs]
      rw [pack_append hq, pack_short hpn (by omega)]
    · conv => lhs; rw [hs, List.append_assoc]
      rw [pack_append hq, pack_short (t := s.drop (8 * (s.length / 8)) ++ t) (fun e => hpn (List.append_eq_nil_iff.1 e).1) (by rw [List.length_append]; omega)]

theorem lay_loop (m : Nat) : ∀ (k n v : Nat) (s : List Bool), n ≤ m → m < k → v < 2 ^ 64 → s.length + n ≤ 1099511627776 →
    bits_Writer_lay.l1 k (pack s) (s.length : Int) (v : Int) (n : Int) = some (pack (s ++ tobits n v), ((s.length + n : Nat) : Int)) := by
  induction m with
  | zero =>
    intro k n v s hn hk hv hs
    obtain ⟨k, rfl⟩ : ∃ j, k = j + 1 := ⟨k - 1, by omega⟩
    obtain rfl : n = 0 := by omega
    rw [bits_Writer_lay.l1, if_neg (by omega)]
    simp [tobits]
  | succ m ih =>
    intro k n v s hn hk hv hs
    obtain ⟨k, rfl⟩ : ∃ j, k = j + 1 := ⟨k - 1, by omega⟩
    by_cases hn0 : n = 0
    · subst hn0
      rw [bits_Writer_lay.l1, if_neg (by omega)]
      simp [tobits]
    · have hpl : (pack s).length = (s.length + 7) / 8 := pack_length s
      have e0 : Int.tmod (s.length : Int) 8 = ((s.length % 8 : Nat) : Int) := by rw [Int.tmod_eq_emod_of_nonneg (by omega)]; omega
      generalize hi : s.length % 8 = i at e0
      have e1 : min (IntKind.i64.wrap (8 - (i : Int))) (n : Int) = ((min (8 - i) n : Nat) : Int) := by rw [wr_i64 (by omega)]; omega
      generalize hj : min (8 - i) n = j at e1
      have hj1 : 1 ≤ j ∧ j + i ≤ 8 ∧ j ≤ n := by omega
      have e2 : shr .u64 (v : Int) (IntKind.u64.wrap (j : Int)) = ((v / 2 ^ j : Nat) : Int) := by rw [wr_u64 (by omega)]; exact shr_nat (k := .u64) hv
      have e3 : IntKind.i64.wrap ((n : Int) - (j : Int)) = ((n - j : Nat) : Int) := by rw [wr_i64 (by omega)]; omega
      have hv2 : v / 2 ^ j < 2 ^ 64 := Nat.lt_of_le_of_lt (Nat.div_le_self _ _) hv
      have htn : tobits j v ≠ [] := by intro e; have := congrArg List.length e; rw [tobits_length] at this; simp at this; omega
      have hsplit : tobits n v = tobits j v ++ tobits (n - j) (v / 2 ^ j) := by rw [← tobits_add]; congr 1; omega
      have goal : ∀ l, l = pack (s ++ tobits j v) → bits_Writer_lay.l1 k l (IntKind.i64.wrap ((s.length : Int) + (j : Int))) ((v / 2 ^ j : Nat) : Int) ((n - j : Nat) : Int) = some (pack (s ++ tobits n v), ((s.length + n : Nat) : Int)) := by
        rintro l rfl
        have hsl : (s ++ tobits j v).length = s.length + j := by rw [List.length_append, tobits_length]
        have e4 : IntKind.i64.wrap ((s.length : Int) + (j : Int)) = ((s ++ tobits j v).length : Int) := by rw [wr_i64 (by omega), hsl]; omega
        rw [e4, ih k (n - j) (v / 2 ^ j) (s ++ tobits j v) (by omega) (by omega) hv2 (by rw [hsl]; omega), hsl, hsplit, List.append_assoc]
        congr 3; omega
      have hw : ∀ q : Nat, q < 1099511627776 → IntKind.u64.wrap ((q : Nat) : Int) = q := fun q hq => wr_u64 (by omega)
      rw [bits_Writer_lay.l1, if_pos (by omega), bnd_eq, e0]
      obtain ⟨p1, p2⟩ := pack_step s (tobits j v) htn (by rw [tobits_length]; omega)
      by_cases hi0 : i = 0
      · subst hi0
        have hlen : (pack s ++ [(0 : Int)]).length = (pack s).length + 1 := by simp
        rw [if_pos (show ((0 : Nat) : Int) = 0 from rfl), bnd_eq, gd_pos (by rw [hlen]; omega), Option.bind_some, bnd_eq, e1, gd_pos (by rw [hw j (by omega)]; omega), bnd_eq]
        have e5 : IntKind.i64.wrap (((pack s ++ [(0 : Int)]).length : Int) - 1) = ((pack s).length : Int) := by rw [wr_i64 (by rw [hlen]; omega), hlen]; omega
        rw [e5, gd_pos (by rw [hlen]; omega), gd_pos (by rw [hw 0 (by omega)]; omega), bnd_eq, bnd_eq, e2, bnd_eq, e3]
        apply goal
        rw [Int.toNat_natCast, set_last, rd_last]
        have := lay_byte v j 0 [] hv (by omega) rfl
        rw [show (val [] : Int) = 0 from rfl] at this
        rw [this, p1 hi]
        rfl
      · rw [if_neg (by omega), Option.bind_some, bnd_eq, e1, gd_pos (by rw [hw j (by omega)]; omega), bnd_eq]
        obtain ⟨l, p, hpk, hpl2, hpk2⟩ := p2 (by omega)
        have hlen : (l ++ [(val p : Int)]).length = l.length + 1 := by simp
        have e5 : IntKind.i64.wrap (((l ++ [(val p : Int)]).length : Int) - 1) = (l.length : Int) := by
          have : l.length + 1 = (s.length + 7) / 8 := by rw [← hlen, ← hpk, hpl]
          rw [wr_i64 (by rw [hlen]; omega), hlen]; omega
        rw [hpk, e5, gd_pos (by rw [hlen]; omega), gd_pos (by rw [hw i (by omega)]; omega), bnd_eq, bnd_eq, e2, bnd_eq, e3]
        apply goal
        rw [Int.toNat_natCast, set_last, rd_last, lay_byte v j i p hv (by omega) (by rw [hpl2, hi]), hpk2]

theorem bits_Writer_lay_spec (s : List Bool) (v n : Nat) (hv : v < 2 ^ 64) (hs : s.length + n ≤ 1099511627776) :
    bits_Writer_lay.f (pack s) (s.length : Int) (v : Int) (n : Int) = some (pack (s ++ tobits n v), ((s.length + n : Nat) : Int)) := by
  rw [bits_Writer_lay.f, lay_loop n FU n v s (Nat.le_refl _) (by rw [FU_eq]; omega) hv hs]
  rfl

theorem pack_ne {s : List Bool} (h : s ≠ []) : (pack s).length ≠ 0 := by
  rw [pack_length]
  have := List.length_pos_iff.2 h
  omega
theorem cpy_same {l m : List Int} (h : l.length = m.length) : cpy l m = m := by
  unfold cpy
  rw [h, List.take_length, List.drop_eq_nil_of_le (by omega), List.append_nil]

theorem bits_Writer_Put_spec (s : List Bool) (v : Nat) (n : Int) (hv : v < 2 ^ 32) (hn : -9223372036854775808 ≤ n ∧ n ≤ 9223372036854775807) (hs : s.length ≤ 268435456) :
    bits_Writer_Put.f (pack s) (s.length : Int) (v : Int) n = if 0 ≤ n ∧ n ≤ 32 ∧ v < 2 ^ n.toNat ∧ s.length + n.toNat ≤ 268435456 then some (0, pack (s ++ tobits n.toNat v), ((s ++ tobits n.toNat v).length : Int)) else some (1, pack s, (s.length : Int)) := by
  unfold bits_Writer_Put.f
  by_cases hb : n < 0 ∨ 32 < n
  · rw [if_pos hb, if_neg (by omega)]
    simp
  · obtain ⟨n, rfl⟩ : ∃ m : Nat, n = m := ⟨n.toNat, by omega⟩
    have e0 : IntKind.u64.wrap (n : Int) = n := wr_u64 (by omega)
    have ev : IntKind.u64.wrap (v : Int) = v := wr_u64 (by omega)
    have e2 : shr .u64 (v : Int) (n : Int) = ((v / 2 ^ n : Nat) : Int) := shr_nat (k := .u64) (by simp only [IntKind.bits]; omega)
    have e3 : IntKind.i64.wrap ((s.length : Int) + (n : Int)) = ((s.length + n : Nat) : Int) := by rw [wr_i64 (by omega)]; rfl
    rw [if_neg hb, e0, ev, gd_pos (by omega), e2, e3, Option.bind_some]
    have hd : (v / 2 ^ n = 0) ↔ v < 2 ^ n := Nat.div_eq_zero_iff_lt (Nat.pow_pos (by omega))
    simp only [Int.toNat_natCast]
    by_cases hl : v < 2 ^ n ∧ s.length + n ≤ 268435456
    · have hq : ((v / 2 ^ n : Nat) : Int) = 0 := by rw [hd.2 hl.1]; rfl
      rw [if_neg (by simp only [hq]; simp; omega), if_pos (by omega), bits_Writer_lay_spec s v n (by omega) (by omega), List.length_append, tobits_length]
      rfl
    · have hc : (decide (((v / 2 ^ n : Nat) : Int) ≠ 0) = true) ∨ (268435456 < ((s.length + n : Nat) : Int)) := by
        by_cases h1 : v < 2 ^ n
        · right; omega
        · left
          have : v / 2 ^ n ≠ 0 := fun e => h1 (hd.1 e)
          exact decide_eq_true (by omega)
      rw [if_pos hc, if_neg (by omega)]

theorem bits_Writer_Bytes_spec (d : List Int) (n : Int) (h : d.length ≤ 35184372088832) : bits_Writer_Bytes.f d n = some d := by
  unfold bits_Writer_Bytes.f
  by_cases h0 : (d.length : Int) = 0
  · rw [if_pos h0]
    have : d = [] := List.length_eq_zero_iff.1 (by omega)
    rw [this]
  · rw [if_neg h0, gd_pos (by omega), bnd_eq, bnd_eq, cpy_same (by simp)]

theorem bits_NewReader_spec (d : List Int) (h : d.length ≤ 33554432) : bits_NewReader.f d = some (some (d, 0)) := by
  unfold bits_NewReader.f
  rw [if_neg (by omega), gd_pos (by omega), bnd_eq, bnd_eq, cpy_same (by simp)]
/-- The bits of a byte, cut out. -/
theorem cut_byte (x at_ k i : Nat) (hx : x < 256) (hk : i + k ≤ 8) :
    band .u64 (IntKind.u64.wrap (shr .u8 (x : Int) (IntKind.u64.wrap (i : Int)))) (IntKind.u64.wrap (shl .u64 1 (IntKind.u64.wrap (k : Int)) - 1)) = ((x / 2 ^ i % 2 ^ k : Nat) : Int) := by
  have hk8 : (2 : Nat) ^ k ≤ 2 ^ 8 := Nat.pow_le_pow_right (by omega) (by omega)
  have hk1 : 0 < (2 : Nat) ^ k := Nat.pow_pos (by omega)
  have e1 : IntKind.u64.wrap (k : Int) = k := wr_u64 (by omega)
  have e2 : IntKind.u64.wrap (i : Int) = i := wr_u64 (by omega)
  have e3 : shl .u64 1 (k : Int) = ((2 ^ k : Nat) : Int) := by
    have := shl_nat' (k := .u64) rfl (a := 1) (n := k) (by simp only [IntKind.bits]; omega)
    simpa using this
  have e4 : IntKind.u64.wrap (((2 ^ k : Nat) : Int) - 1) = ((2 ^ k - 1 : Nat) : Int) := by rw [wr_u64 (by omega)]; omega
  have e5 : shr .u8 (x : Int) (i : Int) = ((x / 2 ^ i : Nat) : Int) := shr_nat (k := .u8) (by simp only [IntKind.bits]; omega)
  have hd : x / 2 ^ i < 256 := Nat.lt_of_le_of_lt (Nat.div_le_self _ _) hx
  have e6 : band .u64 ((x / 2 ^ i : Nat) : Int) ((2 ^ k - 1 : Nat) : Int) = ((x / 2 ^ i % 2 ^ k : Nat) : Int) := by
    have := band_nat (k := .u64) rfl (a := x / 2 ^ i) (b := 2 ^ k - 1) (by simp only [IntKind.bits]; omega) (by simp only [IntKind.bits]; omega)
    rw [Nat.and_two_pow_sub_one_eq_mod] at this
    exact this
  have e7 : IntKind.u64.wrap ((x / 2 ^ i : Nat) : Int) = ((x / 2 ^ i : Nat) : Int) := by
    generalize x / 2 ^ i = y at hd
    exact wr_u64 (by omega)
  rw [e1, e2, e3, e4, e5, e7, e6]
/-- .. as bits of the string. -/
theorem cut_bits (d : List Int) (hd : ∀ x ∈ d, 0 ≤ x ∧ x < 256) (a k : Nat) (ha : a < 8 * d.length) (hk : a % 8 + k ≤ 8) :
    val (((unpack d).drop a).take k) = (rd d ((a / 8 : Nat) : Int)).toNat / 2 ^ (a % 8) % 2 ^ k := by
  have hq : a / 8 < d.length := by omega
  have hx : d[a / 8]? = some d[a / 8] := List.getElem?_eq_getElem hq
  have e : d = d.take (a / 8) ++ d[a / 8] :: d.drop (a / 8 + 1) := by rw [← drop_cons hx, List.take_append_drop]
  have e2 : unpack d = unpack (d.take (a / 8)) ++ (tobits 8 (d[a / 8]).toNat ++ unpack (d.drop (a / 8 + 1))) := by
    conv => lhs; rw [e]
    rw [unpack_append]
    congr 1
  have e3 : (unpack (d.take (a / 8))).length = 8 * (a / 8) := by rw [unpack_length, List.length_take]; omega
  have e4 : a = 8 * (a / 8) + a % 8 := by omega
  have e5 : (unpack d).drop a = (tobits 8 (d[a / 8]).toNat).drop (a % 8) ++ unpack (d.drop (a / 8 + 1)) := by
    have e6 : (unpack d).drop a = ((unpack d).drop (8 * (a / 8))).drop (a % 8) := by rw [List.drop_drop]; congr 1
    rw [e6, e2, List.drop_left' e3, List.drop_append_of_le_length (by rw [tobits_length]; omega)]
  rw [e5, List.take_append_of_le_length (by rw [List.length_drop, tobits_length]; omega), val_take, val_drop, val_tobits, rd_at hx]
  have hb := hd _ (List.getElem_mem hq)
  rw [Nat.mod_eq_of_lt (a := (d[a / 8]).toNat) (by omega)]

theorem ahead_loop (d : List Int) (hd : ∀ x ∈ d, 0 ≤ x ∧ x < 256) (hl : d.length ≤ 33554432) (n : Nat) (hn : n ≤ 32) (at0 : Nat) (m : Nat) : ∀ (k got v : Nat), n - got ≤ m → m < k → got ≤ n →
    v = val (((unpack d).drop at0).take got) → at0 + got ≤ 8 * d.length →
    bits_Reader_ahead.l1 k (v : Int) (got : Int) ((at0 + got : Nat) : Int) d (n : Int) = some ((val (((unpack d).drop at0).take n) : Nat) : Int) := by
  induction m with
  | zero =>
    intro k got v hm hk hg hv ha
    obtain ⟨k, rfl⟩ : ∃ j, k = j + 1 := ⟨k - 1, by omega⟩
    obtain rfl : got = n := by omega
    rw [bits_Reader_ahead.l1, if_neg (by omega), hv]
  | succ m ih =>
    intro k got v hm hk hg hv ha
    obtain ⟨k, rfl⟩ : ∃ j, k = j + 1 := ⟨k - 1, by omega⟩
    have e8 : IntKind.i64.wrap (8 * (d.length : Int)) = ((8 * d.length : Nat) : Int) := by rw [wr_i64 (by omega)]; omega
    by_cases hc : got < n ∧ at0 + got < 8 * d.length
    · generalize hA : at0 + got = a at *
      have e0 : Int.tmod (a : Int) 8 = ((a % 8 : Nat) : Int) := by rw [Int.tmod_eq_emod_of_nonneg (by omega)]; omega
      have e9 : IntKind.i64.wrap (Int.tdiv (a : Int) 8) = ((a / 8 : Nat) : Int) := by
        rw [Int.tdiv_eq_ediv_of_nonneg (by omega), wr_i64 (by omega)]; omega
      have e1 : min (IntKind.i64.wrap (8 - ((a % 8 : Nat) : Int))) (IntKind.i64.wrap ((n : Int) - (got : Int))) = ((min (8 - a % 8) (n - got) : Nat) : Int) := by
        rw [wr_i64 (by omega), wr_i64 (by omega)]; omega
      generalize hj : min (8 - a % 8) (n - got) = j at e1
      have hj1 : 1 ≤ j ∧ a % 8 + j ≤ 8 ∧ got + j ≤ n := by omega
      have hw : ∀ q : Nat, q < 1099511627776 → IntKind.u64.wrap ((q : Nat) : Int) = q := fun q hq => wr_u64 (by omega)
      have hq : a / 8 < d.length := by omega
      have hx : d[a / 8]? = some d[a / 8] := List.getElem?_eq_getElem hq
      have hb := hd _ (List.getElem_mem hq)
      obtain ⟨x, hxx⟩ : ∃ x : Nat, d[a / 8] = x := ⟨(d[a / 8]).toNat, by omega⟩
      have e2 : rd d ((a / 8 : Nat) : Int) = (x : Int) := by rw [rd_at hx, hxx]
      have e3 := cut_byte x 0 j (a % 8) (by omega) hj1.2.1
      have e4 := cut_bits d hd a j (by omega) hj1.2.1
      rw [e2, Int.toNat_natCast] at e4
      have hlen : (((unpack d).drop at0).take got).length = got := by rw [List.length_take, List.length_drop, unpack_length]; omega
      have hvlt : v < 2 ^ got := by have := val_lt (((unpack d).drop at0).take got); rw [hlen, ← hv] at this; exact this
      have hp32 : (2 : Nat) ^ got ≤ 2 ^ 32 := Nat.pow_le_pow_right (by omega) (by omega)
      have hcl : x / 2 ^ (a % 8) % 2 ^ j < 2 ^ j := Nat.mod_lt _ (Nat.pow_pos (by omega))
      have hgj : (2 : Nat) ^ j * 2 ^ got ≤ 2 ^ 40 := by rw [← Nat.pow_add]; exact Nat.pow_le_pow_right (by omega) (by omega)
      generalize hc0 : x / 2 ^ (a % 8) % 2 ^ j = c at *
      have hcg : c * 2 ^ got + 2 ^ got ≤ 2 ^ 40 := by
        have : (c + 1) * 2 ^ got ≤ 2 ^ j * 2 ^ got := Nat.mul_le_mul_right _ hcl
        rw [Nat.add_mul] at this; omega
      have e5 : shl .u64 (c : Int) (got : Int) = ((c * 2 ^ got : Nat) : Int) := shl_nat' rfl (by simp only [IntKind.bits]; omega)
      have e6 : bor .u64 (v : Int) ((c * 2 ^ got : Nat) : Int) = ((v + 2 ^ got * c : Nat) : Int) := by
        rw [bor_nat (k := .u64) rfl (by simp only [IntKind.bits]; omega) (by simp only [IntKind.bits]; omega), Nat.or_comm]
        have := Nat.shiftLeft_add_eq_or_of_lt (i := got) (b := v) hvlt c
        rw [Nat.shiftLeft_eq] at this
        rw [← this, Nat.add_comm, Nat.mul_comm]
      rw [bits_Reader_ahead.l1, if_pos ⟨by omega, by rw [e8]; omega⟩, bnd_eq, e0, bnd_eq, e1, e9, gd_pos (by omega), gd_pos (by rw [hw _ (by omega)]; omega), gd_pos (by rw [hw _ (by omega)]; omega), bnd_eq, e2, e3, gd_pos (by rw [hw _ (by omega)]; omega), bnd_eq, hw got (by omega), e5, e6, bnd_eq, bnd_eq]
      have e10 : IntKind.i64.wrap ((got : Int) + (j : Int)) = ((got + j : Nat) : Int) := by rw [wr_i64 (by omega)]; omega
      have e11 : IntKind.i64.wrap ((a : Int) + (j : Int)) = ((at0 + (got + j) : Nat) : Int) := by rw [wr_i64 (by omega)]; omega
      rw [e10, e11]
      refine ih k (got + j) (v + 2 ^ got * c) (by omega) (by omega) (by omega) ?_ (by omega)
      have e12 : ((unpack d).drop at0).take (got + j) = ((unpack d).drop at0).take got ++ (((unpack d).drop at0).drop got).take j := by rw [List.take_add]
      rw [e12, val_append, hlen, ← hv, List.drop_drop, hA, e4]
    · rw [bits_Reader_ahead.l1, if_neg (by rw [e8]; omega)]
      congr 2
      by_cases hg2 : got = n
      · rw [hv, hg2]
      · have hL : ((unpack d).drop at0).length ≤ got := by rw [List.length_drop, unpack_length]; omega
        rw [hv, List.take_of_length_le hL, List.take_of_length_le (by omega)]

theorem bits_Reader_ahead_spec (d : List Int) (hd : ∀ x ∈ d, 0 ≤ x ∧ x < 256) (hl : d.length ≤ 33554432) (n : Nat) (hn : n ≤ 32) (a : Nat) (ha : a ≤ 8 * d.length) :
    bits_Reader_ahead.f d (a : Int) (n : Int) = some ((val (((unpack d).drop a).take n) : Nat) : Int) := by
  have := ahead_loop d hd hl n hn a n FU 0 0 (by omega) (by rw [FU_eq]; omega) (by omega) rfl (by omega)
  have h2 : bits_Reader_ahead.l1 FU 0 0 (a : Int) d (n : Int) = _ := this
  rw [bits_Reader_ahead.f, h2, Option.bind_some]
  have h3 := val_lt (((unpack d).drop a).take n)
  have h4 : 2 ^ (((unpack d).drop a).take n).length ≤ 2 ^ 32 := Nat.pow_le_pow_right (by omega) (by simp; omega)
  rw [wr_u32 (by omega)]
theorem bits_Reader_Left_spec (d : List Int) (hl : d.length ≤ 33554432) (a : Nat) (ha : a ≤ 8 * d.length) : bits_Reader_Left.f d (a : Int) = some ((8 * d.length - a : Nat) : Int) := by
  rw [bits_Reader_Left.f, wr_i64 (x := 8 * (d.length : Int)) (by omega), wr_i64 (by omega)]
  congr 1; omega

theorem bits_Reader_Take_ok (d : List Int) (hd : ∀ x ∈ d, 0 ≤ x ∧ x < 256) (hl : d.length ≤ 33554432) (n : Nat) (hn : n ≤ 32) (a : Nat) (ha : a + n ≤ 8 * d.length) :
    bits_Reader_Take.f d (a : Int) (n : Int) = some (((val (((unpack d).drop a).take n) : Nat) : Int), 0, d, ((a + n : Nat) : Int)) := by
  rw [bits_Reader_Take.f, if_neg (by omega), bits_Reader_Left_spec d hl a (by omega), Option.bind_some, if_neg (by omega), bits_Reader_ahead_spec d hd hl n hn a (by omega), Option.bind_some, wr_i64 (by omega)]
  rfl
theorem bits_Reader_Take_end (d : List Int) (hl : d.length ≤ 33554432) (n : Nat) (hn : n ≤ 32) (a : Nat) (ha : a ≤ 8 * d.length) (h : 8 * d.length < a + n) :
    bits_Reader_Take.f d (a : Int) (n : Int) = some (0, 30, d, (a : Int)) := by
  rw [bits_Reader_Take.f, if_neg (by omega), bits_Reader_Left_spec d hl a (by omega), Option.bind_some, if_pos (by omega)]

theorem which_spec (k : Int) (n : Nat) (hn : 0 < n) (hn2 : n ≤ 1000) (hk : -9223372036854775808 ≤ k ∧ k ≤ 9223372036854775807) : ∃ m : Nat, m < n ∧ valiselaw3_which.f k (n : Int) = some (m : Int) := by
  have h1 := Int.tmod_lt_of_pos k (b := (n : Int)) (by omega)
  have h2 : -(n : Int) < Int.tmod k (n : Int) := by
    rcases Int.lt_or_le k 0 with h | h
    · have h3 := Int.tmod_lt_of_pos (-k) (b := (n : Int)) (by omega)
      rw [Int.neg_tmod] at h3; omega
    · have := Int.tmod_nonneg (n : Int) h; omega
  rw [valiselaw3_which.f, gd_pos (by omega), bnd_eq]
  generalize Int.tmod k (n : Int) = x at *
  by_cases hx : x < 0
  · rw [if_pos hx, bnd_eq, wr_i64 (by omega)]
    exact ⟨(x + n).toNat, by omega, by rw [Option.bind_some]; congr 1; omega⟩
  · rw [if_neg hx]
    exact ⟨x.toNat, by omega, by rw [Option.bind_some]; congr 1; omega⟩
theorem low_spec (v n : Nat) (hv : v < 2 ^ 32) (hn : n ≤ 32) : valiselaw3_low.f (v : Int) (n : Int) = some ((v % 2 ^ n : Nat) : Int) := by
  have hk8 : (2 : Nat) ^ n ≤ 2 ^ 32 := Nat.pow_le_pow_right (by omega) (by omega)
  have hk1 : 0 < (2 : Nat) ^ n := Nat.pow_pos (by omega)
  have e1 : IntKind.u64.wrap (n : Int) = n := wr_u64 (by omega)
  have e2 : IntKind.u64.wrap (v : Int) = v := wr_u64 (by omega)
  have e3 : shl .u64 1 (n : Int) = ((2 ^ n : Nat) : Int) := by
    have := shl_nat' (k := .u64) rfl (a := 1) (n := n) (by simp only [IntKind.bits]; omega)
    simpa using this
  have e4 : IntKind.u64.wrap (((2 ^ n : Nat) : Int) - 1) = ((2 ^ n - 1 : Nat) : Int) := by rw [wr_u64 (by omega)]; omega
  have e5 : band .u64 (v : Int) ((2 ^ n - 1 : Nat) : Int) = ((v % 2 ^ n : Nat) : Int) := by
    have := band_nat (k := .u64) rfl (a := v) (b := 2 ^ n - 1) (by simp only [IntKind.bits]; omega) (by simp only [IntKind.bits]; omega)
    rw [Nat.and_two_pow_sub_one_eq_mod] at this
    exact this
  have hm : v % 2 ^ n < 2 ^ 32 := Nat.lt_of_le_of_lt (Nat.mod_le _ _) hv
  have e6 : IntKind.u32.wrap ((v % 2 ^ n : Nat) : Int) = ((v % 2 ^ n : Nat) : Int) := by
    generalize v % 2 ^ n = y at hm
    exact wr_u32 (by omega)
  rw [valiselaw3_low.f, e1, e2, e3, e4, e5, gd_pos (by omega), e6]

theorem width_spec (k : Int) (hk : -9223372036854775808 ≤ k ∧ k ≤ 9223372036854775807) : ∃ m : Nat, m ≤ 32 ∧ valiselaw3_width.f k = some (m : Int) := by
  obtain ⟨m, hm, h⟩ := which_spec k 33 (by omega) (by omega) hk
  have h' : valiselaw3_which.f k 33 = some (m : Int) := h
  exact ⟨m, by omega, by rw [valiselaw3_width.f, h']; rfl⟩

theorem put_ok (s : List Bool) (v n : Nat) (hv : v < 2 ^ 32) (hn : n ≤ 32) (hvn : v < 2 ^ n) (hs : s.length + n ≤ 268435456) :
    bits_Writer_Put.f (pack s) (s.length : Int) (v : Int) (n : Int) = some (0, pack (s ++ tobits n v), ((s ++ tobits n v).length : Int)) := by
  rw [bits_Writer_Put_spec s v n hv (by omega) (by omega), if_pos ⟨by omega, by omega, by rw [Int.toNat_natCast]; exact hvn, by rw [Int.toNat_natCast]; exact hs⟩, Int.toNat_natCast]


theorem tobits_at (n : Nat) : ∀ (v i : Nat), i < n → (tobits n v)[i]? = some (v / 2 ^ i % 2 == 1) := by
  induction n with
  | zero => intro v i h; omega
  | succ n ih =>
    intro v i h
    cases i with
    | zero => simp [tobits]
    | succ i =>
      rw [tobits, List.getElem?_cons_succ, ih _ _ (by omega), Nat.div_div_eq_div_mul, Nat.pow_succ, Nat.mul_comm (2 ^ i) 2]
theorem mirror_loop (D : List Int) (hD : ∀ x ∈ D, 0 ≤ x ∧ x < 256) (hl : D.length ≤ 5) (v n : Nat) (hn : n ≤ 32) (hv : v < 2 ^ 32) (hun : ∃ r, unpack D = (tobits n v).reverse ++ r) (m : Nat) : ∀ (k i : Nat), i ≤ m → i ≤ n → m < k →
    valiselaw3_BitsMirror.l1 k D ((n - i : Nat) : Int) ((i : Int) - 1) (v : Int) = some (.inr ()) := by
  obtain ⟨r, hun⟩ := hun
  have hlen : n ≤ 8 * D.length := by
    have := congrArg List.length hun
    rw [unpack_length, List.length_append, List.length_reverse, tobits_length] at this
    omega
  induction m with
  | zero =>
    intro k i hi hin hk
    obtain ⟨k, rfl⟩ : ∃ j, k = j + 1 := ⟨k - 1, by omega⟩
    rw [valiselaw3_BitsMirror.l1, if_neg (by omega)]
  | succ m ih =>
    intro k i hi hin hk
    obtain ⟨k, rfl⟩ : ∃ j, k = j + 1 := ⟨k - 1, by omega⟩
    by_cases h0 : i = 0
    · rw [valiselaw3_BitsMirror.l1, if_neg (by omega)]
    · have hT := bits_Reader_Take_ok D hD (by omega) 1 (by omega) (n - i) (by omega)
      have hT' : bits_Reader_Take.f D ((n - i : Nat) : Int) 1 = _ := hT
      have hb : ((unpack D).drop (n - i)).take 1 = [v / 2 ^ (i - 1) % 2 == 1] := by
        have e1 : ((tobits n v).reverse)[n - i]? = some (v / 2 ^ (i - 1) % 2 == 1) := by
          rw [List.getElem?_reverse (by rw [tobits_length]; omega), tobits_length, show n - 1 - (n - i) = i - 1 by omega]
          exact tobits_at n v (i - 1) (by omega)
        rw [hun, List.drop_append_of_le_length (by rw [List.length_reverse, tobits_length]; omega), drop_cons e1]
        rfl
      have hbv : val [v / 2 ^ (i - 1) % 2 == 1] = v / 2 ^ (i - 1) % 2 := by
        rcases Nat.mod_two_eq_zero_or_one (v / 2 ^ (i - 1)) with h | h <;> simp [h, val]
      have es : band .u32 (shr .u32 (v : Int) (IntKind.u64.wrap ((i : Int) - 1))) 1 = ((v / 2 ^ (i - 1) % 2 : Nat) : Int) := by
        have e3 : IntKind.u64.wrap ((i : Int) - 1) = ((i - 1 : Nat) : Int) := by rw [wr_u64 (by omega)]; omega
        rw [e3, shr_nat (k := .u32) hv]
        have := band_nat (k := .u32) rfl (a := v / 2 ^ (i - 1)) (b := 1) (Nat.lt_of_le_of_lt (Nat.div_le_self _ _) hv) (by decide)
        rw [Nat.and_one_is_mod] at this
        exact this
      rw [valiselaw3_BitsMirror.l1, if_pos (by omega), hT', Option.bind_some, hb, hbv, es]
      simp only [ne_eq, not_true_eq_false, if_false, decide_false]
      rw [gd_pos (by rw [wr_u64 (by omega)]; omega)]
      simp only [Option.bind_some, Bool.false_eq_true, if_false]
      rw [bnd_eq, wr_i64 (by omega), show (i : Int) - 1 - 1 = ((i - 1 : Nat) : Int) - 1 by omega, show n - i + 1 = n - (i - 1) by omega]
      exact ih k (i - 1) (by omega) (by omega) (by omega)

theorem valiselaw3_BitsMirror_true (V N : Int) (hV : (Lit.int .u32 V).wf = true) (hN : (Lit.int .i64 N).wf = true) : valiselaw3_BitsMirror.f V N = some true := by
  obtain ⟨v, rfl, hv⟩ := wf_u (k := .u32) rfl hV
  have hv : v < 2 ^ 32 := hv
  obtain ⟨n, hn, en⟩ := width_spec N (wf_i64 hN)
  unfold valiselaw3_BitsMirror.f
  rw [en, Option.bind_some, low_spec v n hv hn, Option.bind_some]
  have hx : v % 2 ^ n < 2 ^ n := Nat.mod_lt _ (Nat.pow_pos (by omega))
  generalize v % 2 ^ n = x at *
  have hp : (2 : Nat) ^ n ≤ 2 ^ 32 := Nat.pow_le_pow_right (by omega) hn
  have hr : rev n x 0 < 2 ^ n := by have := rev_lt n x 0 0 (by simp); simpa using this
  have hrr : rev n (rev n x 0) 0 = x := by
    have h1 : tobits n (rev n (rev n x 0) 0) = tobits n x := by rw [tobits_rev, tobits_rev, List.reverse_reverse]
    have h2 := congrArg val h1
    rw [val_tobits, val_tobits, Nat.mod_eq_of_lt hx, Nat.mod_eq_of_lt] at h2
    · exact h2
    · have := rev_lt n (rev n x 0) 0 0 (by simp); simpa using this
  rw [bits_Reverse_spec x n hn hx]
  simp only [Option.bind_some, ne_eq, not_true_eq_false, if_false]
  rw [bits_Reverse_spec (rev n x 0) n hn hr, hrr]
  simp only [Option.bind_some, bits_NewWriter.f, ne_eq, not_true_eq_false, or_self, false_and, if_false]
  have p0 := put_ok [] (rev n x 0) n (by omega) hn hr (by simp; omega)
  have p0' : bits_Writer_Put.f [] 0 ((rev n x 0 : Nat) : Int) (n : Int) = some (0, pack (tobits n (rev n x 0)), ((tobits n (rev n x 0)).length : Int)) := p0
  rw [p0']
  simp only [Option.bind_some, ne_eq, not_true_eq_false, if_false]
  have hpl : (pack (tobits n (rev n x 0))).length = (n + 7) / 8 := by rw [pack_length, tobits_length]
  have hun := unpack_pack (tobits n (rev n x 0))
  rw [tobits_rev] at hun
  have hby := pack_byte (tobits n (rev n x 0))
  rw [bits_Writer_Bytes_spec _ _ (by omega), Option.bind_some, bits_NewReader_spec _ (by omega)]
  simp only [Option.bind_some, onO_some]
  rw [bnd_eq, wr_i64 (by omega)]
  have hloop := mirror_loop (pack (tobits n (rev n x 0))) hby (by omega) x n hn (by omega) ⟨_, by rw [tobits_rev]; exact hun⟩ n FU n (Nat.le_refl _) (Nat.le_refl _) (by rw [FU_eq]; omega)
  rw [Nat.sub_self] at hloop
  have hloop' : valiselaw3_BitsMirror.l1 FU (pack (tobits n (rev n x 0))) 0 ((n : Int) - 1) (x : Int) = some (.inr ()) := hloop
  rw [hloop']
  rfl
end Go.V.Pu
