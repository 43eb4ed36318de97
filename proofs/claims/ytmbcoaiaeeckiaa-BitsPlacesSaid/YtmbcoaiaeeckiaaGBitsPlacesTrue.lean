/- The plain law: bit 8k+i is the bit of weight 2^i of byte k. -/
import Derived.Test.YtmbcoaiaeeckiaaGBitsPlacesPure
import Derived.Test.YtmbcoaiaeeckiaaQ2
set_option linter.unusedVariables false
set_option linter.unusedSimpArgs false
namespace Go.V.Pu
open Go Go.V

theorem set_last (l : List Int) (x y : Int) : (l ++ [x]).set l.length y = l ++ [y] := by
  rw [List.set_append_right _ _ (Nat.le_refl _), Nat.sub_self]; rfl
theorem rd_last (l : List Int) (x : Int) : rd (l ++ [x]) (l.length : Int) = x := by
  show (l ++ [x]).getD ((l.length : Int).toNat) 0 = x
  rw [Int.toNat_natCast, List.getD_eq_getElem?_getD, List.getElem?_append_right (Nat.le_refl _), Nat.sub_self]; rfl
/-- One step: k bits of v into the last byte, which holds p. -/
theorem lay_byte (v k i : Nat) (p : List Bool) (hv : v < 2 ^ 64) (hk : k + i ≤ 8) (hp : p.length = i) :
    bor .u8 (val p : Int) (IntKind.u8.wrap (shl .u64 (band .u64 (v : Int) (IntKind.u64.wrap (shl .u64 1 (IntKind.u64.wrap (k : Int)) - 1))) (IntKind.u64.wrap (i : Int)))) = (val (p ++ tobits k v) : Int) := by
  have hk8 : (2 : Nat) ^ k ≤ 2 ^ 8 := Nat.pow_le_pow_right (by omega) (by omega)
  have hk1 : 0 < (2 : Nat) ^ k := Nat.pow_pos (by omega)
  have hi1 : 0 < (2 : Nat) ^ i := Nat.pow_pos (by omega)
  have hki : (2 : Nat) ^ k * 2 ^ i ≤ 2 ^ 8 := by rw [← Nat.pow_add]; exact Nat.pow_le_pow_right (by omega) hk
  have e1 : IntKind.u64.wrap (k : Int) = k := wr_u64 (by omega)
  have e2 : IntKind.u64.wrap (i : Int) = i := wr_u64 (by omega)
  have e3 : shl .u64 1 (k : Int) = ((2 ^ k : Nat) : Int) := by
    have := shl_nat' (k := .u64) rfl (a := 1) (n := k) (by simp only [IntKind.bits]; omega)
    simpa using this
  have e4 : IntKind.u64.wrap (((2 ^ k : Nat) : Int) - 1) = ((2 ^ k - 1 : Nat) : Int) := by rw [wr_u64 (by omega)]; omega
  have e5 : band .u64 (v : Int) ((2 ^ k - 1 : Nat) : Int) = ((v % 2 ^ k : Nat) : Int) := by
    have := band_nat (k := .u64) rfl (a := v) (b := 2 ^ k - 1) hv (by simp only [IntKind.bits]; omega)
    rw [Nat.and_two_pow_sub_one_eq_mod] at this
    exact this
  have hm : v % 2 ^ k < 2 ^ k := Nat.mod_lt _ hk1
  have hmi : v % 2 ^ k * 2 ^ i + 2 ^ i ≤ 2 ^ 8 := by
    have : (v % 2 ^ k + 1) * 2 ^ i ≤ 2 ^ k * 2 ^ i := Nat.mul_le_mul_right _ hm
    rw [Nat.add_mul] at this; omega
  have e6 : shl .u64 ((v % 2 ^ k : Nat) : Int) (i : Int) = ((v % 2 ^ k * 2 ^ i : Nat) : Int) := shl_nat' rfl (by simp only [IntKind.bits]; omega)
  have hpv : val p < 2 ^ i := by have := val_lt p; rwa [hp] at this
  rw [e1, e2, e3, e4, e5, e6, wr_u8 (by omega), bor_nat (k := .u8) rfl (by simp only [IntKind.bits]; omega) (by simp only [IntKind.bits]; omega), val_append, val_tobits, hp, Nat.or_comm]
  have := Nat.shiftLeft_add_eq_or_of_lt (i := i) (b := val p) hpv (v % 2 ^ k)
  rw [Nat.shiftLeft_eq] at this
  rw [← this, Nat.add_comm, Nat.mul_comm]

theorem pack_step (s : List Bool) (t : List Bool) (h0 : t ≠ []) (hl : s.length % 8 + t.length ≤ 8) :
    (s.length % 8 = 0 → pack (s ++ t) = pack s ++ [(val t : Int)]) ∧
    (s.length % 8 ≠ 0 → ∃ l p, pack s = l ++ [(val p : Int)] ∧ p.length = s.length % 8 ∧ pack (s ++ t) = l ++ [(val (p ++ t) : Int)]) := by
  constructor
  · intro h
    rw [pack_append (q := s.length / 8) (by omega), pack_short h0 (by omega)]
  · intro h
    have hs : s = s.take (8 * (s.length / 8)) ++ s.drop (8 * (s.length / 8)) := (List.take_append_drop _ _).symm
    have hp : (s.drop (8 * (s.length / 8))).length = s.length % 8 := by rw [List.length_drop]; omega
    have hq : (s.take (8 * (s.length / 8))).length = 8 * (s.length / 8) := by rw [List.length_take]; omega
    have hpn : s.drop (8 * (s.length / 8)) ≠ [] := by intro e; rw [e] at hp; simp at hp; omega
    refine ⟨pack (s.take (8 * (s.length / 8))), s.drop (8 * (s.length / 8)), ?_, hp, ?_⟩
    · conv => lhs; rw [hs]
      rw [pack_append hq, pack_short hpn (by omega)]
    · conv => lhs; rw [hs, List.append_assoc]
      rw [pack_append hq, pack_short (t := s.drop (8 * (s.length / 8)) ++ t) (fun e => hpn (List.append_eq_nil_iff.1 e).1) (by rw [List.length_append]; omega)]

theorem lay_loop (m : Nat) : ∀ (k n v : Nat) (s : List Bool), n ≤ m → m < k → v < 2 ^ 64 → s.length + n ≤ 1099511627776 →
    bits_Writer_lay.l1 k (pack s) (s.length : Int) (v : Int) (n : Int) = some (pack (s ++ tobits n v), ((s.length + n : Nat) : Int)) := by
  induction m with
  | zero =>
    intro k n v s hn hk hv hs
    obtain ⟨k, rfl⟩ : ∃ j, k = j + 1 := ⟨k - 1, by omega⟩
    obtain rfl : n = 0 := by omega
    rw [bits_Writer_lay.l1, if_neg (by omega)]
    simp [tobits]
  | succ m ih =>
    intro k n v s hn hk hv hs
    obtain ⟨k, rfl⟩ : ∃ j, k = j + 1 := ⟨k - 1, by omega⟩
    by_cases hn0 : n = 0
    · subst hn0
      rw [bits_Writer_lay.l1, if_neg (by omega)]
      simp [tobits]
    · have hpl : (pack s).length = (s.length + 7) / 8 := pack_length s
      have e0 : Int.tmod (s.length : Int) 8 = ((s.length % 8 : Nat) : Int) := by rw [Int.tmod_eq_emod_of_nonneg (by omega)]; omega
      generalize hi : s.length % 8 = i at e0
      have e1 : min (IntKind.i64.wrap (8 - (i : Int))) (n : Int) = ((min (8 - i) n : Nat) : Int) := by rw [wr_i64 (by omega)]; omega
      generalize hj : min (8 - i) n = j at e1
      have hj1 : 1 ≤ j ∧ j + i ≤ 8 ∧ j ≤ n := by omega
      have e2 : shr .u64 (v : Int) (IntKind.u64.wrap (j : Int)) = ((v / 2 ^ j : Nat) : Int) := by rw [wr_u64 (by omega)]; exact shr_nat (k := .u64) hv
      have e3 : IntKind.i64.wrap ((n : Int) - (j : Int)) = ((n - j : Nat) : Int) := by rw [wr_i64 (by omega)]; omega
      have hv2 : v / 2 ^ j < 2 ^ 64 := Nat.lt_of_le_of_lt (Nat.div_le_self _ _) hv
      have htn : tobits j v ≠ [] := by intro e; have := congrArg List.length e; rw [tobits_length] at this; simp at this; omega
      have hsplit : tobits n v = tobits j v ++ tobits (n - j) (v / 2 ^ j) := by rw [← tobits_add]; congr 1; omega
      have goal : ∀ l, l = pack (s ++ tobits j v) → bits_Writer_lay.l1 k l (IntKind.i64.wrap ((s.length : Int) + (j : Int))) ((v / 2 ^ j : Nat) : Int) ((n - j : Nat) : Int) = some (pack (s ++ tobits n v), ((s.length + n : Nat) : Int)) := by
        rintro l rfl
        have hsl : (s ++ tobits j v).length = s.length + j := by rw [List.length_append, tobits_length]
        have e4 : IntKind.i64.wrap ((s.length : Int) + (j : Int)) = ((s ++ tobits j v).length : Int) := by rw [wr_i64 (by omega), hsl]; omega
        rw [e4, ih k (n - j) (v / 2 ^ j) (s ++ tobits j v) (by omega) (by omega) hv2 (by rw [hsl]; omega), hsl, hsplit, List.append_assoc]
        congr 3; omega
      have hw : ∀ q : Nat, q < 1099511627776 → IntKind.u64.wrap ((q : Nat) : Int) = q := fun q hq => wr_u64 (by omega)
      rw [bits_Writer_lay.l1, if_pos (by omega), bnd_eq, e0]
      obtain ⟨p1, p2⟩ := pack_step s (tobits j v) htn (by rw [tobits_length]; omega)
      by_cases hi0 : i = 0
      · subst hi0
        have hlen : (pack s ++ [(0 : Int)]).length = (pack s).length + 1 := by simp
        rw [if_pos (show ((0 : Nat) : Int) = 0 from rfl), bnd_eq, gd_pos (by rw [hlen]; omega), Option.bind_some, bnd_eq, e1, gd_pos (by rw [hw j (by omega)]; omega), bnd_eq]
        have e5 : IntKind.i64.wrap (((pack s ++ [(0 : Int)]).length : Int) - 1) = ((pack s).length : Int) := by rw [wr_i64 (by rw [hlen]; omega), hlen]; omega
        rw [e5, gd_pos (by rw [hlen]; omega), gd_pos (by rw [hw 0 (by omega)]; omega), bnd_eq, bnd_eq, e2, bnd_eq, e3]
        apply goal
        rw [Int.toNat_natCast, set_last, rd_last]
        have := lay_byte v j 0 [] hv (by omega) rfl
        rw [show (val [] : Int) = 0 from rfl] at this
        rw [this, p1 hi]
        rfl
      · rw [if_neg (by omega), Option.bind_some, bnd_eq, e1, gd_pos (by rw [hw j (by omega)]; omega), bnd_eq]
        obtain ⟨l, p, hpk, hpl2, hpk2⟩ := p2 (by omega)
        have hlen : (l ++ [(val p : Int)]).length = l.length + 1 := by simp
        have e5 : IntKind.i64.wrap (((l ++ [(val p : Int)]).length : Int) - 1) = (l.length : Int) := by
          have : l.length + 1 = (s.length + 7) / 8 := by rw [← hlen, ← hpk, hpl]
          rw [wr_i64 (by rw [hlen]; omega), hlen]; omega
        rw [hpk, e5, gd_pos (by rw [hlen]; omega), gd_pos (by rw [hw i (by omega)]; omega), bnd_eq, bnd_eq, e2, bnd_eq, e3]
        apply goal
        rw [Int.toNat_natCast, set_last, rd_last, lay_byte v j i p hv (by omega) (by rw [hpl2, hi]), hpk2]

theorem bits_Writer_lay_spec (s : List Bool) (v n : Nat) (hv : v < 2 ^ 64) (hs : s.length + n ≤ 1099511627776) :
    bits_Writer_lay.f (pack s) (s.length : Int) (v : Int) (n : Int) = some (pack (s ++ tobits n v), ((s.length + n : Nat) : Int)) := by
  rw [bits_Writer_lay.f, lay_loop n FU n v s (Nat.le_refl _) (by rw [FU_eq]; omega) hv hs]
  rfl

theorem pack_ne {s : List Bool} (h : s ≠ []) : (pack s).length ≠ 0 := by
  rw [pack_length]
  have := List.length_pos_iff.2 h
  omega
theorem cpy_same {l m : List Int} (h : l.length = m.length) : cpy l m = m := by
  unfold cpy
  rw [h, List.take_length, List.drop_eq_nil_of_le (by omega), List.append_nil]

theorem bits_Writer_Put_spec (s : List Bool) (v : Nat) (n : Int) (hv : v < 2 ^ 32) (hn : -9223372036854775808 ≤ n ∧ n ≤ 9223372036854775807) (hs : s.length ≤ 268435456) :
    bits_Writer_Put.f (pack s) (s.length : Int) (v : Int) n = if 0 ≤ n ∧ n ≤ 32 ∧ v < 2 ^ n.toNat ∧ s.length + n.toNat ≤ 268435456 then some (0, pack (s ++ tobits n.toNat v), ((s ++ tobits n.toNat v).length : Int)) else some (1, pack s, (s.length : Int)) := by
  unfold bits_Writer_Put.f
  by_cases hb : n < 0 ∨ 32 < n
  · rw [if_pos hb, if_neg (by omega)]
    simp
  · obtain ⟨n, rfl⟩ : ∃ m : Nat, n = m := ⟨n.toNat, by omega⟩
    have e0 : IntKind.u64.wrap (n : Int) = n := wr_u64 (by omega)
    have ev : IntKind.u64.wrap (v : Int) = v := wr_u64 (by omega)
    have e2 : shr .u64 (v : Int) (n : Int) = ((v / 2 ^ n : Nat) : Int) := shr_nat (k := .u64) (by simp only [IntKind.bits]; omega)
    have e3 : IntKind.i64.wrap ((s.length : Int) + (n : Int)) = ((s.length + n : Nat) : Int) := by rw [wr_i64 (by omega)]; rfl
    rw [if_neg hb, e0, ev, gd_pos (by omega), e2, e3, Option.bind_some]
    have hd : (v / 2 ^ n = 0) ↔ v < 2 ^ n := Nat.div_eq_zero_iff_lt (Nat.pow_pos (by omega))
    simp only [Int.toNat_natCast]
    by_cases hl : v < 2 ^ n ∧ s.length + n ≤ 268435456
    · have hq : ((v / 2 ^ n : Nat) : Int) = 0 := by rw [hd.2 hl.1]; rfl
      rw [if_neg (by simp only [hq]; simp; omega), if_pos (by omega), bits_Writer_lay_spec s v n (by omega) (by omega), List.length_append, tobits_length]
      rfl
    · have hc : (decide (((v / 2 ^ n : Nat) : Int) ≠ 0) = true) ∨ (268435456 < ((s.length + n : Nat) : Int)) := by
        by_cases h1 : v < 2 ^ n
        · right; omega
        · left
          have : v / 2 ^ n ≠ 0 := fun e => h1 (hd.1 e)
          exact decide_eq_true (by omega)
      rw [if_pos hc, if_neg (by omega)]

theorem bits_Writer_Bytes_spec (d : List Int) (n : Int) (h : d.length ≤ 35184372088832) : bits_Writer_Bytes.f d n = some d := by
  unfold bits_Writer_Bytes.f
  by_cases h0 : (d.length : Int) = 0
  · rw [if_pos h0]
    have : d = [] := List.length_eq_zero_iff.1 (by omega)
    rw [this]
  · rw [if_neg h0, gd_pos (by omega), bnd_eq, bnd_eq, cpy_same (by simp)]

theorem bits_NewReader_spec (d : List Int) (h : d.length ≤ 33554432) : bits_NewReader.f d = some (some (d, 0)) := by
  unfold bits_NewReader.f
  rw [if_neg (by omega), gd_pos (by omega), bnd_eq, bnd_eq, cpy_same (by simp)]
/-- The bits of a byte, cut out. -/
theorem cut_byte (x at_ k i : Nat) (hx : x < 256) (hk : i + k ≤ 8) :
    band .u64 (IntKind.u64.wrap (shr .u8 (x : Int) (IntKind.u64.wrap (i : Int)))) (IntKind.u64.wrap (shl .u64 1 (IntKind.u64.wrap (k : Int)) - 1)) = ((x / 2 ^ i % 2 ^ k : Nat) : Int) := by
  have hk8 : (2 : Nat) ^ k ≤ 2 ^ 8 := Nat.pow_le_pow_right (by omega) (by omega)
  have hk1 : 0 < (2 : Nat) ^ k := Nat.pow_pos (by omega)
  have e1 : IntKind.u64.wrap (k : Int) = k := wr_u64 (by omega)
  have e2 : IntKind.u64.wrap (i : Int) = i := wr_u64 (by omega)
  have e3 : shl .u64 1 (k : Int) = ((2 ^ k : Nat) : Int) := by
    have := shl_nat' (k := .u64) rfl (a := 1) (n := k) (by simp only [IntKind.bits]; omega)
    simpa using this
  have e4 : IntKind.u64.wrap (((2 ^ k : Nat) : Int) - 1) = ((2 ^ k - 1 : Nat) : Int) := by rw [wr_u64 (by omega)]; omega
  have e5 : shr .u8 (x : Int) (i : Int) = ((x / 2 ^ i : Nat) : Int) := shr_nat (k := .u8) (by simp only [IntKind.bits]; omega)
  have hd : x / 2 ^ i < 256 := Nat.lt_of_le_of_lt (Nat.div_le_self _ _) hx
  have e6 : band .u64 ((x / 2 ^ i : Nat) : Int) ((2 ^ k - 1 : Nat) : Int) = ((x / 2 ^ i % 2 ^ k : Nat) : Int) := by
    have := band_nat (k := .u64) rfl (a := x / 2 ^ i) (b := 2 ^ k - 1) (by simp only [IntKind.bits]; omega) (by simp only [IntKind.bits]; omega)
    rw [Nat.and_two_pow_sub_one_eq_mod] at this
    exact this
  have e7 : IntKind.u64.wrap ((x / 2 ^ i : Nat) : Int) = ((x / 2 ^ i : Nat) : Int) := by
    generalize x / 2 ^ i = y at hd
    exact wr_u64 (by omega)
  rw [e1, e2, e3, e4, e5, e7, e6]
/-- .. as bits of the string. -/
theorem cut_bits (d : List Int) (hd : ∀ x ∈ d, 0 ≤ x ∧ x < 256) (a k : Nat) (ha : a < 8 * d.length) (hk : a % 8 + k ≤ 8) :
    val (((unpack d).drop a).take k) = (rd d ((a / 8 : Nat) : Int)).toNat / 2 ^ (a % 8) % 2 ^ k := by
  have hq : a / 8 < d.length := by omega
  have hx : d[a / 8]? = some d[a / 8] := List.getElem?_eq_getElem hq
  have e : d = d.take (a / 8) ++ d[a / 8] :: d.drop (a / 8 + 1) := by rw [← drop_cons hx, List.take_append_drop]
  have e2 : unpack d = unpack (d.take (a / 8)) ++ (tobits 8 (d[a / 8]).toNat ++ unpack (d.drop (a / 8 + 1))) := by
    conv => lhs; rw [e]
    rw [unpack_append]
    congr 1
  have e3 : (unpack (d.take (a / 8))).length = 8 * (a / 8) := by rw [unpack_length, List.length_take]; omega
  have e4 : a = 8 * (a / 8) + a % 8 := by omega
  have e5 : (unpack d).drop a = (tobits 8 (d[a / 8]).toNat).drop (a % 8) ++ unpack (d.drop (a / 8 + 1)) := by
    have e6 : (unpack d).drop a = ((unpack d).drop (8 * (a / 8))).drop (a % 8) := by rw [List.drop_drop]; congr 1
    rw [e6, e2, List.drop_left' e3, List.drop_append_of_le_length (by rw [tobits_length]; omega)]
  rw [e5, List.take_append_of_le_length (by rw [List.length_drop, tobits_length]; omega), val_take, val_drop, val_tobits, rd_at hx]
  have hb := hd _ (List.getElem_mem hq)
  rw [Nat.mod_eq_of_lt (a := (d[a / 8]).toNat) (by omega)]

theorem ahead_loop (d : List Int) (hd : ∀ x ∈ d, 0 ≤ x ∧ x < 256) (hl : d.length ≤ 33554432) (n : Nat) (hn : n ≤ 32) (at0 : Nat) (m : Nat) : ∀ (k got v : Nat), n - got ≤ m → m < k → got ≤ n →
    v = val (((unpack d).drop at0).take got) → at0 + got ≤ 8 * d.length →
    bits_Reader_ahead.l1 k (v : Int) (got : Int) ((at0 + got : Nat) : Int) d (n : Int) = some ((val (((unpack d).drop at0).take n) : Nat) : Int) := by
  induction m with
  | zero =>
    intro k got v hm hk hg hv ha
    obtain ⟨k, rfl⟩ : ∃ j, k = j + 1 := ⟨k - 1, by omega⟩
    obtain rfl : got = n := by omega
    rw [bits_Reader_ahead.l1, if_neg (by omega), hv]
  | succ m ih =>
    intro k got v hm hk hg hv ha
    obtain ⟨k, rfl⟩ : ∃ j, k = j + 1 := ⟨k - 1, by omega⟩
    have e8 : IntKind.i64.wrap (8 * (d.length : Int)) = ((8 * d.length : Nat) : Int) := by rw [wr_i64 (by omega)]; omega
    by_cases hc : got < n ∧ at0 + got < 8 * d.length
    · generalize hA : at0 + got = a at *
      have e0 : Int.tmod (a : Int) 8 = ((a % 8 : Nat) : Int) := by rw [Int.tmod_eq_emod_of_nonneg (by omega)]; omega
      have e9 : IntKind.i64.wrap (Int.tdiv (a : Int) 8) = ((a / 8 : Nat) : Int) := by
        rw [Int.tdiv_eq_ediv_of_nonneg (by omega), wr_i64 (by omega)]; omega
      have e1 : min (IntKind.i64.wrap (8 - ((a % 8 : Nat) : Int))) (IntKind.i64.wrap ((n : Int) - (got : Int))) = ((min (8 - a % 8) (n - got) : Nat) : Int) := by
        rw [wr_i64 (by omega), wr_i64 (by omega)]; omega
      generalize hj : min (8 - a % 8) (n - got) = j at e1
      have hj1 : 1 ≤ j ∧ a % 8 + j ≤ 8 ∧ got + j ≤ n := by omega
      have hw : ∀ q : Nat, q < 1099511627776 → IntKind.u64.wrap ((q : Nat) : Int) = q := fun q hq => wr_u64 (by omega)
      have hq : a / 8 < d.length := by omega
      have hx : d[a / 8]? = some d[a / 8] := List.getElem?_eq_getElem hq
      have hb := hd _ (List.getElem_mem hq)
      obtain ⟨x, hxx⟩ : ∃ x : Nat, d[a / 8] = x := ⟨(d[a / 8]).toNat, by omega⟩
      have e2 : rd d ((a / 8 : Nat) : Int) = (x : Int) := by rw [rd_at hx, hxx]
      have e3 := cut_byte x 0 j (a % 8) (by omega) hj1.2.1
      have e4 := cut_bits d hd a j (by omega) hj1.2.1
      rw [e2, Int.toNat_natCast] at e4
      have hlen : (((unpack d).drop at0).take got).length = got := by rw [List.length_take, List.length_drop, unpack_length]; omega
      have hvlt : v < 2 ^ got := by have := val_lt (((unpack d).drop at0).take got); rw [hlen, ← hv] at this; exact this
      have hp32 : (2 : Nat) ^ got ≤ 2 ^ 32 := Nat.pow_le_pow_right (by omega) (by omega)
      have hcl : x / 2 ^ (a % 8) % 2 ^ j < 2 ^ j := Nat.mod_lt _ (Nat.pow_pos (by omega))
      have hgj : (2 : Nat) ^ j * 2 ^ got ≤ 2 ^ 40 := by rw [← Nat.pow_add]; exact Nat.pow_le_pow_right (by omega) (by omega)
      generalize hc0 : x / 2 ^ (a % 8) % 2 ^ j = c at *
      have hcg : c * 2 ^ got + 2 ^ got ≤ 2 ^ 40 := by
        have : (c + 1) * 2 ^ got ≤ 2 ^ j * 2 ^ got := Nat.mul_le_mul_right _ hcl
        rw [Nat.add_mul] at this; omega
      have e5 : shl .u64 (c : Int) (got : Int) = ((c * 2 ^ got : Nat) : Int) := shl_nat' rfl (by simp only [IntKind.bits]; omega)
      have e6 : bor .u64 (v : Int) ((c * 2 ^ got : Nat) : Int) = ((v + 2 ^ got * c : Nat) : Int) := by
        rw [bor_nat (k := .u64) rfl (by simp only [IntKind.bits]; omega) (by simp only [IntKind.bits]; omega), Nat.or_comm]
        have := Nat.shiftLeft_add_eq_or_of_lt (i := got) (b := v) hvlt c
        rw [Nat.shiftLeft_eq] at this
        rw [← this, Nat.add_comm, Nat.mul_comm]
      rw [bits_Reader_ahead.l1, if_pos ⟨by omega, by rw [e8]; omega⟩, bnd_eq, e0, bnd_eq, e1, e9, gd_pos (by omega), gd_pos (by rw [hw _ (by omega)]; omega), gd_pos (by rw [hw _ (by omega)]; omega), bnd_eq, e2, e3, gd_pos (by rw [hw _ (by omega)]; omega), bnd_eq, hw got (by omega), e5, e6, bnd_eq, bnd_eq]
      have e10 : IntKind.i64.wrap ((got : Int) + (j : Int)) = ((got + j : Nat) : Int) := by rw [wr_i64 (by omega)]; omega
      have e11 : IntKind.i64.wrap ((a : Int) + (j : Int)) = ((at0 + (got + j) : Nat) : Int) := by rw [wr_i64 (by omega)]; omega
      rw [e10, e11]
      refine ih k (got + j) (v + 2 ^ got * c) (by omega) (by omega) (by omega) ?_ (by omega)
      have e12 : ((unpack d).drop at0).take (got + j) = ((unpack d).drop at0).take got ++ (((unpack d).drop at0).drop got).take j := by rw [List.take_add]
      rw [e12, val_append, hlen, ← hv, List.drop_drop, hA, e4]
    · rw [bits_Reader_ahead.l1, if_neg (by rw [e8]; omega)]
      congr 2
      by_cases hg2 : got = n
      · rw [hv, hg2]
      · have hL : ((unpack d).drop at0).length ≤ got := by rw [List.length_drop, unpack_length]; omega
        rw [hv, List.take_of_length_le hL, List.take_of_length_le (by omega)]

theorem bits_Reader_ahead_spec (d : List Int) (hd : ∀ x ∈ d, 0 ≤ x ∧ x < 256) (hl : d.length ≤ 33554432) (n : Nat) (hn : n ≤ 32) (a : Nat) (ha : a ≤ 8 * d.length) :
    bits_Reader_ahead.f d (a : Int) (n : Int) = some ((val (((unpack d).drop a).take n) : Nat) : Int) := by
  have := ahead_loop d hd hl n hn a n FU 0 0 (by omega) (by rw [FU_eq]; omega) (by omega) rfl (by omega)
  have h2 : bits_Reader_ahead.l1 FU 0 0 (a : Int) d (n : Int) = _ := this
  rw [bits_Reader_ahead.f, h2, Option.bind_some]
  have h3 := val_lt (((unpack d).drop a).take n)
  have h4 : 2 ^ (((unpack d).drop a).take n).length ≤ 2 ^ 32 := Nat.pow_le_pow_right (by omega) (by simp; omega)
  rw [wr_u32 (by omega)]
theorem bits_Reader_Left_spec (d : List Int) (hl : d.length ≤ 33554432) (a : Nat) (ha : a ≤ 8 * d.length) : bits_Reader_Left.f d (a : Int) = some ((8 * d.length - a : Nat) : Int) := by
  rw [bits_Reader_Left.f, wr_i64 (x := 8 * (d.length : Int)) (by omega), wr_i64 (by omega)]
  congr 1; omega

theorem bits_Reader_Take_ok (d : List Int) (hd : ∀ x ∈ d, 0 ≤ x ∧ x < 256) (hl : d.length ≤ 33554432) (n : Nat) (hn : n ≤ 32) (a : Nat) (ha : a + n ≤ 8 * d.length) :
    bits_Reader_Take.f d (a : Int) (n : Int) = some (((val (((unpack d).drop a).take n) : Nat) : Int), 0, d, ((a + n : Nat) : Int)) := by
  rw [bits_Reader_Take.f, if_neg (by omega), bits_Reader_Left_spec d hl a (by omega), Option.bind_some, if_neg (by omega), bits_Reader_ahead_spec d hd hl n hn a (by omega), Option.bind_some, wr_i64 (by omega)]
  rfl
theorem bits_Reader_Take_end (d : List Int) (hl : d.length ≤ 33554432) (n : Nat) (hn : n ≤ 32) (a : Nat) (ha : a ≤ 8 * d.length) (h : 8 * d.length < a + n) :
    bits_Reader_Take.f d (a : Int) (n : Int) = some (0, 30, d, (a : Int)) := by
  rw [bits_Reader_Take.f, if_neg (by omega), bits_Reader_Left_spec d hl a (by omega), Option.bind_some, if_pos (by omega)]

theorem bits_Writer_Raw_ok (s : List Bool) (d : List Int) (hs : s.length % 8 = 0) (h : s.length + 8 * d.length ≤ 268435456) (hb : ∀ x ∈ d, 0 ≤ x ∧ x < 256) :
    bits_Writer_Raw.f (pack s) (s.length : Int) d = some (0, pack (s ++ unpack d), ((s ++ unpack d).length : Int)) := by
  have e1 : IntKind.i64.wrap (8 * (d.length : Int)) = ((8 * d.length : Nat) : Int) := by rw [wr_i64 (by omega)]; omega
  have e2 : IntKind.i64.wrap ((s.length : Int) + ((8 * d.length : Nat) : Int)) = ((s.length + 8 * d.length : Nat) : Int) := by rw [wr_i64 (by omega)]; omega
  have e0 : Int.tmod (s.length : Int) 8 = 0 := by rw [Int.tmod_eq_emod_of_nonneg (by omega)]; omega
  have hp : pack (s ++ unpack d) = pack s ++ d := by rw [pack_append (q := s.length / 8) (by omega), pack_unpack d hb]
  rw [bits_Writer_Raw.f, e1, e2, if_neg (by omega), if_neg (by omega), bnd_eq, gd_pos (by rw [List.length_append, pack_length]; omega), hp, List.length_append, unpack_length]

theorem put_ok (s : List Bool) (v n : Nat) (hv : v < 2 ^ 32) (hn : n ≤ 32) (hvn : v < 2 ^ n) (hs : s.length + n ≤ 268435456) :
    bits_Writer_Put.f (pack s) (s.length : Int) (v : Int) (n : Int) = some (0, pack (s ++ tobits n v), ((s ++ tobits n v).length : Int)) := by
  rw [bits_Writer_Put_spec s v n hv (by omega) (by omega), if_pos ⟨by omega, by omega, by rw [Int.toNat_natCast]; exact hvn, by rw [Int.toNat_natCast]; exact hs⟩, Int.toNat_natCast]


theorem flat_one {β : Type} (l : List β) : (l.mapIdx fun _ x => [x]).flatten = l := by
  induction l with
  | nil => rfl
  | cons x l ih => rw [List.mapIdx_cons, List.flatten_cons]; exact congrArg (x :: ·) ih
theorem valiselaw3_copied_spec (a : List Int) (h : (a.length : Int) * 1 ≤ 140737488355328) : valiselaw3_copied.f a = some a := by
  unfold valiselaw3_copied.f
  have key := list_loop0 a (by omega) (fun k i s => valiselaw3_copied.l1 k s i a) (fun i x s => .inr (s ++ [x])) (fun s => s) (fun i s => s.length = i)
    (fun k s _ => by rw [valiselaw3_copied.l1, if_neg (by omega)])
    (fun k i x s hx hi hs => by
      have e1 : rd a (i : Int) = x := rd_at hx
      have e2 : (s ++ [x]).length = i + 1 := by simp [hs]
      rw [valiselaw3_copied.l1, if_pos (by omega), gd_pos (by omega), e1, bnd_eq, gd_pos (by rw [e2]; omega), bnd_eq, inc_i (by omega)])
    (fun i x s s' hx hi hs hg => by cases hg; simp [hs]) [] rfl
  have key' : valiselaw3_copied.l1 FU [] 0 a = _ := key
  rw [key', foldE_app (f := fun _ x => [x])]
  simp [flat_one]

theorem valiselaw3_same_spec (a b : List Int) (h : a.length < 4611686018427387904) : valiselaw3_same.f a b = some (decide (a = b)) := by
  unfold valiselaw3_same.f
  by_cases hl : a.length = b.length
  · rw [if_neg (by omega)]
    have key := list_loop1 a (by omega) (fun k i (_ : Unit) => valiselaw3_same.l1 k i a b) (fun i x _ => if rd b (i : Int) = x then .inr () else .inl (.inl false)) (fun _ => .inr ())
      (fun k _ => by rw [valiselaw3_same.l1, if_neg (by omega)])
      (fun k i x _ hx hi => by
        have e1 : rd a (i : Int) = x := rd_at hx
        rw [valiselaw3_same.l1, if_pos (by omega), gd_pos (by omega), gd_pos (by omega), e1]
        by_cases e : rd b (i : Int) = x
        · simp only [if_pos e]
          rw [if_neg (fun e' => e' e.symm), bnd_eq, inc_i (by omega)]
        · simp only [if_neg e]
          rw [if_pos (fun e' => e e'.symm)]) ()
    rw [show valiselaw3_same.l1 FU 0 a b = _ from key]
    by_cases e : a = b
    · rw [foldE_ok a 0 (fun j x hx => by rw [if_pos ((all_eq hl).2 e j x hx)])]
      simp [onR, e]
    · rw [foldE_bad (bad := .inl false) a 0 (fun j x hx => by
        by_cases e2 : rd b ((0 + j : Nat) : Int) = x
        · left; rw [if_pos e2]
        · right; rw [if_neg e2]) ?_]
      · simp [onR, e]
      · apply Classical.byContradiction
        intro hn
        apply e
        rw [← all_eq hl]
        intro j x hx
        apply Classical.byContradiction
        intro h2
        exact hn ⟨j, x, hx, by rw [if_neg h2]; intro h3; cases h3⟩
  · rw [if_pos (by omega)]
    simp
    intro e
    exact hl (by rw [e])

theorem one_bit (d : List Int) (hd : ∀ x ∈ d, 0 ≤ x ∧ x < 256) (k i : Nat) (hk : k < d.length) (hi : i < 8) :
    ∃ b : Nat, b < 2 ∧ band .u32 (shr .u32 (IntKind.u32.wrap (rd d (k : Int))) (IntKind.u64.wrap (i : Int))) 1 = (b : Int) ∧ ((unpack d).drop (8 * k + i)).take 1 = tobits 1 b := by
  have hx : d[k]? = some d[k] := List.getElem?_eq_getElem hk
  have hb := hd _ (List.getElem_mem hk)
  obtain ⟨x, hxx⟩ : ∃ x : Nat, d[k] = x := ⟨(d[k]).toNat, by omega⟩
  have hcut := cut_bits d hd (8 * k + i) 1 (by omega) (by omega)
  rw [show (8 * k + i) / 8 = k by omega, show (8 * k + i) % 8 = i by omega, rd_at hx, hxx, Int.toNat_natCast] at hcut
  refine ⟨x / 2 ^ i % 2, by omega, ?_, ?_⟩
  · rw [rd_at hx, hxx, wr_u32 (by omega), wr_u64 (by omega), shr_nat (k := .u32) (by simp only [IntKind.bits]; omega)]
    have hd2 : x / 2 ^ i < 2 ^ 32 := Nat.lt_of_le_of_lt (Nat.div_le_self _ _) (by omega)
    have := band_nat (k := .u32) rfl (a := x / 2 ^ i) (b := 1) hd2 (by decide)
    rw [Nat.and_one_is_mod] at this
    exact this
  · have hl : (((unpack d).drop (8 * k + i)).take 1).length = 1 := by rw [List.length_take, List.length_drop, unpack_length]; omega
    refine val_inj (by rw [hl, tobits_length]) ?_
    rw [hcut, val_tobits]
    omega

theorem places_in (d : List Int) (hd : ∀ x ∈ d, 0 ≤ x ∧ x < 256) (hl : d.length ≤ 33554432) (q : Nat) (hq : q < d.length) (m : Nat) : ∀ (k i : Nat), i + m = 8 → m < k →
    valiselaw3_BitsPlaces.l13 k (pack ((unpack d).take (8 * q + i))) d ((8 * q + i : Nat) : Int) ((8 * q + i : Nat) : Int) (i : Int) d (q : Int) = some (.inr (pack ((unpack d).take (8 * q + 8)), d, ((8 * q + 8 : Nat) : Int), ((8 * q + 8 : Nat) : Int))) := by
  induction m with
  | zero =>
    intro k i hi hk
    obtain ⟨k, rfl⟩ : ∃ j, k = j + 1 := ⟨k - 1, by omega⟩
    obtain rfl : i = 8 := by omega
    rw [valiselaw3_BitsPlaces.l13, if_neg (by omega)]
  | succ m ih =>
    intro k i hi hk
    obtain ⟨k, rfl⟩ : ∃ j, k = j + 1 := ⟨k - 1, by omega⟩
    obtain ⟨b, hb, e1, e2⟩ := one_bit d hd q i hq (by omega)
    have hT := bits_Reader_Take_ok d hd hl 1 (by omega) (8 * q + i) (by omega)
    rw [e2, val_tobits, Nat.mod_eq_of_lt (by omega)] at hT
    have hT' : bits_Reader_Take.f d ((8 * q + i : Nat) : Int) 1 = _ := hT
    have hsl : ((unpack d).take (8 * q + i)).length = 8 * q + i := by rw [List.length_take, unpack_length]; omega
    have hP := put_ok ((unpack d).take (8 * q + i)) b 1 (by omega) (by omega) (by omega) (by omega)
    have hS : (unpack d).take (8 * q + i) ++ tobits 1 b = (unpack d).take (8 * q + (i + 1)) := by rw [← e2, ← List.take_add]; rfl
    have hsl2 : ((unpack d).take (8 * q + (i + 1))).length = 8 * q + (i + 1) := by rw [List.length_take, unpack_length]; omega
    rw [hS, hsl, hsl2] at hP
    have hP' : bits_Writer_Put.f (pack ((unpack d).take (8 * q + i))) ((8 * q + i : Nat) : Int) (b : Int) 1 = _ := hP
    rw [valiselaw3_BitsPlaces.l13, if_pos (by omega), gd_pos (by omega), gd_pos (by rw [wr_u64 (by omega)]; omega), bnd_eq, e1, hT']
    simp only [Option.bind_some, ne_eq, not_true_eq_false, or_self, if_false]
    rw [hP']
    simp only [Option.bind_some, ne_eq, not_true_eq_false, if_false]
    rw [bnd_eq, inc_i (by omega), show 8 * q + i + 1 = 8 * q + (i + 1) by omega]
    exact ih k (i + 1) (by omega) (by omega)

theorem places_out (d : List Int) (hd : ∀ x ∈ d, 0 ≤ x ∧ x < 256) (hl : d.length ≤ 33554432) (m : Nat) : ∀ (k q : Nat), q + m = d.length → m < k →
    valiselaw3_BitsPlaces.l11 k (pack ((unpack d).take (8 * q))) d ((8 * q : Nat) : Int) ((8 * q : Nat) : Int) (q : Int) d = some (.inr (pack (unpack d), d, ((8 * d.length : Nat) : Int), ((8 * d.length : Nat) : Int))) := by
  induction m with
  | zero =>
    intro k q hq hk
    obtain ⟨k, rfl⟩ : ∃ j, k = j + 1 := ⟨k - 1, by omega⟩
    obtain rfl : q = d.length := by omega
    rw [valiselaw3_BitsPlaces.l11, if_neg (by omega), List.take_of_length_le (by rw [unpack_length]; omega)]
  | succ m ih =>
    intro k q hq hk
    obtain ⟨k, rfl⟩ : ∃ j, k = j + 1 := ⟨k - 1, by omega⟩
    have h := places_in d hd hl q (by omega) 8 FU 0 (by omega) (by rw [FU_eq]; omega)
    have h' : valiselaw3_BitsPlaces.l13 FU (pack ((unpack d).take (8 * q))) d ((8 * q : Nat) : Int) ((8 * q : Nat) : Int) 0 d (q : Int) = _ := h
    rw [valiselaw3_BitsPlaces.l11, if_pos (by omega), h']
    simp only [Option.bind_some, onR]
    rw [bnd_eq, inc_i (by omega), show 8 * q + 8 = 8 * (q + 1) by omega]
    exact ih k (q + 1) (by omega) (by omega)

theorem valiselaw3_BitsPlaces_true (d : List Int) (hd : ∀ x ∈ d, (Lit.int .u8 x).wf = true) (wd : d.length * 1 ≤ 140737488351232) : valiselaw3_BitsPlaces.f d = some true := by
  unfold valiselaw3_BitsPlaces.f
  simp only [bits_NewWriter.f, Option.bind_some]
  by_cases h : 33554432 < (d.length : Int)
  · rw [if_pos h]
  · have hb : ∀ x ∈ d, 0 ≤ x ∧ x < 256 := by
      intro x hx
      obtain ⟨a, rfl, ha⟩ := wf_u (k := .u8) rfl (hd x hx)
      have ha : a < 2 ^ 8 := ha
      omega
    rw [if_neg h]
    simp only [valiselaw3_copied_spec d (by omega), Option.bind_some, bits_NewReader_spec d (by omega), onO_some]
    have hO := places_out d hb (by omega) d.length FU 0 (by omega) (by rw [FU_eq]; omega)
    have hO' : valiselaw3_BitsPlaces.l11 FU [] d 0 0 0 d = some (.inr (pack (unpack d), d, ((8 * d.length : Nat) : Int), ((8 * d.length : Nat) : Int))) := by
      rw [Nat.mul_zero, List.take_zero, pack_nil] at hO; exact hO
    have hR := bits_Writer_Raw_ok [] d rfl (by simp; omega) hb
    have hR' : bits_Writer_Raw.f [] 0 d = some (0, pack (unpack d), ((unpack d).length : Int)) := hR
    rw [hO']
    simp only [Option.bind_some, onR]
    rw [hR', pack_unpack d hb, unpack_length]
    simp only [Option.bind_some, ne_eq, not_true_eq_false, if_false]
    rw [bits_Reader_Left_spec d (by omega) (8 * d.length) (Nat.le_refl _)]
    have e8 : IntKind.i64.wrap (8 * (d.length : Int)) = ((8 * d.length : Nat) : Int) := by rw [wr_i64 (by omega)]; omega
    simp only [Option.bind_some, Nat.sub_self, bits_Writer_Len.f, e8, ne_eq, not_true_eq_false, if_false, bits_Writer_Bytes_spec d _ (show d.length ≤ 35184372088832 by omega), valiselaw3_same_spec d d (by omega), decide_true, if_true]
    rfl
end Go.V.Pu
