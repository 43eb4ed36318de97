/- The plain law: what is joined is the same as if it had been laid down at once. -/
import Derived.Test.YtmbcoaiaeeckiaaGBitsJoinsPure
import Derived.Test.YtmbcoaiaeeckiaaQ2
set_option linter.unusedVariables false
set_option linter.unusedSimpArgs false
namespace Go.V.Pu
open Go Go.V

theorem pack_ne {s : List Bool} (h : s ≠ []) : (pack s).length ≠ 0 := by
  rw [pack_length]
  have := List.length_pos_iff.2 h
  omega
theorem cpy_same {l m : List Int} (h : l.length = m.length) : cpy l m = m := by
  unfold cpy
  rw [h, List.take_length, List.drop_eq_nil_of_le (by omega), List.append_nil]

theorem set_last (l : List Int) (x y : Int) : (l ++ [x]).set l.length y = l ++ [y] := by
  rw [List.set_append_right _ _ (Nat.le_refl _), Nat.sub_self]; rfl
theorem rd_last (l : List Int) (x : Int) : rd (l ++ [x]) (l.length : Int) = x := by
  show (l ++ [x]).getD ((l.length : Int).toNat) 0 = x
  rw [Int.toNat_natCast, List.getD_eq_getElem?_getD, List.getElem?_append_right (Nat.le_refl _), Nat.sub_self]; rfl
/-- One step: k bits of v into the last byte, which holds p. -/
theorem lay_byte (v k i : Nat) (p : List Bool) (hv : v < 2 ^ 64) (hk : k + i ≤ 8) (hp : p.length = i) :
    bor .u8 (val p : Int) (IntKind.u8.wrap (shl .u64 (band .u64 (v : Int) (IntKind.u64.wrap (shl .u64 1 (IntKind.u64.wrap (k : Int)) - 1))) (IntKind.u64.wrap (i : Int)))) = (val (p ++ tobits k v) : Int) := by
  have hk8 : (2 : Nat) ^ k ≤ 2 ^ 8 := Nat.pow_le_pow_right (by omega) (by omega)
  have hk1 : 0 < (2 : Nat) ^ k := Nat.pow_pos (by omega)
  have hi1 : 0 < (2 : Nat) ^ i := Nat.pow_pos (by omega)
  have hki : (2 : Nat) ^ k * 2 ^ i ≤ 2 ^ 8 := by rw [← Nat.pow_add]; exact Nat.pow_le_pow_right (by omega) hk
  have e1 : IntKind.u64.wrap (k : Int) = k := wr_u64 (by omega)
  have e2 : IntKind.u64.wrap (i : Int) = i := wr_u64 (by omega)
  have e3 : shl .u64 1 (k : Int) = ((2 ^ k : Nat) : Int) := by
    have := shl_nat' (k := .u64) rfl (a := 1) (n := k) (by simp only [IntKind.bits]; omega)
    simpa using this
  have e4 : IntKind.u64.wrap (((2 ^ k : Nat) : Int) - 1) = ((2 ^ k - 1 : Nat) : Int) := by rw [wr_u64 (by omega)]; omega
  have e5 : band .u64 (v : Int) ((2 ^ k - 1 : Nat) : Int) = ((v % 2 ^ k : Nat) : Int) := by
    have := band_nat (k := .u64) rfl (a := v) (b := 2 ^ k - 1) hv (by simp only [IntKind.bits]; omega)
    rw [Nat.and_two_pow_sub_one_eq_mod] at this
    exact this
  have hm : v % 2 ^ k < 2 ^ k := Nat.mod_lt _ hk1
  have hmi : v % 2 ^ k * 2 ^ i + 2 ^ i ≤ 2 ^ 8 := by
    have : (v % 2 ^ k + 1) * 2 ^ i ≤ 2 ^ k * 2 ^ i := Nat.mul_le_mul_right _ hm
    rw [Nat.add_mul] at this; omega
  have e6 : shl .u64 ((v % 2 ^ k : Nat) : Int) (i : Int) = ((v % 2 ^ k * 2 ^ i : Nat) : Int) := shl_nat' rfl (by simp only [IntKind.bits]; omega)
  have hpv : val p < 2 ^ i := by have := val_lt p; rwa [hp] at this
  rw [e1, e2, e3, e4, e5, e6, wr_u8 (by omega), bor_nat (k := .u8) rfl (by simp only [IntKind.bits]; omega) (by simp only [IntKind.bits]; omega), val_append, val_tobits, hp, Nat.or_comm]
  have := Nat.shiftLeft_add_eq_or_of_lt (i := i) (b := val p) hpv (v % 2 ^ k)
  rw [Nat.shiftLeft_eq] at this
  rw [← this, Nat.add_comm, Nat.mul_comm]

theorem pack_step (s : List Bool) (t : List Bool) (h0 : t ≠ []) (hl : s.length % 8 + t.length ≤ 8) :
    (s.length % 8 = 0 → pack (s ++ t) = pack s ++ [(val t : Int)]) ∧
    (s.length % 8 ≠ 0 → ∃ l p, pack s = l ++ [(val p : Int)] ∧ p.length = s.length % 8 ∧ pack (s ++ t) = l ++ [(val (p ++ t) : Int)]) := by
  constructor
  · intro h
    rw [pack_append (q := s.length / 8) (by omega), pack_short h0 (by omega)]
  · intro h
    have hs : s = s.take (8 * (s.length / 8)) ++ s.drop (8 * (s.length / 8)) := (List.take_append_drop _ _).symm
    have hp : (s.drop (8 * (s.length / 8))).length = s.length % 8 := by rw [List.length_drop]; omega
    have hq : (s.take (8 * (s.length / 8))).length = 8 * (s.length / 8) := by rw [List.length_take]; omega
    have hpn : s.drop (8 * (s.length / 8)) ≠ [] := by intro e; rw [e] at hp; simp at hp; omega
    refine ⟨pack (s.take (8 * (s.length / 8))), s.drop (8 * (s.length / 8)), ?_, hp, ?_⟩
    · conv => lhs; rw [hs]
      rw [pack_append hq, pack_short hpn (by omega)]
    · conv => lhs; rw [hs, List.append_assoc]
      rw [pack_append hq, pack_short (t := s.drop (8 * (s.length / 8)) ++ t) (fun e => hpn (List.append_eq_nil_iff.1 e).1) (by rw [List.length_append]; omega)]

theorem lay_loop (m : Nat) : ∀ (k n v : Nat) (s : List Bool), n ≤ m → m < k → v < 2 ^ 64 → s.length + n ≤ 1099511627776 →
    bits_Writer_lay.l1 k (pack s) (s.length : Int) (v : Int) (n : Int) = some (pack (s ++ tobits n v), ((s.length + n : Nat) : Int)) := by
  induction m with
  | zero =>
    intro k n v s hn hk hv hs
    obtain ⟨k, rfl⟩ : ∃ j, k = j + 1 := ⟨k - 1, by omega⟩
    obtain rfl : n = 0 := by omega
    rw [bits_Writer_lay.l1, if_neg (by omega)]
    simp [tobits]
  | succ m ih =>
    intro k n v s hn hk hv hs
    obtain ⟨k, rfl⟩ : ∃ j, k = j + 1 := ⟨k - 1, by omega⟩
    by_cases hn0 : n = 0
    · subst hn0
      rw [bits_Writer_lay.l1, if_neg (by omega)]
      simp [tobits]
    · have hpl : (pack s).length = (s.length + 7) / 8 := pack_length s
      have e0 : Int.tmod (s.length : Int) 8 = ((s.length % 8 : Nat) : Int) := by rw [Int.tmod_eq_emod_of_nonneg (by omega)]; omega
      generalize hi : s.length % 8 = i at e0
      have e1 : min (IntKind.i64.wrap (8 - (i : Int))) (n : Int) = ((min (8 - i) n : Nat) : Int) := by rw [wr_i64 (by omega)]; omega
      generalize hj : min (8 - i) n = j at e1
      have hj1 : 1 ≤ j ∧ j + i ≤ 8 ∧ j ≤ n := by omega
      have e2 : shr .u64 (v : Int) (IntKind.u64.wrap (j : Int)) = ((v / 2 ^ j : Nat) : Int) := by rw [wr_u64 (by omega)]; exact shr_nat (k := .u64) hv
      have e3 : IntKind.i64.wrap ((n : Int) - (j : Int)) = ((n - j : Nat) : Int) := by rw [wr_i64 (by omega)]; omega
      have hv2 : v / 2 ^ j < 2 ^ 64 := Nat.lt_of_le_of_lt (Nat.div_le_self _ _) hv
      have htn : tobits j v ≠ [] := by intro e; have := congrArg List.length e; rw [tobits_length] at this; simp at this; omega
      have hsplit : tobits n v = tobits j v ++ tobits (n - j) (v / 2 ^ j) := by rw [← tobits_add]; congr 1; omega
      have goal : ∀ l, l = pack (s ++ tobits j v) → bits_Writer_lay.l1 k l (IntKind.i64.wrap ((s.length : Int) + (j : Int))) ((v / 2 ^ j : Nat) : Int) ((n - j : Nat) : Int) = some (pack (s ++ tobits n v), ((s.length + n : Nat) : Int)) := by
        rintro l rfl
        have hsl : (s ++ tobits j v).length = s.length + j := by rw [List.length_append, tobits_length]
        have e4 : IntKind.i64.wrap ((s.length : Int) + (j : Int)) = ((s ++ tobits j v).length : Int) := by rw [wr_i64 (by omega), hsl]; omega
        rw [e4, ih k (n - j) (v / 2 ^ j) (s ++ tobits j v) (by omega) (by omega) hv2 (by rw [hsl]; omega), hsl, hsplit, List.append_assoc]
        congr 3; omega
      have hw : ∀ q : Nat, q < 1099511627776 → IntKind.u64.wrap ((q : Nat) : Int) = q := fun q hq => wr_u64 (by omega)
      rw [bits_Writer_lay.l1, if_pos (by omega), bnd_eq, e0]
      obtain ⟨p1, p2⟩ := pack_step s (tobits j v) htn (by rw [tobits_length]; omega)
      by_cases hi0 : i = 0
      · subst hi0
        have hlen : (pack s ++ [(0 : Int)]).length = (pack s).length + 1 := by simp
        rw [if_pos (show ((0 : Nat) : Int) = 0 from rfl), bnd_eq, gd_pos (by rw [hlen]; omega), Option.bind_some, bnd_eq, e1, gd_pos (by rw [hw j (by omega)]; omega), bnd_eq]
        have e5 : IntKind.i64.wrap (((pack s ++ [(0 : Int)]).length : Int) - 1) = ((pack s).length : Int) := by rw [wr_i64 (by rw [hlen]; omega), hlen]; omega
        rw [e5, gd_pos (by rw [hlen]; omega), gd_pos (by rw [hw 0 (by omega)]; omega), bnd_eq, bnd_eq, e2, bnd_eq, e3]
        apply goal
        rw [Int.toNat_natCast, set_last, rd_last]
        have := lay_byte v j 0 [] hv (by omega) rfl
        rw [show (val [] : Int) = 0 from rfl] at this
        rw [this, p1 hi]
        rfl
      · rw [if_neg (by omega), Option.bind_some, bnd_eq, e1, gd_pos (by rw [hw j (by omega)]; omega), bnd_eq]
        obtain ⟨l, p, hpk, hpl2, hpk2⟩ := p2 (by omega)
        have hlen : (l ++ [(val p : Int)]).length = l.length + 1 := by simp
        have e5 : IntKind.i64.wrap (((l ++ [(val p : Int)]).length : Int) - 1) = (l.length : Int) := by
          have : l.length + 1 = (s.length + 7) / 8 := by rw [← hlen, ← hpk, hpl]
          rw [wr_i64 (by rw [hlen]; omega), hlen]; omega
        rw [hpk, e5, gd_pos (by rw [hlen]; omega), gd_pos (by rw [hw i (by omega)]; omega), bnd_eq, bnd_eq, e2, bnd_eq, e3]
        apply goal
        rw [Int.toNat_natCast, set_last, rd_last, lay_byte v j i p hv (by omega) (by rw [hpl2, hi]), hpk2]

theorem bits_Writer_lay_spec (s : List Bool) (v n : Nat) (hv : v < 2 ^ 64) (hs : s.length + n ≤ 1099511627776) :
    bits_Writer_lay.f (pack s) (s.length : Int) (v : Int) (n : Int) = some (pack (s ++ tobits n v), ((s.length + n : Nat) : Int)) := by
  rw [bits_Writer_lay.f, lay_loop n FU n v s (Nat.le_refl _) (by rw [FU_eq]; omega) hv hs]
  rfl

theorem bits_Writer_Put_spec (s : List Bool) (v : Nat) (n : Int) (hv : v < 2 ^ 32) (hn : -9223372036854775808 ≤ n ∧ n ≤ 9223372036854775807) (hs : s.length ≤ 268435456) :
    bits_Writer_Put.f (pack s) (s.length : Int) (v : Int) n = if 0 ≤ n ∧ n ≤ 32 ∧ v < 2 ^ n.toNat ∧ s.length + n.toNat ≤ 268435456 then some (0, pack (s ++ tobits n.toNat v), ((s ++ tobits n.toNat v).length : Int)) else some (1, pack s, (s.length : Int)) := by
  unfold bits_Writer_Put.f
  by_cases hb : n < 0 ∨ 32 < n
  · rw [if_pos hb, if_neg (by omega)]
    simp
  · obtain ⟨n, rfl⟩ : ∃ m : Nat, n = m := ⟨n.toNat, by omega⟩
    have e0 : IntKind.u64.wrap (n : Int) = n := wr_u64 (by omega)
    have ev : IntKind.u64.wrap (v : Int) = v := wr_u64 (by omega)
    have e2 : shr .u64 (v : Int) (n : Int) = ((v / 2 ^ n : Nat) : Int) := shr_nat (k := .u64) (by simp only [IntKind.bits]; omega)
    have e3 : IntKind.i64.wrap ((s.length : Int) + (n : Int)) = ((s.length + n : Nat) : Int) := by rw [wr_i64 (by omega)]; rfl
    rw [if_neg hb, e0, ev, gd_pos (by omega), e2, e3, Option.bind_some]
    have hd : (v / 2 ^ n = 0) ↔ v < 2 ^ n := Nat.div_eq_zero_iff_lt (Nat.pow_pos (by omega))
    simp only [Int.toNat_natCast]
    by_cases hl : v < 2 ^ n ∧ s.length + n ≤ 268435456
    · have hq : ((v / 2 ^ n : Nat) : Int) = 0 := by rw [hd.2 hl.1]; rfl
      rw [if_neg (by simp only [hq]; simp; omega), if_pos (by omega), bits_Writer_lay_spec s v n (by omega) (by omega), List.length_append, tobits_length]
      rfl
    · have hc : (decide (((v / 2 ^ n : Nat) : Int) ≠ 0) = true) ∨ (268435456 < ((s.length + n : Nat) : Int)) := by
        by_cases h1 : v < 2 ^ n
        · right; omega
        · left
          have : v / 2 ^ n ≠ 0 := fun e => h1 (hd.1 e)
          exact decide_eq_true (by omega)
      rw [if_pos hc, if_neg (by omega)]

theorem put_ok (s : List Bool) (v n : Nat) (hv : v < 2 ^ 32) (hn : n ≤ 32) (hvn : v < 2 ^ n) (hs : s.length + n ≤ 268435456) :
    bits_Writer_Put.f (pack s) (s.length : Int) (v : Int) (n : Int) = some (0, pack (s ++ tobits n v), ((s ++ tobits n v).length : Int)) := by
  rw [bits_Writer_Put_spec s v n hv (by omega) (by omega), if_pos ⟨by omega, by omega, by rw [Int.toNat_natCast]; exact hvn, by rw [Int.toNat_natCast]; exact hs⟩, Int.toNat_natCast]


theorem bits_Writer_Bytes_spec (d : List Int) (n : Int) (h : d.length ≤ 35184372088832) : bits_Writer_Bytes.f d n = some d := by
  unfold bits_Writer_Bytes.f
  by_cases h0 : (d.length : Int) = 0
  · rw [if_pos h0]
    have : d = [] := List.length_eq_zero_iff.1 (by omega)
    rw [this]
  · rw [if_neg h0, gd_pos (by omega), bnd_eq, bnd_eq, cpy_same (by simp)]

theorem low_spec (v n : Nat) (hv : v < 2 ^ 32) (hn : n ≤ 32) : valiselaw3_low.f (v : Int) (n : Int) = some ((v % 2 ^ n : Nat) : Int) := by
  have hk8 : (2 : Nat) ^ n ≤ 2 ^ 32 := Nat.pow_le_pow_right (by omega) (by omega)
  have hk1 : 0 < (2 : Nat) ^ n := Nat.pow_pos (by omega)
  have e1 : IntKind.u64.wrap (n : Int) = n := wr_u64 (by omega)
  have e2 : IntKind.u64.wrap (v : Int) = v := wr_u64 (by omega)
  have e3 : shl .u64 1 (n : Int) = ((2 ^ n : Nat) : Int) := by
    have := shl_nat' (k := .u64) rfl (a := 1) (n := n) (by simp only [IntKind.bits]; omega)
    simpa using this
  have e4 : IntKind.u64.wrap (((2 ^ n : Nat) : Int) - 1) = ((2 ^ n - 1 : Nat) : Int) := by rw [wr_u64 (by omega)]; omega
  have e5 : band .u64 (v : Int) ((2 ^ n - 1 : Nat) : Int) = ((v % 2 ^ n : Nat) : Int) := by
    have := band_nat (k := .u64) rfl (a := v) (b := 2 ^ n - 1) (by simp only [IntKind.bits]; omega) (by simp only [IntKind.bits]; omega)
    rw [Nat.and_two_pow_sub_one_eq_mod] at this
    exact this
  have hm : v % 2 ^ n < 2 ^ 32 := Nat.lt_of_le_of_lt (Nat.mod_le _ _) hv
  have e6 : IntKind.u32.wrap ((v % 2 ^ n : Nat) : Int) = ((v % 2 ^ n : Nat) : Int) := by
    generalize v % 2 ^ n = y at hm
    exact wr_u32 (by omega)
  rw [valiselaw3_low.f, e1, e2, e3, e4, e5, gd_pos (by omega), e6]

theorem valiselaw3_same_spec (a b : List Int) (h : a.length < 4611686018427387904) : valiselaw3_same.f a b = some (decide (a = b)) := by
  unfold valiselaw3_same.f
  by_cases hl : a.length = b.length
  · rw [if_neg (by omega)]
    have key := list_loop1 a (by omega) (fun k i (_ : Unit) => valiselaw3_same.l1 k i a b) (fun i x _ => if rd b (i : Int) = x then .inr () else .inl (.inl false)) (fun _ => .inr ())
      (fun k _ => by rw [valiselaw3_same.l1, if_neg (by omega)])
      (fun k i x _ hx hi => by
        have e1 : rd a (i : Int) = x := rd_at hx
        rw [valiselaw3_same.l1, if_pos (by omega), gd_pos (by omega), gd_pos (by omega), e1]
        by_cases e : rd b (i : Int) = x
        · simp only [if_pos e]
          rw [if_neg (fun e' => e' e.symm), bnd_eq, inc_i (by omega)]
        · simp only [if_neg e]
          rw [if_pos (fun e' => e e'.symm)]) ()
    rw [show valiselaw3_same.l1 FU 0 a b = _ from key]
    by_cases e : a = b
    · rw [foldE_ok a 0 (fun j x hx => by rw [if_pos ((all_eq hl).2 e j x hx)])]
      simp [onR, e]
    · rw [foldE_bad (bad := .inl false) a 0 (fun j x hx => by
        by_cases e2 : rd b ((0 + j : Nat) : Int) = x
        · left; rw [if_pos e2]
        · right; rw [if_neg e2]) ?_]
      · simp [onR, e]
      · apply Classical.byContradiction
        intro hn
        apply e
        rw [← all_eq hl]
        intro j x hx
        apply Classical.byContradiction
        intro h2
        exact hn ⟨j, x, hx, by rw [if_neg h2]; intro h3; cases h3⟩
  · rw [if_pos (by omega)]
    simp
    intro e
    exact hl (by rw [e])

theorem packN_at (q : Nat) : ∀ (s : List Bool) (i : Nat), i < q → (packN q s)[i]? = some ((val ((s.drop (8 * i)).take 8) : Nat) : Int) := by
  induction q with
  | zero => intro s i h; omega
  | succ q ih =>
    intro s i h
    rw [packN]
    cases i with
    | zero => simp
    | succ i =>
      rw [List.getElem?_cons_succ, ih _ i (by omega), List.drop_drop, show 8 * (i + 1) = 8 + 8 * i by omega]
theorem pack_at (s : List Bool) (i : Nat) (h : 8 * i < s.length) : (pack s)[i]? = some ((val ((s.drop (8 * i)).take 8) : Nat) : Int) := packN_at _ s i (by omega)

theorem bits_Writer_Join_loop (x : List Bool) (hx : x.length ≤ 268435456) (m : Nat) : ∀ (k i : Nat) (s : List Bool), i + m = (pack x).length → m < k → s.length + (x.length - 8 * i) ≤ 1099511627776 →
    bits_Writer_Join.l1 k (pack s) (s.length : Int) ((x.length - 8 * i : Nat) : Int) (i : Int) (pack x) = some (pack (s ++ x.drop (8 * i)), ((s ++ x.drop (8 * i)).length : Int)) := by
  have hpl : (pack x).length = (x.length + 7) / 8 := pack_length x
  induction m with
  | zero =>
    intro k i s hi hk hs
    obtain ⟨k, rfl⟩ : ∃ j, k = j + 1 := ⟨k - 1, by omega⟩
    rw [bits_Writer_Join.l1, if_neg (by omega), List.drop_of_length_le (by omega), List.append_nil]
  | succ m ih =>
    intro k i s hi hk hs
    obtain ⟨k, rfl⟩ : ∃ j, k = j + 1 := ⟨k - 1, by omega⟩
    have hb := pack_at x i (by omega)
    have hd : x.drop (8 * i) = (x.drop (8 * i)).take 8 ++ x.drop (8 * (i + 1)) := by
      have := List.take_append_drop 8 (x.drop (8 * i))
      rw [List.drop_drop] at this
      exact this.symm
    have hv := val_lt ((x.drop (8 * i)).take 8)
    have hl8 : ((x.drop (8 * i)).take 8).length = min 8 (x.length - 8 * i) := by rw [List.length_take, List.length_drop]
    have h8 : 2 ^ ((x.drop (8 * i)).take 8).length ≤ 2 ^ 8 := Nat.pow_le_pow_right (by omega) (by omega)
    have eb : tobits (min 8 (x.length - 8 * i)) (val ((x.drop (8 * i)).take 8)) = (x.drop (8 * i)).take 8 := by rw [← hl8]; exact tobits_val _
    rw [hd]
    generalize (x.drop (8 * i)).take 8 = t at *
    have e1 : min (8 : Int) ((x.length - 8 * i : Nat) : Int) = ((min 8 (x.length - 8 * i) : Nat) : Int) := by omega
    have e2 : IntKind.u64.wrap ((val t : Nat) : Int) = ((val t : Nat) : Int) := wr_u64 (by omega)
    have e3 : IntKind.i64.wrap (((x.length - 8 * i : Nat) : Int) - ((min 8 (x.length - 8 * i) : Nat) : Int)) = ((x.length - 8 * (i + 1) : Nat) : Int) := by rw [wr_i64 (by omega)]; omega
    have e4 : s.length + min 8 (x.length - 8 * i) = (s ++ t).length := by rw [List.length_append, hl8]
    rw [bits_Writer_Join.l1, if_pos (by omega), gd_pos (by omega), bnd_eq, bnd_eq, rd_at hb, e1, e2, bits_Writer_lay_spec s (val t) (min 8 (x.length - 8 * i)) (by omega) (by omega), eb, Option.bind_some]
    simp only [bnd_eq]
    rw [e3, inc_i (by omega), e4, ih k (i + 1) (s ++ t) (by omega) (by omega) (by rw [List.length_append]; omega), List.append_assoc]

theorem bits_Writer_Join_s1_loop (x : List Bool) (hx : x.length ≤ 268435456) (m : Nat) : ∀ (k i : Nat) (s : List Bool), i + m = (pack x).length → m < k → s.length + (x.length - 8 * i) ≤ 1099511627776 →
    bits_Writer_Join_s1.l1 k (pack s) (s.length : Int) ((x.length - 8 * i : Nat) : Int) (i : Int) (pack x) = some (pack (s ++ x.drop (8 * i)), ((s ++ x.drop (8 * i)).length : Int)) := by
  have hpl : (pack x).length = (x.length + 7) / 8 := pack_length x
  induction m with
  | zero =>
    intro k i s hi hk hs
    obtain ⟨k, rfl⟩ : ∃ j, k = j + 1 := ⟨k - 1, by omega⟩
    rw [bits_Writer_Join_s1.l1, if_neg (by omega), List.drop_of_length_le (by omega), List.append_nil]
  | succ m ih =>
    intro k i s hi hk hs
    obtain ⟨k, rfl⟩ : ∃ j, k = j + 1 := ⟨k - 1, by omega⟩
    have hb := pack_at x i (by omega)
    have hd : x.drop (8 * i) = (x.drop (8 * i)).take 8 ++ x.drop (8 * (i + 1)) := by
      have := List.take_append_drop 8 (x.drop (8 * i))
      rw [List.drop_drop] at this
      exact this.symm
    have hv := val_lt ((x.drop (8 * i)).take 8)
    have hl8 : ((x.drop (8 * i)).take 8).length = min 8 (x.length - 8 * i) := by rw [List.length_take, List.length_drop]
    have h8 : 2 ^ ((x.drop (8 * i)).take 8).length ≤ 2 ^ 8 := Nat.pow_le_pow_right (by omega) (by omega)
    have eb : tobits (min 8 (x.length - 8 * i)) (val ((x.drop (8 * i)).take 8)) = (x.drop (8 * i)).take 8 := by rw [← hl8]; exact tobits_val _
    rw [hd]
    generalize (x.drop (8 * i)).take 8 = t at *
    have e1 : min (8 : Int) ((x.length - 8 * i : Nat) : Int) = ((min 8 (x.length - 8 * i) : Nat) : Int) := by omega
    have e2 : IntKind.u64.wrap ((val t : Nat) : Int) = ((val t : Nat) : Int) := wr_u64 (by omega)
    have e3 : IntKind.i64.wrap (((x.length - 8 * i : Nat) : Int) - ((min 8 (x.length - 8 * i) : Nat) : Int)) = ((x.length - 8 * (i + 1) : Nat) : Int) := by rw [wr_i64 (by omega)]; omega
    have e4 : s.length + min 8 (x.length - 8 * i) = (s ++ t).length := by rw [List.length_append, hl8]
    rw [bits_Writer_Join_s1.l1, if_pos (by omega), gd_pos (by omega), bnd_eq, bnd_eq, rd_at hb, e1, e2, bits_Writer_lay_spec s (val t) (min 8 (x.length - 8 * i)) (by omega) (by omega), eb, Option.bind_some]
    simp only [bnd_eq]
    rw [e3, inc_i (by omega), e4, ih k (i + 1) (s ++ t) (by omega) (by omega) (by rw [List.length_append]; omega), List.append_assoc]

theorem bits_Writer_Join_spec (s x : List Bool) (h : s.length + x.length ≤ 268435456) :
    bits_Writer_Join.f (pack s) (s.length : Int) (pack x) (x.length : Int) = some (0, pack (s ++ x), ((s ++ x).length : Int)) := by
  have hpl : (pack x).length = (x.length + 7) / 8 := pack_length x
  have hpl' : (pack s).length = (s.length + 7) / 8 := pack_length s
  have e1 : IntKind.i64.wrap ((s.length : Int) + (x.length : Int)) = ((s ++ x).length : Int) := by rw [wr_i64 (by omega), List.length_append]; omega
  have e2 : Int.tmod (s.length : Int) 8 = ((s.length % 8 : Nat) : Int) := by rw [Int.tmod_eq_emod_of_nonneg (by omega)]; omega
  rw [bits_Writer_Join.f, e1, if_neg (by rw [List.length_append]; omega), gd_pos (by omega), bnd_eq, bnd_eq, cpy_same (by simp), e2]
  by_cases h0 : s.length % 8 = 0
  · rw [if_pos (by omega), bnd_eq, gd_pos (by rw [List.length_append]; omega), pack_append (q := s.length / 8) (by omega)]
  · have := bits_Writer_Join_loop x (by omega) (pack x).length FU 0 s (by omega) (by rw [FU_eq]; omega) (by omega)
    simp only [Nat.mul_zero, Nat.sub_zero, List.drop_zero] at this
    rw [if_neg (by omega), show ((0 : Nat) : Int) = 0 from rfl] at *
    rw [this]; rfl
theorem bits_Writer_Join_s1_spec (s : List Bool) (h : s.length + s.length ≤ 268435456) :
    bits_Writer_Join_s1.f (pack s) (s.length : Int) = some (0, pack (s ++ s), ((s ++ s).length : Int)) := by
  have hpl : (pack s).length = (s.length + 7) / 8 := pack_length s
  have e1 : IntKind.i64.wrap ((s.length : Int) + (s.length : Int)) = ((s ++ s).length : Int) := by rw [wr_i64 (by omega), List.length_append]; omega
  have e2 : Int.tmod (s.length : Int) 8 = ((s.length % 8 : Nat) : Int) := by rw [Int.tmod_eq_emod_of_nonneg (by omega)]; omega
  rw [bits_Writer_Join_s1.f, e1, if_neg (by rw [List.length_append]; omega), gd_pos (by omega), bnd_eq, bnd_eq, cpy_same (by simp), e2]
  by_cases h0 : s.length % 8 = 0
  · rw [if_pos (by omega), bnd_eq, gd_pos (by rw [List.length_append]; omega), pack_append (q := s.length / 8) (by omega)]
  · have := bits_Writer_Join_s1_loop s (by omega) (pack s).length FU 0 s (by omega) (by rw [FU_eq]; omega) (by omega)
    simp only [Nat.mul_zero, Nat.sub_zero, List.drop_zero] at this
    rw [if_neg (by omega), show ((0 : Nat) : Int) = 0 from rfl] at *
    rw [this]; rfl


/-- The bits of numbers, the i-th one of the width f i. -/
def row (f : Nat → Nat) (l : List Int) : Nat → List Bool
  | 0 => []
  | i + 1 => row f l i ++ tobits (f i) ((l.getD i 0).toNat % 2 ^ f i)
theorem row_length {f : Nat → Nat} (hf : ∀ i, f i ≤ 32) (l : List Int) (i : Nat) : (row f l i).length ≤ 32 * i := by
  induction i with
  | zero => simp [row]
  | succ i ih => rw [row, List.length_append, tobits_length]; have := hf i; omega
theorem row_len (f : Nat → Nat) (l : List Int) (i : Nat) : (row f l (i + 1)).length = (row f l i).length + f i := by rw [row, List.length_append, tobits_length]
theorem put_row (s : List Bool) {l : List Int} (hl : ∀ x ∈ l, (Lit.int .u32 x).wf = true) (f : Nat → Nat) (i : Nat) (hi : i < l.length) (hf : f i ≤ 32) (hs : s.length + f i ≤ 268435456) :
    ((valiselaw3_low.f (rd l (i : Int)) ((f i : Nat) : Int)).bind fun z => bits_Writer_Put.f (pack s) (s.length : Int) z ((f i : Nat) : Int)) = some (0, pack (s ++ tobits (f i) ((l.getD i 0).toNat % 2 ^ f i)), ((s ++ tobits (f i) ((l.getD i 0).toNat % 2 ^ f i)).length : Int)) := by
  have hx : l[i]? = some l[i] := List.getElem?_eq_getElem hi
  have e : l.getD i 0 = l[i] := by rw [List.getD_eq_getElem?_getD, hx]; rfl
  obtain ⟨a, ea, ha⟩ := wf_u (k := .u32) rfl (hl _ (List.getElem_mem hi))
  have ha : a < 2 ^ 32 := ha
  have hm : a % 2 ^ f i < 2 ^ f i := Nat.mod_lt _ (Nat.pow_pos (by omega))
  rw [rd_at hx, e, ea, low_spec a (f i) ha hf, Option.bind_some, Int.toNat_natCast]
  exact put_ok s _ (f i) (Nat.lt_of_le_of_lt (Nat.mod_le _ _) ha) hf hm hs
/-- The width of the second list's numbers. -/
def f2 (i : Nat) : Nat := i % 31 + 1
theorem f2_le (i : Nat) : f2 i ≤ 32 := by unfold f2; omega
theorem f2_eq {i : Nat} (h : i < 1099511627776) : IntKind.i64.wrap ((Int.tmod (i : Int) 31) + 1) = ((f2 i : Nat) : Int) := by
  rw [Int.tmod_eq_emod_of_nonneg (by omega), wr_i64 (by omega)]; unfold f2; omega

theorem loop13a (l : List Int) (hl : ∀ x ∈ l, (Lit.int .u32 x).wf = true) (hn : l.length ≤ 1048576) (m : Nat) : ∀ (k i : Nat), i + m = l.length → m < k →
    valiselaw3_BitsJoins.l13 k (pack (row f2 l i)) (pack (row f2 l i)) ((row f2 l i).length : Int) ((row f2 l i).length : Int) ((row f2 l i).length : Int) (i : Int) l 0 = some (.inr (pack (row f2 l l.length), pack (row f2 l l.length), ((row f2 l l.length).length : Int), ((row f2 l l.length).length : Int), ((row f2 l l.length).length : Int))) := by
  induction m with
  | zero =>
    intro k i hi hk
    obtain ⟨k, rfl⟩ : ∃ j, k = j + 1 := ⟨k - 1, by omega⟩
    rw [valiselaw3_BitsJoins.l13, if_neg (by omega), show i = l.length by omega]
  | succ m ih =>
    intro k i hi hk
    obtain ⟨k, rfl⟩ : ∃ j, k = j + 1 := ⟨k - 1, by omega⟩
    have h1 := row_length f2_le l i
    have h2 := f2_le i
    have hp := put_row (row f2 l i) hl f2 i (by omega) h2 (by omega)
    obtain ⟨z, hz, hp⟩ := Option.bind_eq_some_iff.1 hp
    rw [valiselaw3_BitsJoins.l13, if_pos (by omega), bnd_eq, f2_eq (by omega), if_pos rfl, gd_pos (by omega), hz]
    simp only [Option.bind_some, hp, ne_eq, not_true_eq_false, if_false, bnd_eq, onR]
    have e : IntKind.i64.wrap (((row f2 l i).length : Int) + (f2 i : Int)) = ((row f2 l (i + 1)).length : Int) := by rw [row_len, wr_i64 (by omega)]; omega
    rw [gd_pos (by omega), e, inc_i (by omega)]
    exact ih k (i + 1) (by omega) (by omega)
theorem loop13b (l : List Int) (hl : ∀ x ∈ l, (Lit.int .u32 x).wf = true) (hn : l.length ≤ 1048576) (X : List Int) (c n : Int) (W : List Bool) (hW : W.length ≤ 33554432) (m : Nat) : ∀ (k i : Nat), i + m = l.length → m < k →
    valiselaw3_BitsJoins.l13 k X (pack (W ++ row f2 l i)) c ((W ++ row f2 l i).length : Int) n (i : Int) l 1 = some (.inr (X, pack (W ++ row f2 l l.length), c, ((W ++ row f2 l l.length).length : Int), n)) := by
  induction m with
  | zero =>
    intro k i hi hk
    obtain ⟨k, rfl⟩ : ∃ j, k = j + 1 := ⟨k - 1, by omega⟩
    rw [valiselaw3_BitsJoins.l13, if_neg (by omega), show i = l.length by omega]
  | succ m ih =>
    intro k i hi hk
    obtain ⟨k, rfl⟩ : ∃ j, k = j + 1 := ⟨k - 1, by omega⟩
    have h1 := row_length f2_le l i
    have h2 := f2_le i
    have hp := put_row (W ++ row f2 l i) hl f2 i (by omega) h2 (by rw [List.length_append]; omega)
    obtain ⟨z, hz, hp⟩ := Option.bind_eq_some_iff.1 hp
    rw [valiselaw3_BitsJoins.l13, if_pos (by omega), bnd_eq, f2_eq (by omega), if_neg (by omega)]
    simp only [Option.bind_some, onR]
    rw [gd_pos (by omega), hz]
    simp only [Option.bind_some, hp, ne_eq, not_true_eq_false, if_false, bnd_eq, onR]
    rw [inc_i (by omega), List.append_assoc]
    exact ih k (i + 1) (by omega) (by omega)
theorem loop17 (l : List Int) (hl : ∀ x ∈ l, (Lit.int .u32 x).wf = true) (hn : l.length ≤ 1048576) (W : List Bool) (hW : W.length ≤ 33554432) (m : Nat) : ∀ (k i : Nat), i + m = l.length → m < k →
    valiselaw3_BitsJoins.l17 k (pack (W ++ row f2 l i)) ((W ++ row f2 l i).length : Int) (i : Int) l = some (.inr (pack (W ++ row f2 l l.length), ((W ++ row f2 l l.length).length : Int))) := by
  induction m with
  | zero =>
    intro k i hi hk
    obtain ⟨k, rfl⟩ : ∃ j, k = j + 1 := ⟨k - 1, by omega⟩
    rw [valiselaw3_BitsJoins.l17, if_neg (by omega), show i = l.length by omega]
  | succ m ih =>
    intro k i hi hk
    obtain ⟨k, rfl⟩ : ∃ j, k = j + 1 := ⟨k - 1, by omega⟩
    have h1 := row_length f2_le l i
    have h2 := f2_le i
    have hp := put_row (W ++ row f2 l i) hl f2 i (by omega) h2 (by rw [List.length_append]; omega)
    obtain ⟨z, hz, hp⟩ := Option.bind_eq_some_iff.1 hp
    rw [valiselaw3_BitsJoins.l17, if_pos (by omega), bnd_eq, f2_eq (by omega), gd_pos (by omega), hz]
    simp only [Option.bind_some, hp, ne_eq, not_true_eq_false, if_false, bnd_eq, onR]
    rw [inc_i (by omega), List.append_assoc]
    exact ih k (i + 1) (by omega) (by omega)
/-- The width of the first list's numbers. -/
def f1 (a : Nat) (i : Nat) : Nat := (i + a) % 32 + 1
theorem f1_le (a i : Nat) : f1 a i ≤ 32 := by unfold f1; omega
theorem loop15 (l : List Int) (hl : ∀ x ∈ l, (Lit.int .u32 x).wf = true) (hn : l.length ≤ 1048576) (m : Nat) : ∀ (k i : Nat), i + m = l.length → m < k →
    valiselaw3_BitsJoins.l15 k (pack (row (f1 ((l.getD 0 0).toNat % 32)) l i)) (pack (row (f1 ((l.getD 0 0).toNat % 32)) l i)) ((row (f1 ((l.getD 0 0).toNat % 32)) l i).length : Int) ((row (f1 ((l.getD 0 0).toNat % 32)) l i).length : Int) ((row (f1 ((l.getD 0 0).toNat % 32)) l i).length : Int) (i : Int) l =
      some (.inr (pack (row (f1 ((l.getD 0 0).toNat % 32)) l l.length), pack (row (f1 ((l.getD 0 0).toNat % 32)) l l.length), ((row (f1 ((l.getD 0 0).toNat % 32)) l l.length).length : Int), ((row (f1 ((l.getD 0 0).toNat % 32)) l l.length).length : Int), ((row (f1 ((l.getD 0 0).toNat % 32)) l l.length).length : Int))) := by
  generalize ha : (l.getD 0 0).toNat % 32 = a
  induction m with
  | zero =>
    intro k i hi hk
    obtain ⟨k, rfl⟩ : ∃ j, k = j + 1 := ⟨k - 1, by omega⟩
    rw [valiselaw3_BitsJoins.l15, if_neg (by omega), show i = l.length by omega]
  | succ m ih =>
    intro k i hi hk
    obtain ⟨k, rfl⟩ : ∃ j, k = j + 1 := ⟨k - 1, by omega⟩
    have h1 := row_length (f1_le a) l i
    have h2 := f1_le a i
    have h0 : l[0]? = some l[0] := List.getElem?_eq_getElem (by omega)
    obtain ⟨b, eb, hb⟩ := wf_u (k := .u32) rfl (hl _ (List.getElem_mem (show 0 < l.length by omega)))
    have hb : b < 2 ^ 32 := hb
    have e0 : rd l 0 = (b : Int) := by have := rd_at h0; rw [eb] at this; exact this
    have hba : b % 32 = a := by rw [← ha, List.getD_eq_getElem?_getD, h0, eb]; rfl
    have e1 : IntKind.i64.wrap ((Int.tmod (IntKind.i64.wrap ((i : Int) + (IntKind.i64.wrap (Int.tmod (rd l 0) 32)))) 32) + 1) = ((f1 a i : Nat) : Int) := by
      rw [e0, Int.tmod_eq_emod_of_nonneg (a := (b : Int)) (by omega), show ((b : Int) % 32) = (a : Int) by omega, wr_i64 (x := (a : Int)) (by omega), wr_i64 (x := (i : Int) + (a : Int)) (by omega), Int.tmod_eq_emod_of_nonneg (by omega), wr_i64 (by omega)]
      unfold f1; omega
    have hp := put_row (row (f1 a) l i) hl (f1 a) i (by omega) h2 (by omega)
    obtain ⟨z, hz, hp⟩ := Option.bind_eq_some_iff.1 hp
    rw [valiselaw3_BitsJoins.l15, if_pos (by omega), gd_pos (by omega), bnd_eq, e1, gd_pos (by omega), hz]
    simp only [Option.bind_some, hp, ne_eq, not_true_eq_false, if_false, bnd_eq, onR, hz]
    have e : IntKind.i64.wrap (((row (f1 a) l i).length : Int) + (f1 a i : Int)) = ((row (f1 a) l (i + 1)).length : Int) := by rw [row_len, wr_i64 (by omega)]; omega
    rw [e, inc_i (by omega)]
    exact ih k (i + 1) (by omega) (by omega)

theorem valiselaw3_BitsJoins_true (a b : List Int) (ha : ∀ x ∈ a, (Lit.int .u32 x).wf = true) (wa : a.length * 4 ≤ 140737488351232) (hb : ∀ x ∈ b, (Lit.int .u32 x).wf = true) (wb : b.length * 4 ≤ 140737488351232) : valiselaw3_BitsJoins.f a b = some true := by
  unfold valiselaw3_BitsJoins.f
  rw [wr_i64 (by omega)]
  by_cases h : 1048576 < (a.length : Int) + (b.length : Int)
  · rw [if_pos h]
  · rw [if_neg h]
    have hT := row_length f2_le b b.length
    have hO := row_length (f1_le ((a.getD 0 0).toNat % 32)) a a.length
    have k1 := loop13a b hb (by omega) b.length FU 0 (by omega) (by rw [FU_eq]; omega)
    have k2 := loop13b b hb (by omega) (pack (row f2 b b.length)) ((row f2 b b.length).length : Int) ((row f2 b b.length).length : Int) (row f2 b b.length) (by omega) b.length FU 0 (by omega) (by rw [FU_eq]; omega)
    have k3 := loop15 a ha (by omega) a.length FU 0 (by omega) (by rw [FU_eq]; omega)
    generalize row (f1 ((a.getD 0 0).toNat % 32)) a a.length = O at *
    have k4 := loop17 b hb (by omega) O (by omega) b.length FU 0 (by omega) (by rw [FU_eq]; omega)
    have e0 : ((0 : Nat) : Int) = 0 := rfl
    simp only [row, List.append_nil, pack_nil, List.length_nil, e0] at k1 k2 k3 k4
    generalize row f2 b b.length = T at *
    have k11 : valiselaw3_BitsJoins.l11 FU [] [] 0 0 0 0 b = some (.inr (pack T, pack (T ++ T), (T.length : Int), ((T ++ T).length : Int), (T.length : Int))) := by
      have e1 : FU = 36893488147419103229 + 1 + 1 + 1 := rfl
      have w1 : IntKind.i64.wrap (0 + 1) = 1 := by decide
      have w2 : IntKind.i64.wrap (1 + 1) = 2 := by decide
      conv => lhs; rw [e1]
      rw [valiselaw3_BitsJoins.l11, if_pos (by omega), k1]
      simp only [Option.bind_some, onR, bnd_eq, w1]
      rw [valiselaw3_BitsJoins.l11, if_pos (by omega), k2]
      simp only [Option.bind_some, onR, bnd_eq, w2]
      rw [valiselaw3_BitsJoins.l11, if_neg (by omega)]
    have pl : ∀ s : List Bool, s.length ≤ 134217728 → (pack s).length ≤ 35184372088832 := fun s hs => by rw [pack_length]; omega
    have sm : ∀ l : List Int, l.length ≤ 35184372088832 → valiselaw3_same.f l l = some true := fun l hl => by rw [valiselaw3_same_spec l l (by omega)]; simp
    have q1 : (O ++ T).length ≤ 134217728 := by rw [List.length_append]; omega
    have q2 : (T ++ T).length ≤ 134217728 := by rw [List.length_append]; omega
    simp only [bits_NewWriter.f, Option.bind_some, k11, onR, k3, k4, bits_Writer_Bytes_spec _ _ (pl T (by omega)), bits_Writer_Bytes_spec _ _ (pl _ q1), bits_Writer_Bytes_spec _ _ (pl _ q2), bits_Writer_Join_spec O T (by omega), bits_Writer_Join_s1_spec T (by omega), bits_Writer_Len.f, sm _ (pl T (by omega)), sm _ (pl _ q1), sm _ (pl _ q2)]
    have z1 : ((O ++ T).length : Int) = IntKind.i64.wrap ((O.length : Int) + (T.length : Int)) := by rw [wr_i64 (by omega), List.length_append]; omega
    have z2 : ((T ++ T).length : Int) = IntKind.i64.wrap (2 * (T.length : Int)) := by rw [wr_i64 (by omega), List.length_append]; omega
    rw [← z1, ← z2]
    simp
end Go.V.Pu
