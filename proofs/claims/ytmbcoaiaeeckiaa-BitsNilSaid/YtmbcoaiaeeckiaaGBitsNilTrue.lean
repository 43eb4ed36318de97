/- The plain law: nil writers and readers. -/
import Derived.Test.YtmbcoaiaeeckiaaGBitsNilPure
import Derived.Test.YtmbcoaiaeeckiaaQ2
set_option linter.unusedVariables false
set_option linter.unusedSimpArgs false
namespace Go.V.Pu
open Go Go.V

theorem set_last (l : List Int) (x y : Int) : (l ++ [x]).set l.length y = l ++ [y] := by
  rw [List.set_append_right _ _ (Nat.le_refl _), Nat.sub_self]; rfl
theorem rd_last (l : List Int) (x : Int) : rd (l ++ [x]) (l.length : Int) = x := by
  show (l ++ [x]).getD ((l.length : Int).toNat) 0 = x
  rw [Int.toNat_natCast, List.getD_eq_getElem?_getD, List.getElem?_append_right (Nat.le_refl _), Nat.sub_self]; rfl
/-- One step: k bits of v into the last byte, which holds p. -/
theorem lay_byte (v k i : Nat) (p : List Bool) (hv : v < 2 ^ 64) (hk : k + i ≤ 8) (hp : p.length = i) :
    bor .u8 (val p : Int) (IntKind.u8.wrap (shl .u64 (band .u64 (v : Int) (IntKind.u64.wrap (shl .u64 1 (IntKind.u64.wrap (k : Int)) - 1))) (IntKind.u64.wrap (i : Int)))) = (val (p ++ tobits k v) : Int) := by
  have hk8 : (2 : Nat) ^ k ≤ 2 ^ 8 := Nat.pow_le_pow_right (by omega) (by omega)
  have hk1 : 0 < (2 : Nat) ^ k := Nat.pow_pos (by omega)
  have hi1 : 0 < (2 : Nat) ^ i := Nat.pow_pos (by omega)
  have hki : (2 : Nat) ^ k * 2 ^ i ≤ 2 ^ 8 := by rw [← Nat.pow_add]; exact Nat.pow_le_pow_right (by omega) hk
  have e1 : IntKind.u64.wrap (k : Int) = k := wr_u64 (by omega)
  have e2 : IntKind.u64.wrap (i : Int) = i := wr_u64 (by omega)
  have e3 : shl .u64 1 (k : Int) = ((2 ^ k : Nat) : Int) := by
    have := shl_nat' (k := .u64) rfl (a := 1) (n := k) (by simp only [IntKind.bits]; omega)
    simpa using this
  have e4 : IntKind.u64.wrap (((2 ^ k : Nat) : Int) - 1) = ((2 ^ k - 1 : Nat) : Int) := by rw [wr_u64 (by omega)]; omega
  have e5 : band .u64 (v : Int) ((2 ^ k - 1 : Nat) : Int) = ((v % 2 ^ k : Nat) : Int) := by
    have := band_nat (k := .u64) rfl (a := v) (b := 2 ^ k - 1) hv (by simp only [IntKind.bits]; omega)
    rw [Nat.and_two_pow_sub_one_eq_mod] at this
    exact this
  have hm : v % 2 ^ k < 2 ^ k := Nat.mod_lt _ hk1
  have hmi : v % 2 ^ k * 2 ^ i + 2 ^ i ≤ 2 ^ 8 := by
    have : (v % 2 ^ k + 1) * 2 ^ i ≤ 2 ^ k * 2 ^ i := Nat.mul_le_mul_right _ hm
    rw [Nat.add_mul] at this; omega
  have e6 : shl .u64 ((v % 2 ^ k : Nat) : Int) (i : Int) = ((v % 2 ^ k * 2 ^ i : Nat) : Int) := shl_nat' rfl (by simp only [IntKind.bits]; omega)
  have hpv : val p < 2 ^ i := by have := val_lt p; rwa [hp] at this
  rw [e1, e2, e3, e4, e5, e6, wr_u8 (by omega), bor_nat (k := .u8) rfl (by simp only [IntKind.bits]; omega) (by simp only [IntKind.bits]; omega), val_append, val_tobits, hp, Nat.or_comm]
  have := Nat.shiftLeft_add_eq_or_of_lt (i := i) (b := val p) hpv (v % 2 ^ k)
  rw [Nat.shiftLeft_eq] at this
  rw [← this, Nat.add_comm, Nat.mul_comm]

theorem pack_step (s : List Bool) (t : List Bool) (h0 : t ≠ []) (hl : s.length % 8 + t.length ≤ 8) :
    (s.length % 8 = 0 → pack (s ++ t) = pack s ++ [(val t : Int)]) ∧
    (s.length % 8 ≠ 0 → ∃ l p, pack s = l ++ [(val p : Int)] ∧ p.length = s.length % 8 ∧ pack (s ++ t) = l ++ [(val (p ++ t) : Int)]) := by
  constructor
  · intro h
    rw [pack_append (q := s.length / 8) (by omega), pack_short h0 (by omega)]
  · intro h
    have hs : s = s.take (8 * (s.length / 8)) ++ s.drop (8 * (s.length / 8)) := (List.take_append_drop _ _).symm
    have hp : (s.drop (8 * (s.length / 8))).length = s.length % 8 := by rw [List.length_drop]; omega
    have hq : (s.take (8 * (s.length / 8))).length = 8 * (s.length / 8) := by rw [List.length_take]; omega
    have hpn : s.drop (8 * (s.length / 8)) ≠ [] := by intro e; rw [e] at hp; simp at hp; omega
    refine ⟨pack (s.take (8 * (s.length / 8))), s.drop (8 * (s.length / 8)), ?_, hp, ?_⟩
    · conv => lhs; rw [hs]
      rw [pack_append hq, pack_short hpn (by omega)]
    · conv => lhs; rw [hs, List.append_assoc]
      rw [pack_append hq, pack_short (t := s.drop (8 * (s.length / 8)) ++ t) (fun e => hpn (List.append_eq_nil_iff.1 e).1) (by rw [List.length_append]; omega)]

theorem lay_loop (m : Nat) : ∀ (k n v : Nat) (s : List Bool), n ≤ m → m < k → v < 2 ^ 64 → s.length + n ≤ 1099511627776 →
    bits_Writer_lay.l1 k (pack s) (s.length : Int) (v : Int) (n : Int) = some (pack (s ++ tobits n v), ((s.length + n : Nat) : Int)) := by
  induction m with
  | zero =>
    intro k n v s hn hk hv hs
    obtain ⟨k, rfl⟩ : ∃ j, k = j + 1 := ⟨k - 1, by omega⟩
    obtain rfl : n = 0 := by omega
    rw [bits_Writer_lay.l1, if_neg (by omega)]
    simp [tobits]
  | succ m ih =>
    intro k n v s hn hk hv hs
    obtain ⟨k, rfl⟩ : ∃ j, k = j + 1 := ⟨k - 1, by omega⟩
    by_cases hn0 : n = 0
    · subst hn0
      rw [bits_Writer_lay.l1, if_neg (by omega)]
      simp [tobits]
    · have hpl : (pack s).length = (s.length + 7) / 8 := pack_length s
      have e0 : Int.tmod (s.length : Int) 8 = ((s.length % 8 : Nat) : Int) := by rw [Int.tmod_eq_emod_of_nonneg (by omega)]; omega
      generalize hi : s.length % 8 = i at e0
      have e1 : min (IntKind.i64.wrap (8 - (i : Int))) (n : Int) = ((min (8 - i) n : Nat) : Int) := by rw [wr_i64 (by omega)]; omega
      generalize hj : min (8 - i) n = j at e1
      have hj1 : 1 ≤ j ∧ j + i ≤ 8 ∧ j ≤ n := by omega
      have e2 : shr .u64 (v : Int) (IntKind.u64.wrap (j : Int)) = ((v / 2 ^ j : Nat) : Int) := by rw [wr_u64 (by omega)]; exact shr_nat (k := .u64) hv
      have e3 : IntKind.i64.wrap ((n : Int) - (j : Int)) = ((n - j : Nat) : Int) := by rw [wr_i64 (by omega)]; omega
      have hv2 : v / 2 ^ j < 2 ^ 64 := Nat.lt_of_le_of_lt (Nat.div_le_self _ _) hv
      have htn : tobits j v ≠ [] := by intro e; have := congrArg List.length e; rw [tobits_length] at this; simp at this; omega
      have hsplit : tobits n v = tobits j v ++ tobits (n - j) (v / 2 ^ j) := by rw [← tobits_add]; congr 1; omega
      have goal : ∀ l, l = pack (s ++ tobits j v) → bits_Writer_lay.l1 k l (IntKind.i64.wrap ((s.length : Int) + (j : Int))) ((v / 2 ^ j : Nat) : Int) ((n - j : Nat) : Int) = some (pack (s ++ tobits n v), ((s.length + n : Nat) : Int)) := by
        rintro l rfl
        have hsl : (s ++ tobits j v).length = s.length + j := by rw [List.length_append, tobits_length]
        have e4 : IntKind.i64.wrap ((s.length : Int) + (j : Int)) = ((s ++ tobits j v).length : Int) := by rw [wr_i64 (by omega), hsl]; omega
        rw [e4, ih k (n - j) (v / 2 ^ j) (s ++ tobits j v) (by omega) (by omega) hv2 (by rw [hsl]; omega), hsl, hsplit, List.append_assoc]
        congr 3; omega
      have hw : ∀ q : Nat, q < 1099511627776 → IntKind.u64.wrap ((q : Nat) : Int) = q := fun q hq => wr_u64 (by omega)
      rw [bits_Writer_lay.l1, if_pos (by omega), bnd_eq, e0]
      obtain ⟨p1, p2⟩ := pack_step s (tobits j v) htn (by rw [tobits_length]; omega)
      by_cases hi0 : i = 0
      · subst hi0
        have hlen : (pack s ++ [(0 : Int)]).length = (pack s).length + 1 := by simp
        rw [if_pos (show ((0 : Nat) : Int) = 0 from rfl), bnd_eq, gd_pos (by rw [hlen]; omega), Option.bind_some, bnd_eq, e1, gd_pos (by rw [hw j (by omega)]; omega), bnd_eq]
        have e5 : IntKind.i64.wrap (((pack s ++ [(0 : Int)]).length : Int) - 1) = ((pack s).length : Int) := by rw [wr_i64 (by rw [hlen]; omega), hlen]; omega
        rw [e5, gd_pos (by rw [hlen]; omega), gd_pos (by rw [hw 0 (by omega)]; omega), bnd_eq, bnd_eq, e2, bnd_eq, e3]
        apply goal
        rw [Int.toNat_natCast, set_last, rd_last]
        have := lay_byte v j 0 [] hv (by omega) rfl
        rw [show (val [] : Int) = 0 from rfl] at this
        rw [this, p1 hi]
        rfl
      · rw [if_neg (by omega), Option.bind_some, bnd_eq, e1, gd_pos (by rw [hw j (by omega)]; omega), bnd_eq]
        obtain ⟨l, p, hpk, hpl2, hpk2⟩ := p2 (by omega)
        have hlen : (l ++ [(val p : Int)]).length = l.length + 1 := by simp
        have e5 : IntKind.i64.wrap (((l ++ [(val p : Int)]).length : Int) - 1) = (l.length : Int) := by
          have : l.length + 1 = (s.length + 7) / 8 := by rw [← hlen, ← hpk, hpl]
          rw [wr_i64 (by rw [hlen]; omega), hlen]; omega
        rw [hpk, e5, gd_pos (by rw [hlen]; omega), gd_pos (by rw [hw i (by omega)]; omega), bnd_eq, bnd_eq, e2, bnd_eq, e3]
        apply goal
        rw [Int.toNat_natCast, set_last, rd_last, lay_byte v j i p hv (by omega) (by rw [hpl2, hi]), hpk2]

theorem bits_Writer_lay_spec (s : List Bool) (v n : Nat) (hv : v < 2 ^ 64) (hs : s.length + n ≤ 1099511627776) :
    bits_Writer_lay.f (pack s) (s.length : Int) (v : Int) (n : Int) = some (pack (s ++ tobits n v), ((s.length + n : Nat) : Int)) := by
  rw [bits_Writer_lay.f, lay_loop n FU n v s (Nat.le_refl _) (by rw [FU_eq]; omega) hv hs]
  rfl

theorem pack_ne {s : List Bool} (h : s ≠ []) : (pack s).length ≠ 0 := by
  rw [pack_length]
  have := List.length_pos_iff.2 h
  omega
theorem cpy_same {l m : List Int} (h : l.length = m.length) : cpy l m = m := by
  unfold cpy
  rw [h, List.take_length, List.drop_eq_nil_of_le (by omega), List.append_nil]

theorem bits_Writer_Put_spec (s : List Bool) (v : Nat) (n : Int) (hv : v < 2 ^ 32) (hn : -9223372036854775808 ≤ n ∧ n ≤ 9223372036854775807) (hs : s.length ≤ 268435456) :
    bits_Writer_Put.f (pack s) (s.length : Int) (v : Int) n = if 0 ≤ n ∧ n ≤ 32 ∧ v < 2 ^ n.toNat ∧ s.length + n.toNat ≤ 268435456 then some (0, pack (s ++ tobits n.toNat v), ((s ++ tobits n.toNat v).length : Int)) else some (1, pack s, (s.length : Int)) := by
  unfold bits_Writer_Put.f
  by_cases hb : n < 0 ∨ 32 < n
  · rw [if_pos hb, if_neg (by omega)]
    simp
  · obtain ⟨n, rfl⟩ : ∃ m : Nat, n = m := ⟨n.toNat, by omega⟩
    have e0 : IntKind.u64.wrap (n : Int) = n := wr_u64 (by omega)
    have ev : IntKind.u64.wrap (v : Int) = v := wr_u64 (by omega)
    have e2 : shr .u64 (v : Int) (n : Int) = ((v / 2 ^ n : Nat) : Int) := shr_nat (k := .u64) (by simp only [IntKind.bits]; omega)
    have e3 : IntKind.i64.wrap ((s.length : Int) + (n : Int)) = ((s.length + n : Nat) : Int) := by rw [wr_i64 (by omega)]; rfl
    rw [if_neg hb, e0, ev, gd_pos (by omega), e2, e3, Option.bind_some]
    have hd : (v / 2 ^ n = 0) ↔ v < 2 ^ n := Nat.div_eq_zero_iff_lt (Nat.pow_pos (by omega))
    simp only [Int.toNat_natCast]
    by_cases hl : v < 2 ^ n ∧ s.length + n ≤ 268435456
    · have hq : ((v / 2 ^ n : Nat) : Int) = 0 := by rw [hd.2 hl.1]; rfl
      rw [if_neg (by simp only [hq]; simp; omega), if_pos (by omega), bits_Writer_lay_spec s v n (by omega) (by omega), List.length_append, tobits_length]
      rfl
    · have hc : (decide (((v / 2 ^ n : Nat) : Int) ≠ 0) = true) ∨ (268435456 < ((s.length + n : Nat) : Int)) := by
        by_cases h1 : v < 2 ^ n
        · right; omega
        · left
          have : v / 2 ^ n ≠ 0 := fun e => h1 (hd.1 e)
          exact decide_eq_true (by omega)
      rw [if_pos hc, if_neg (by omega)]

theorem put_ok (s : List Bool) (v n : Nat) (hv : v < 2 ^ 32) (hn : n ≤ 32) (hvn : v < 2 ^ n) (hs : s.length + n ≤ 268435456) :
    bits_Writer_Put.f (pack s) (s.length : Int) (v : Int) (n : Int) = some (0, pack (s ++ tobits n v), ((s ++ tobits n v).length : Int)) := by
  rw [bits_Writer_Put_spec s v n hv (by omega) (by omega), if_pos ⟨by omega, by omega, by rw [Int.toNat_natCast]; exact hvn, by rw [Int.toNat_natCast]; exact hs⟩, Int.toNat_natCast]


theorem flat_one {β : Type} (l : List β) : (l.mapIdx fun _ x => [x]).flatten = l := by
  induction l with
  | nil => rfl
  | cons x l ih => rw [List.mapIdx_cons, List.flatten_cons]; exact congrArg (x :: ·) ih
theorem valiselaw3_copied_spec (a : List Int) (h : (a.length : Int) * 1 ≤ 140737488355328) : valiselaw3_copied.f a = some a := by
  unfold valiselaw3_copied.f
  have key := list_loop0 a (by omega) (fun k i s => valiselaw3_copied.l1 k s i a) (fun i x s => .inr (s ++ [x])) (fun s => s) (fun i s => s.length = i)
    (fun k s _ => by rw [valiselaw3_copied.l1, if_neg (by omega)])
    (fun k i x s hx hi hs => by
      have e1 : rd a (i : Int) = x := rd_at hx
      have e2 : (s ++ [x]).length = i + 1 := by simp [hs]
      rw [valiselaw3_copied.l1, if_pos (by omega), gd_pos (by omega), e1, bnd_eq, gd_pos (by rw [e2]; omega), bnd_eq, inc_i (by omega)])
    (fun i x s s' hx hi hs hg => by cases hg; simp [hs]) [] rfl
  have key' : valiselaw3_copied.l1 FU [] 0 a = _ := key
  rw [key', foldE_app (f := fun _ x => [x])]
  simp [flat_one]

theorem valiselaw3_BitsNil_true (v n : Int) (d : List Int) (hv : (Lit.int .u32 v).wf = true) (hn : (Lit.int .i64 n).wf = true) (hd : ∀ x ∈ d, (Lit.int .u8 x).wf = true) (wd : d.length * 1 ≤ 140737488351232) : valiselaw3_BitsNil.f v n d = some true := by
  have p0 := put_ok [] 1 1 (by omega) (by omega) (by omega) (by simp)
  have p0' : bits_Writer_Put.f [] 0 1 1 = some (0, pack (tobits 1 1), 1) := p0
  have e : bits_NewReader.f [] = some (some ([], 0)) := by
    rw [bits_NewReader.f]
    simp [gd, bnd, cpy]
  unfold valiselaw3_BitsNil.f
  simp [bits_NewWriter.f, e, onO, p0', valiselaw3_copied_spec d (by omega), bits_Writer_Join_n1.f, bits_Writer_Len.f, bits_Writer_Align_n0.f, bits_Reader_Align_n0.f, bits_Writer_Put_n0.f, bits_Writer_Raw_n0.f, bits_Writer_Join_n0.f, bits_Writer_Len_n0.f, bits_Writer_Bytes_n0.f, bits_Reader_Take_n0.f, bits_Reader_Peek_n0.f, bits_Reader_Raw_n0.f, bits_Reader_Skip_n0.f, bits_Reader_At_n0.f, bits_Reader_Left_n0.f]
end Go.V.Pu
