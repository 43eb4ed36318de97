/- The plain law: Peek tells what Take takes, Skip moves alike. -/
import Derived.Test.YtmbcoaiaeeckiaaGBitsPeeksPure
import Derived.Test.YtmbcoaiaeeckiaaQ2
set_option linter.unusedVariables false
set_option linter.unusedSimpArgs false
namespace Go.V.Pu
open Go Go.V

theorem pack_ne {s : List Bool} (h : s ≠ []) : (pack s).length ≠ 0 := by
  rw [pack_length]
  have := List.length_pos_iff.2 h
  omega
theorem cpy_same {l m : List Int} (h : l.length = m.length) : cpy l m = m := by
  unfold cpy
  rw [h, List.take_length, List.drop_eq_nil_of_le (by omega), List.append_nil]

theorem bits_NewReader_spec (d : List Int) (h : d.length ≤ 33554432) : bits_NewReader.f d = some (some (d, 0)) := by
  unfold bits_NewReader.f
  rw [if_neg (by omega), gd_pos (by omega), bnd_eq, bnd_eq, cpy_same (by simp)]
/-- The bits of a byte, cut out. -/
theorem cut_byte (x at_ k i : Nat) (hx : x < 256) (hk : i + k ≤ 8) :
    band .u64 (IntKind.u64.wrap (shr .u8 (x : Int) (IntKind.u64.wrap (i : Int)))) (IntKind.u64.wrap (shl .u64 1 (IntKind.u64.wrap (k : Int)) - 1)) = ((x / 2 ^ i % 2 ^ k : Nat) : Int) := by
  have hk8 : (2 : Nat) ^ k ≤ 2 ^ 8 := Nat.pow_le_pow_right (by omega) (by omega)
  have hk1 : 0 < (2 : Nat) ^ k := Nat.pow_pos (by omega)
  have e1 : IntKind.u64.wrap (k : Int) = k := wr_u64 (by omega)
  have e2 : IntKind.u64.wrap (i : Int) = i := wr_u64 (by omega)
  have e3 : shl .u64 1 (k : Int) = ((2 ^ k : Nat) : Int) := by
    have := shl_nat' (k := .u64) rfl (a := 1) (n := k) (by simp only [IntKind.bits]; omega)
    simpa using this
  have e4 : IntKind.u64.wrap (((2 ^ k : Nat) : Int) - 1) = ((2 ^ k - 1 : Nat) : Int) := by rw [wr_u64 (by omega)]; omega
  have e5 : shr .u8 (x : Int) (i : Int) = ((x / 2 ^ i : Nat) : Int) := shr_nat (k := .u8) (by simp only [IntKind.bits]; omega)
  have hd : x / 2 ^ i < 256 := Nat.lt_of_le_of_lt (Nat.div_le_self _ _) hx
  have e6 : band .u64 ((x / 2 ^ i : Nat) : Int) ((2 ^ k - 1 : Nat) : Int) = ((x / 2 ^ i % 2 ^ k : Nat) : Int) := by
    have := band_nat (k := .u64) rfl (a := x / 2 ^ i) (b := 2 ^ k - 1) (by simp only [IntKind.bits]; omega) (by simp only [IntKind.bits]; omega)
    rw [Nat.and_two_pow_sub_one_eq_mod] at this
    exact this
  have e7 : IntKind.u64.wrap ((x / 2 ^ i : Nat) : Int) = ((x / 2 ^ i : Nat) : Int) := by
    generalize x / 2 ^ i = y at hd
    exact wr_u64 (by omega)
  rw [e1, e2, e3, e4, e5, e7, e6]
/-- .. as bits of the string. -/
theorem cut_bits (d : List Int) (hd : ∀ x ∈ d, 0 ≤ x ∧ x < 256) (a k : Nat) (ha : a < 8 * d.length) (hk : a % 8 + k ≤ 8) :
    val (((unpack d).drop a).take k) = (rd d ((a / 8 : Nat) : Int)).toNat / 2 ^ (a % 8) % 2 ^ k := by
  have hq : a / 8 < d.length := by omega
  have hx : d[a / 8]? = some d[a / 8] := List.getElem?_eq_getElem hq
  have e : d = d.take (a / 8) ++ d[a / 8] :: d.drop (a / 8 + 1) := by rw [← drop_cons hx, List.take_append_drop]
  have e2 : unpack d = unpack (d.take (a / 8)) ++ (tobits 8 (d[a / 8]).toNat ++ unpack (d.drop (a / 8 + 1))) := by
    conv => lhs; rw [e]
    rw [unpack_append]
    congr 1
  have e3 : (unpack (d.take (a / 8))).length = 8 * (a / 8) := by rw [unpack_length, List.length_take]; omega
  have e4 : a = 8 * (a / 8) + a % 8 := by omega
  have e5 : (unpack d).drop a = (tobits 8 (d[a / 8]).toNat).drop (a % 8) ++ unpack (d.drop (a / 8 + 1)) := by
    have e6 : (unpack d).drop a = ((unpack d).drop (8 * (a / 8))).drop (a % 8) := by rw [List.drop_drop]; congr 1
    rw [e6, e2, List.drop_left' e3, List.drop_append_of_le_length (by rw [tobits_length]; omega)]
  rw [e5, List.take_append_of_le_length (by rw [List.length_drop, tobits_length]; omega), val_take, val_drop, val_tobits, rd_at hx]
  have hb := hd _ (List.getElem_mem hq)
  rw [Nat.mod_eq_of_lt (a := (d[a / 8]).toNat) (by omega)]

theorem ahead_loop (d : List Int) (hd : ∀ x ∈ d, 0 ≤ x ∧ x < 256) (hl : d.length ≤ 33554432) (n : Nat) (hn : n ≤ 32) (at0 : Nat) (m : Nat) : ∀ (k got v : Nat), n - got ≤ m → m < k → got ≤ n →
    v = val (((unpack d).drop at0).take got) → at0 + got ≤ 8 * d.length →
    bits_Reader_ahead.l1 k (v : Int) (got : Int) ((at0 + got : Nat) : Int) d (n : Int) = some ((val (((unpack d).drop at0).take n) : Nat) : Int) := by
  induction m with
  | zero =>
    intro k got v hm hk hg hv ha
    obtain ⟨k, rfl⟩ : ∃ j, k = j + 1 := ⟨k - 1, by omega⟩
    obtain rfl : got = n := by omega
    rw [bits_Reader_ahead.l1, if_neg (by omega), hv]
  | succ m ih =>
    intro k got v hm hk hg hv ha
    obtain ⟨k, rfl⟩ : ∃ j, k = j + 1 := ⟨k - 1, by omega⟩
    have e8 : IntKind.i64.wrap (8 * (d.length : Int)) = ((8 * d.length : Nat) : Int) := by rw [wr_i64 (by omega)]; omega
    by_cases hc : got < n ∧ at0 + got < 8 * d.length
    · generalize hA : at0 + got = a at *
      have e0 : Int.tmod (a : Int) 8 = ((a % 8 : Nat) : Int) := by rw [Int.tmod_eq_emod_of_nonneg (by omega)]; omega
      have e9 : IntKind.i64.wrap (Int.tdiv (a : Int) 8) = ((a / 8 : Nat) : Int) := by
        rw [Int.tdiv_eq_ediv_of_nonneg (by omega), wr_i64 (by omega)]; omega
      have e1 : min (IntKind.i64.wrap (8 - ((a % 8 : Nat) : Int))) (IntKind.i64.wrap ((n : Int) - (got : Int))) = ((min (8 - a % 8) (n - got) : Nat) : Int) := by
        rw [wr_i64 (by omega), wr_i64 (by omega)]; omega
      generalize hj : min (8 - a % 8) (n - got) = j at e1
      have hj1 : 1 ≤ j ∧ a % 8 + j ≤ 8 ∧ got + j ≤ n := by omega
      have hw : ∀ q : Nat, q < 1099511627776 → IntKind.u64.wrap ((q : Nat) : Int) = q := fun q hq => wr_u64 (by omega)
      have hq : a / 8 < d.length := by omega
      have hx : d[a / 8]? = some d[a / 8] := List.getElem?_eq_getElem hq
      have hb := hd _ (List.getElem_mem hq)
      obtain ⟨x, hxx⟩ : ∃ x : Nat, d[a / 8] = x := ⟨(d[a / 8]).toNat, by omega⟩
      have e2 : rd d ((a / 8 : Nat) : Int) = (x : Int) := by rw [rd_at hx, hxx]
      have e3 := cut_byte x 0 j (a % 8) (by omega) hj1.2.1
      have e4 := cut_bits d hd a j (by omega) hj1.2.1
      rw [e2, Int.toNat_natCast] at e4
      have hlen : (((unpack d).drop at0).take got).length = got := by rw [List.length_take, List.length_drop, unpack_length]; omega
      have hvlt : v < 2 ^ got := by have := val_lt (((unpack d).drop at0).take got); rw [hlen, ← hv] at this; exact this
      have hp32 : (2 : Nat) ^ got ≤ 2 ^ 32 := Nat.pow_le_pow_right (by omega) (by omega)
      have hcl : x / 2 ^ (a % 8) % 2 ^ j < 2 ^ j := Nat.mod_lt _ (Nat.pow_pos (by omega))
      have hgj : (2 : Nat) ^ j * 2 ^ got ≤ 2 ^ 40 := by rw [← Nat.pow_add]; exact Nat.pow_le_pow_right (by omega) (by omega)
      generalize hc0 : x / 2 ^ (a % 8) % 2 ^ j = c at *
      have hcg : c * 2 ^ got + 2 ^ got ≤ 2 ^ 40 := by
        have : (c + 1) * 2 ^ got ≤ 2 ^ j * 2 ^ got := Nat.mul_le_mul_right _ hcl
        rw [Nat.add_mul] at this; omega
      have e5 : shl .u64 (c : Int) (got : Int) = ((c * 2 ^ got : Nat) : Int) := shl_nat' rfl (by simp only [IntKind.bits]; omega)
      have e6 : bor .u64 (v : Int) ((c * 2 ^ got : Nat) : Int) = ((v + 2 ^ got * c : Nat) : Int) := by
        rw [bor_nat (k := .u64) rfl (by simp only [IntKind.bits]; omega) (by simp only [IntKind.bits]; omega), Nat.or_comm]
        have := Nat.shiftLeft_add_eq_or_of_lt (i := got) (b := v) hvlt c
        rw [Nat.shiftLeft_eq] at this
        rw [← this, Nat.add_comm, Nat.mul_comm]
      rw [bits_Reader_ahead.l1, if_pos ⟨by omega, by rw [e8]; omega⟩, bnd_eq, e0, bnd_eq, e1, e9, gd_pos (by omega), gd_pos (by rw [hw _ (by omega)]; omega), gd_pos (by rw [hw _ (by omega)]; omega), bnd_eq, e2, e3, gd_pos (by rw [hw _ (by omega)]; omega), bnd_eq, hw got (by omega), e5, e6, bnd_eq, bnd_eq]
      have e10 : IntKind.i64.wrap ((got : Int) + (j : Int)) = ((got + j : Nat) : Int) := by rw [wr_i64 (by omega)]; omega
      have e11 : IntKind.i64.wrap ((a : Int) + (j : Int)) = ((at0 + (got + j) : Nat) : Int) := by rw [wr_i64 (by omega)]; omega
      rw [e10, e11]
      refine ih k (got + j) (v + 2 ^ got * c) (by omega) (by omega) (by omega) ?_ (by omega)
      have e12 : ((unpack d).drop at0).take (got + j) = ((unpack d).drop at0).take got ++ (((unpack d).drop at0).drop got).take j := by rw [List.take_add]
      rw [e12, val_append, hlen, ← hv, List.drop_drop, hA, e4]
    · rw [bits_Reader_ahead.l1, if_neg (by rw [e8]; omega)]
      congr 2
      by_cases hg2 : got = n
      · rw [hv, hg2]
      · have hL : ((unpack d).drop at0).length ≤ got := by rw [List.length_drop, unpack_length]; omega
        rw [hv, List.take_of_length_le hL, List.take_of_length_le (by omega)]

theorem bits_Reader_ahead_spec (d : List Int) (hd : ∀ x ∈ d, 0 ≤ x ∧ x < 256) (hl : d.length ≤ 33554432) (n : Nat) (hn : n ≤ 32) (a : Nat) (ha : a ≤ 8 * d.length) :
    bits_Reader_ahead.f d (a : Int) (n : Int) = some ((val (((unpack d).drop a).take n) : Nat) : Int) := by
  have := ahead_loop d hd hl n hn a n FU 0 0 (by omega) (by rw [FU_eq]; omega) (by omega) rfl (by omega)
  have h2 : bits_Reader_ahead.l1 FU 0 0 (a : Int) d (n : Int) = _ := this
  rw [bits_Reader_ahead.f, h2, Option.bind_some]
  have h3 := val_lt (((unpack d).drop a).take n)
  have h4 : 2 ^ (((unpack d).drop a).take n).length ≤ 2 ^ 32 := Nat.pow_le_pow_right (by omega) (by simp; omega)
  rw [wr_u32 (by omega)]
theorem bits_Reader_Left_spec (d : List Int) (hl : d.length ≤ 33554432) (a : Nat) (ha : a ≤ 8 * d.length) : bits_Reader_Left.f d (a : Int) = some ((8 * d.length - a : Nat) : Int) := by
  rw [bits_Reader_Left.f, wr_i64 (x := 8 * (d.length : Int)) (by omega), wr_i64 (by omega)]
  congr 1; omega

theorem bits_Reader_Take_ok (d : List Int) (hd : ∀ x ∈ d, 0 ≤ x ∧ x < 256) (hl : d.length ≤ 33554432) (n : Nat) (hn : n ≤ 32) (a : Nat) (ha : a + n ≤ 8 * d.length) :
    bits_Reader_Take.f d (a : Int) (n : Int) = some (((val (((unpack d).drop a).take n) : Nat) : Int), 0, d, ((a + n : Nat) : Int)) := by
  rw [bits_Reader_Take.f, if_neg (by omega), bits_Reader_Left_spec d hl a (by omega), Option.bind_some, if_neg (by omega), bits_Reader_ahead_spec d hd hl n hn a (by omega), Option.bind_some, wr_i64 (by omega)]
  rfl
theorem bits_Reader_Take_end (d : List Int) (hl : d.length ≤ 33554432) (n : Nat) (hn : n ≤ 32) (a : Nat) (ha : a ≤ 8 * d.length) (h : 8 * d.length < a + n) :
    bits_Reader_Take.f d (a : Int) (n : Int) = some (0, 30, d, (a : Int)) := by
  rw [bits_Reader_Take.f, if_neg (by omega), bits_Reader_Left_spec d hl a (by omega), Option.bind_some, if_pos (by omega)]

theorem bits_Reader_Skip_ok (d : List Int) (hl : d.length ≤ 33554432) (n : Nat) (a : Nat) (ha : a + n ≤ 8 * d.length) :
    bits_Reader_Skip.f d (a : Int) (n : Int) = some (0, d, ((a + n : Nat) : Int)) := by
  rw [bits_Reader_Skip.f, if_neg (by omega), bits_Reader_Left_spec d hl a (by omega), Option.bind_some, if_neg (by omega), wr_i64 (by omega)]
  rfl
theorem bits_Reader_Skip_end (d : List Int) (hl : d.length ≤ 33554432) (n : Nat) (a : Nat) (ha : a ≤ 8 * d.length) (h : 8 * d.length < a + n) :
    bits_Reader_Skip.f d (a : Int) (n : Int) = some (30, d, (a : Int)) := by
  rw [bits_Reader_Skip.f, if_neg (by omega), bits_Reader_Left_spec d hl a (by omega), Option.bind_some, if_pos (by omega)]

theorem bits_Reader_Peek_spec (d : List Int) (hd : ∀ x ∈ d, 0 ≤ x ∧ x < 256) (hl : d.length ≤ 33554432) (n : Nat) (hn : n ≤ 32) (a : Nat) (ha : a ≤ 8 * d.length) :
    bits_Reader_Peek.f d (a : Int) (n : Int) = some (((val (((unpack d).drop a).take n) : Nat) : Int), ((min n (8 * d.length - a) : Nat) : Int)) := by
  rw [bits_Reader_Peek.f, if_neg (by omega), bits_Reader_ahead_spec d hd hl n hn a (by omega), Option.bind_some, bits_Reader_Left_spec d hl a (by omega), Option.bind_some]
  congr 2; omega

theorem which_spec (k : Int) (n : Nat) (hn : 0 < n) (hn2 : n ≤ 1000) (hk : -9223372036854775808 ≤ k ∧ k ≤ 9223372036854775807) : ∃ m : Nat, m < n ∧ valiselaw3_which.f k (n : Int) = some (m : Int) := by
  have h1 := Int.tmod_lt_of_pos k (b := (n : Int)) (by omega)
  have h2 : -(n : Int) < Int.tmod k (n : Int) := by
    rcases Int.lt_or_le k 0 with h | h
    · have h3 := Int.tmod_lt_of_pos (-k) (b := (n : Int)) (by omega)
      rw [Int.neg_tmod] at h3; omega
    · have := Int.tmod_nonneg (n : Int) h; omega
  rw [valiselaw3_which.f, gd_pos (by omega), bnd_eq]
  generalize Int.tmod k (n : Int) = x at *
  by_cases hx : x < 0
  · rw [if_pos hx, bnd_eq, wr_i64 (by omega)]
    exact ⟨(x + n).toNat, by omega, by rw [Option.bind_some]; congr 1; omega⟩
  · rw [if_neg hx]
    exact ⟨x.toNat, by omega, by rw [Option.bind_some]; congr 1; omega⟩
theorem low_spec (v n : Nat) (hv : v < 2 ^ 32) (hn : n ≤ 32) : valiselaw3_low.f (v : Int) (n : Int) = some ((v % 2 ^ n : Nat) : Int) := by
  have hk8 : (2 : Nat) ^ n ≤ 2 ^ 32 := Nat.pow_le_pow_right (by omega) (by omega)
  have hk1 : 0 < (2 : Nat) ^ n := Nat.pow_pos (by omega)
  have e1 : IntKind.u64.wrap (n : Int) = n := wr_u64 (by omega)
  have e2 : IntKind.u64.wrap (v : Int) = v := wr_u64 (by omega)
  have e3 : shl .u64 1 (n : Int) = ((2 ^ n : Nat) : Int) := by
    have := shl_nat' (k := .u64) rfl (a := 1) (n := n) (by simp only [IntKind.bits]; omega)
    simpa using this
  have e4 : IntKind.u64.wrap (((2 ^ n : Nat) : Int) - 1) = ((2 ^ n - 1 : Nat) : Int) := by rw [wr_u64 (by omega)]; omega
  have e5 : band .u64 (v : Int) ((2 ^ n - 1 : Nat) : Int) = ((v % 2 ^ n : Nat) : Int) := by
    have := band_nat (k := .u64) rfl (a := v) (b := 2 ^ n - 1) (by simp only [IntKind.bits]; omega) (by simp only [IntKind.bits]; omega)
    rw [Nat.and_two_pow_sub_one_eq_mod] at this
    exact this
  have hm : v % 2 ^ n < 2 ^ 32 := Nat.lt_of_le_of_lt (Nat.mod_le _ _) hv
  have e6 : IntKind.u32.wrap ((v % 2 ^ n : Nat) : Int) = ((v % 2 ^ n : Nat) : Int) := by
    generalize v % 2 ^ n = y at hm
    exact wr_u32 (by omega)
  rw [valiselaw3_low.f, e1, e2, e3, e4, e5, gd_pos (by omega), e6]

theorem width_spec (k : Int) (hk : -9223372036854775808 ≤ k ∧ k ≤ 9223372036854775807) : ∃ m : Nat, m ≤ 32 ∧ valiselaw3_width.f k = some (m : Int) := by
  obtain ⟨m, hm, h⟩ := which_spec k 33 (by omega) (by omega) hk
  have h' : valiselaw3_which.f k 33 = some (m : Int) := h
  exact ⟨m, by omega, by rw [valiselaw3_width.f, h']; rfl⟩

theorem flat_one {β : Type} (l : List β) : (l.mapIdx fun _ x => [x]).flatten = l := by
  induction l with
  | nil => rfl
  | cons x l ih => rw [List.mapIdx_cons, List.flatten_cons]; exact congrArg (x :: ·) ih
theorem valiselaw3_copied_spec (a : List Int) (h : (a.length : Int) * 1 ≤ 140737488355328) : valiselaw3_copied.f a = some a := by
  unfold valiselaw3_copied.f
  have key := list_loop0 a (by omega) (fun k i s => valiselaw3_copied.l1 k s i a) (fun i x s => .inr (s ++ [x])) (fun s => s) (fun i s => s.length = i)
    (fun k s _ => by rw [valiselaw3_copied.l1, if_neg (by omega)])
    (fun k i x s hx hi hs => by
      have e1 : rd a (i : Int) = x := rd_at hx
      have e2 : (s ++ [x]).length = i + 1 := by simp [hs]
      rw [valiselaw3_copied.l1, if_pos (by omega), gd_pos (by omega), e1, bnd_eq, gd_pos (by rw [e2]; omega), bnd_eq, inc_i (by omega)])
    (fun i x s s' hx hi hs hg => by cases hg; simp [hs]) [] rfl
  have key' : valiselaw3_copied.l1 FU [] 0 a = _ := key
  rw [key', foldE_app (f := fun _ x => [x])]
  simp [flat_one]


theorem peeks_loop (d : List Int) (hd : ∀ x ∈ d, 0 ≤ x ∧ x < 256) (hl : d.length ≤ 33554432) (st : List Int) (hst : ∀ x ∈ st, (Lit.int .i64 x).wf = true) (hsl : st.length ≤ 140737488351232) (m : Nat) : ∀ (k i a : Nat), i + m = st.length → m < k → a ≤ 8 * d.length →
    ∃ a' : Nat, valiselaw3_BitsPeeks.l1 k d d (a : Int) (a : Int) (a : Int) (i : Int) d st = some (.inr (d, d, (a' : Int), (a' : Int), (a' : Int))) := by
  induction m with
  | zero =>
    intro k i a hi hk ha
    obtain ⟨k, rfl⟩ : ∃ j, k = j + 1 := ⟨k - 1, by omega⟩
    rw [valiselaw3_BitsPeeks.l1, if_neg (by omega)]
    exact ⟨a, rfl⟩
  | succ m ih =>
    intro k i a hi hk ha
    obtain ⟨k, rfl⟩ : ∃ j, k = j + 1 := ⟨k - 1, by omega⟩
    have hx : st[i]? = some st[i] := List.getElem?_eq_getElem (by omega)
    obtain ⟨n, hn, en⟩ := width_spec st[i] (wf_i64 (hst _ (List.getElem_mem (by omega))))
    have e8 : IntKind.i64.wrap (8 * (d.length : Int)) = ((8 * d.length : Nat) : Int) := by rw [wr_i64 (by omega)]; omega
    have el : IntKind.i64.wrap (((8 * d.length : Nat) : Int) - (a : Int)) = ((8 * d.length - a : Nat) : Int) := by rw [wr_i64 (by omega)]; omega
    have em : min (n : Int) ((8 * d.length - a : Nat) : Int) = ((min n (8 * d.length - a) : Nat) : Int) := by omega
    rw [valiselaw3_BitsPeeks.l1, if_pos (by omega), gd_pos (by omega), rd_at hx, en, Option.bind_some, bnd_eq, e8, el, bits_Reader_Peek_spec d hd hl n hn a ha, Option.bind_some, em]
    simp only [ne_eq, not_true_eq_false, if_false]
    generalize hV : ((unpack d).drop a).take n = V
    have hVl : V.length = min n (8 * d.length - a) := by rw [← hV, List.length_take, List.length_drop, unpack_length]
    have hVlt := val_lt V
    rw [hVl] at hVlt
    have hp32 : 2 ^ (min n (8 * d.length - a)) ≤ 2 ^ 32 := Nat.pow_le_pow_right (by omega) (by omega)
    rw [low_spec (val V) (min n (8 * d.length - a)) (by omega) (by omega), Nat.mod_eq_of_lt hVlt]
    simp only [Option.bind_some, ne_eq, not_true_eq_false, if_false, bits_Reader_At.f]
    rw [bits_Reader_Left_spec d hl a ha]
    simp only [Option.bind_some, ne_eq, not_true_eq_false, if_false]
    by_cases hc : 8 * d.length < a + n
    · rw [bits_Reader_Take_end d hl n hn a ha hc, bits_Reader_Skip_end d hl n a ha hc]
      simp only [Option.bind_some]
      rw [if_pos (by omega)]
      simp only [ne_eq, not_true_eq_false, or_self, if_false]
      rw [bits_Reader_Take_ok d hd hl (8 * d.length - a) (by omega) a (by omega), bits_Reader_Skip_ok d hl (8 * d.length - a) a (by omega)]
      have hV2 : ((unpack d).drop a).take (8 * d.length - a) = V := by
        rw [← hV, List.take_of_length_le (by rw [List.length_drop, unpack_length]; omega), List.take_of_length_le (by rw [List.length_drop, unpack_length]; omega)]
      simp only [Option.bind_some, hV2, ne_eq, not_true_eq_false, or_self, if_false]
      rw [bnd_eq, bnd_eq, inc_i (by omega), show a + (8 * d.length - a) = 8 * d.length by omega]
      exact ih k (i + 1) (8 * d.length) (by omega) (by omega) (Nat.le_refl _)
    · rw [bits_Reader_Take_ok d hd hl n hn a (by omega), bits_Reader_Skip_ok d hl n a (by omega), hV]
      simp only [Option.bind_some]
      rw [if_neg (by omega)]
      have ea : IntKind.i64.wrap ((a : Int) + (n : Int)) = ((a + n : Nat) : Int) := by rw [wr_i64 (by omega)]; omega
      simp only [ne_eq, not_true_eq_false, or_self, if_false, ea, Option.bind_some]
      rw [bnd_eq, bnd_eq, inc_i (by omega)]
      exact ih k (i + 1) (a + n) (by omega) (by omega) (by omega)

theorem valiselaw3_BitsPeeks_true (d st : List Int) (hd : ∀ x ∈ d, (Lit.int .u8 x).wf = true) (wd : d.length * 1 ≤ 140737488351232) (hst : ∀ x ∈ st, (Lit.int .i64 x).wf = true) (wst : st.length * 8 ≤ 140737488351232) :
    valiselaw3_BitsPeeks.f d st = some true := by
  unfold valiselaw3_BitsPeeks.f
  by_cases h : 33554432 < (d.length : Int)
  · rw [if_pos h]
  · have hb : ∀ x ∈ d, 0 ≤ x ∧ x < 256 := by
      intro x hx
      obtain ⟨a, rfl, ha⟩ := wf_u (k := .u8) rfl (hd x hx)
      have ha : a < 2 ^ 8 := ha
      omega
    rw [if_neg h]
    simp only [valiselaw3_copied_spec d (by omega), Option.bind_some, bits_NewReader_spec d (by omega), onO_some]
    obtain ⟨a', e⟩ := peeks_loop d hb (by omega) st hst (by omega) st.length FU 0 0 (by omega) (by rw [FU_eq]; omega) (by omega)
    have e' : valiselaw3_BitsPeeks.l1 FU d d 0 0 0 0 d st = some (.inr (d, d, (a' : Int), (a' : Int), (a' : Int))) := e
    rw [e']
    simp [onR, bits_Reader_At.f]
end Go.V.Pu
