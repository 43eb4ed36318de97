/- The plain law: the program counts the symbols of every list of tokens as the document does. -/
import Derived.Test.YtpkgngaohnblkaaDoorGBlockCountsPure
import Derived.Test.YtpkgngaohnblkaaDoorQ1
set_option linter.unusedVariables false
set_option linter.unusedSimpArgs false
namespace Go.V.Pu
open Go Go.V

theorem len_pairs : ∀ s : Fin 256, block_LengthSymbol.f (((s.val + 3 : Nat)) : Int) = valiseref10_LengthSymbol.f (((s.val + 3 : Nat)) : Int) ∧ ((block_LengthSymbol.f (((s.val + 3 : Nat)) : Int)).any fun p => decide (257 ≤ p.1) && decide (p.1 ≤ 285) && decide (p.2.2.2 = 0)) = true := by decide +kernel
theorem len_pair (l : Int) (h0 : 3 ≤ l) (h1 : l ≤ 258) : ∃ m : Nat, ∃ n x : Int, 257 ≤ m ∧ m ≤ 285 ∧ block_LengthSymbol.f l = some ((m : Int), n, x, 0) ∧ valiseref10_LengthSymbol.f l = some ((m : Int), n, x, 0) := by
  obtain ⟨n, rfl⟩ : ∃ n : Nat, l = ((n + 3 : Nat) : Int) := ⟨(l - 3).toNat, by omega⟩
  have h := len_pairs ⟨n, by omega⟩
  simp only at h
  rw [← h.1]
  cases hc : block_LengthSymbol.f ((n + 3 : Nat) : Int) with
  | none => rw [hc] at h; simp at h
  | some p =>
    rw [hc] at h
    obtain ⟨a, b, c, e⟩ := p
    simp only [Option.any_some, Bool.and_eq_true, decide_eq_true_eq] at h
    obtain ⟨_, ⟨h2, h3⟩, rfl⟩ := h
    exact ⟨a.toNat, b, c, by omega, by omega, by rw [Int.toNat_of_nonneg (by omega)], by rw [Int.toNat_of_nonneg (by omega)]⟩

theorem dist_tables : ∀ s : Fin 30, valiseref10_distBits.f ((s.val : Nat) : Int) = some (rd T_block_distBits ((s.val : Nat) : Int)) ∧ valiseref10_distBase.f ((s.val : Nat) : Int) = some (rd T_block_distBase ((s.val : Nat) : Int)) := by decide +kernel
theorem dist_last : valiseref10_distBase.f 30 = some 32769 := by decide +kernel
theorem dist_first : rd T_block_distBase 0 = 1 := rfl

/-- From the top down: the last whose least is not above. -/
theorem down (n : Nat) : ∀ (k : Nat) (d : Int), n < k → n < 30 → 1 ≤ d →
    ∃ m : Nat, m ≤ n ∧ block_DistSymbol.l1 k n d = some (m : Int) ∧ rd T_block_distBase m ≤ d ∧ ∀ j : Nat, m < j → j ≤ n → d < rd T_block_distBase j := by
  induction n with
  | zero =>
    intro k d hk hn hd
    obtain ⟨k, rfl⟩ : ∃ j, k = j + 1 := ⟨k - 1, by omega⟩
    refine ⟨0, Nat.le_refl _, ?_, by show rd T_block_distBase 0 ≤ d; rw [dist_first]; exact hd, fun j h1 h2 => by omega⟩
    have hf : ¬ d < rd T_block_distBase ((0 : Nat) : Int) := by show ¬ d < rd T_block_distBase 0; rw [dist_first]; omega
    rw [block_DistSymbol.l1, gd_pos (by omega), if_neg hf]
  | succ n ih =>
    intro k d hk hn hd
    obtain ⟨k, rfl⟩ : ∃ j, k = j + 1 := ⟨k - 1, by omega⟩
    rw [block_DistSymbol.l1, gd_pos (by omega)]
    by_cases h : d < rd T_block_distBase ((n + 1 : Nat) : Int)
    · obtain ⟨m, hm, he, h1, h2⟩ := ih k d (by omega) (by omega) hd
      rw [if_pos h, bnd_eq, wr_i64 (by omega), show ((n + 1 : Nat) : Int) - 1 = n by omega]
      refine ⟨m, by omega, he, h1, fun j hj hj' => ?_⟩
      by_cases e : j = n + 1
      · subst e; exact h
      · exact h2 j hj (by omega)
    · rw [if_neg h]
      exact ⟨n + 1, Nat.le_refl _, rfl, by omega, fun j h1 h2 => by omega⟩

/-- From the bottom up. -/
theorem up (i : Nat) : ∀ (k s m : Nat) (d : Int), i < k → s + i = m → m < 30 → d ≤ 32768 → (∀ j : Nat, j ≤ m → rd T_block_distBase j ≤ d) → (∀ j : Nat, m < j → j < 30 → d < rd T_block_distBase j) →
    valiseref10_DistSymbol.l1 k s d = some (m : Int) := by
  induction i with
  | zero =>
    intro k s m d hk hs hm hd h1 h2
    obtain ⟨k, rfl⟩ : ∃ j, k = j + 1 := ⟨k - 1, by omega⟩
    obtain rfl : s = m := by omega
    rw [valiseref10_DistSymbol.l1, wr_i64 (by omega)]
    by_cases e : s = 29
    · subst e
      have : ((29 : Nat) : Int) + 1 = 30 := rfl
      rw [this, dist_last]
      simp only [Option.bind_some]
      rw [if_neg (by omega)]
    · have hb := (dist_tables ⟨s + 1, by omega⟩).2
      simp only at hb
      have h3 := h2 (s + 1) (by omega) (by omega)
      rw [show ((s : Int) + 1) = ((s + 1 : Nat) : Int) by omega, hb]
      simp only [Option.bind_some]
      rw [if_neg (by omega)]
  | succ i ih =>
    intro k s m d hk hs hm hd h1 h2
    obtain ⟨k, rfl⟩ : ∃ j, k = j + 1 := ⟨k - 1, by omega⟩
    rw [valiseref10_DistSymbol.l1, wr_i64 (by omega)]
    have hb := (dist_tables ⟨s + 1, by omega⟩).2
    simp only at hb
    have h3 := h1 (s + 1) (by omega)
    rw [show ((s : Int) + 1) = ((s + 1 : Nat) : Int) by omega, hb]
    simp only [Option.bind_some]
    rw [if_pos h3, bnd_eq]
    exact ih k (s + 1) m d (by omega) (by omega) hm hd h1 h2

theorem rising : ∀ a : Fin 30, ∀ b : Fin 30, a.val ≤ b.val → rd T_block_distBase ((a.val : Nat) : Int) ≤ rd T_block_distBase ((b.val : Nat) : Int) := by decide +kernel

theorem dist_pair (d : Int) (h0 : 1 ≤ d) (h1 : d ≤ 32768) : ∃ m : Nat, ∃ n x : Int, m < 30 ∧ block_DistSymbol.f d = some ((m : Int), n, x, 0) ∧ valiseref10_DistSymbol.f d = some ((m : Int), n, x, 0) := by
  obtain ⟨m, hm, he, h1', h2⟩ := down 29 FU d (by rw [FU_eq]; omega) (by omega) (by omega)
  have hu := up m FU 0 m d (by rw [FU_eq]; omega) (by omega) (by omega) (by omega)
    (fun j hj => Int.le_trans (rising ⟨j, by omega⟩ ⟨m, by omega⟩ hj) h1') (fun j hj hj' => h2 j hj (by omega))
  have he' : block_DistSymbol.l1 FU 29 d = some (m : Int) := he
  have hu' : valiseref10_DistSymbol.l1 FU 0 d = some (m : Int) := hu
  obtain ⟨t1, t2⟩ := dist_tables ⟨m, by omega⟩
  simp only at t1 t2
  refine ⟨m, rd T_block_distBits (m : Int), IntKind.i64.wrap (d - rd T_block_distBase (m : Int)), by omega, ?_, ?_⟩
  · rw [block_DistSymbol.f, if_neg (by omega), he']
    simp only [Option.bind_some]
    rw [gd_pos (by omega), bnd_eq, bnd_eq]
  · rw [valiseref10_DistSymbol.f, if_neg (by omega), hu']
    simp only [Option.bind_some, t1, t2]

/-- May the token be? -/
def tokOk (t : Int × Int × Int) : Prop := if t.1 = 0 then t.2.1 = 0 else t.2.2 = 0 ∧ 3 ≤ t.1 ∧ t.1 ≤ 258 ∧ 1 ≤ t.2.1 ∧ t.2.1 ≤ 32768
instance : DecidablePred tokOk := fun t => by unfold tokOk; exact inferInstance
/-- How many bytes tokens say. -/
def sayN : List (Int × Int × Int) → Nat
  | [] => 0
  | t :: l => (max 1 t.1).toNat + sayN l
theorem block_sound_spec (t : Int × Int × Int) : block_sound.f t.1 t.2.1 t.2.2 = some (decide (tokOk t)) := by
  unfold block_sound.f tokOk
  by_cases c : t.1 = 0
  · rw [if_pos c]; simp only [if_pos c]
  · rw [if_neg c]; simp only [if_neg c]
    congr 1
    exact decide_eq_decide.2 (by constructor <;> intro h <;> simp only [and_assoc] at h ⊢ <;> exact h)
theorem tokOk_len {t : Int × Int × Int} (h : tokOk t) : 0 ≤ t.1 ∧ t.1 ≤ 258 := by
  unfold tokOk at h
  split at h <;> omega
theorem said_loop (ts : List (Int × Int × Int)) (hl : ts.length ≤ 17592186044416) (m : Nat) : ∀ (k i n : Nat), i + m = ts.length → m < k → n ≤ 258 * i →
    block_said.l1 k (n : Int) (i : Int) ts = some (if ∀ t ∈ ts.drop i, tokOk t then .inr ((n + sayN (ts.drop i) : Nat) : Int) else .inl (0, false)) := by
  induction m with
  | zero =>
    intro k i n hi hk hn
    obtain ⟨k, rfl⟩ : ∃ j, k = j + 1 := ⟨k - 1, by omega⟩
    rw [block_said.l1, if_neg (by omega), List.drop_eq_nil_of_le (by omega), if_pos (by simp)]; simp [sayN]
  | succ m ih =>
    intro k i n hi hk hn
    obtain ⟨k, rfl⟩ : ∃ j, k = j + 1 := ⟨k - 1, by omega⟩
    have hx : ts[i]? = some ts[i] := List.getElem?_eq_getElem (by omega)
    rw [block_said.l1, if_pos (by omega), gd_pos (by omega), rdx_at' hx, block_sound_spec, drop_cons hx]
    generalize ts[i] = t at *
    simp only [Option.bind_some]
    by_cases c : tokOk t
    · have ht := tokOk_len c
      have e1 : IntKind.i64.wrap ((n : Int) + max 1 t.1) = ((n + (max 1 t.1).toNat : Nat) : Int) := by rw [wr_i64 (by omega)]; omega
      rw [if_neg (by simp [c]), bnd_eq, e1, inc_i (by omega), ih k (i + 1) _ (by omega) (by omega) (by omega)]
      by_cases d : ∀ t ∈ ts.drop (i + 1), tokOk t
      · rw [if_pos d, if_pos (by simpa [c] using d)]
        simp only [sayN]; congr 3; omega
      · rw [if_neg d, if_neg (fun h => d fun t ht => h t (List.mem_cons_of_mem _ ht))]
    · rw [if_pos (by simp [c]), if_neg (fun h => c (h t (by simp)))]
theorem block_said_spec (ts : List (Int × Int × Int)) (hl : ts.length ≤ 17592186044416) : block_said.f ts = some (if ∀ t ∈ ts, tokOk t then ((sayN ts : Int), true) else (0, false)) := by
  have key := said_loop ts hl ts.length FU 0 0 (by omega) (by rw [FU_eq]; omega) (by omega)
  rw [List.drop_zero, Nat.zero_add] at key
  have key' : block_said.l1 FU 0 0 ts = _ := key
  rw [block_said.f, key']
  by_cases c : ∀ t ∈ ts, tokOk t
  · rw [if_pos c, if_pos c]; rfl
  · rw [if_neg c, if_neg c]; rfl

/-- The symbols of a token that is a copy. -/
def lenS (l : Int) : Int := ((block_LengthSymbol.f l).map fun p => p.1).getD 0
def distS (d : Int) : Int := ((block_DistSymbol.f d).map fun p => p.1).getD 0
def inc1 (l : List Int) (i : Int) : List Int := l.set i.toNat (IntKind.i64.wrap (rd l i + 1))
def cntStep (a : List Int × List Int) (t : Int × Int × Int) : List Int × List Int := if t.1 = 0 then (inc1 a.1 t.2.2, a.2) else (inc1 a.1 (lenS t.1), inc1 a.2 (distS t.2.1))
/-- What stands how often. -/
def cntT (ts : List (Int × Int × Int)) : List Int × List Int := ts.foldl cntStep ((List.replicate 286 (0 : Int)).set 256 1, List.replicate 30 (0 : Int))
theorem inc1_length (l : List Int) (i : Int) : (inc1 l i).length = l.length := by simp [inc1]
theorem lenS_range {l : Int} (h0 : 3 ≤ l) (h1 : l ≤ 258) : 257 ≤ lenS l ∧ lenS l ≤ 285 := by
  obtain ⟨m, n, x, a, b, c, d⟩ := len_pair l h0 h1
  unfold lenS; rw [c]; simp; omega
theorem distS_range {d : Int} (h0 : 1 ≤ d) (h1 : d ≤ 32768) : 0 ≤ distS d ∧ distS d < 30 := by
  obtain ⟨m, n, x, a, b, c⟩ := dist_pair d h0 h1
  unfold distS; rw [b]; simp; omega
theorem count_loop (ts : List (Int × Int × Int)) (hl : ts.length ≤ 17592186044416) (ho : ∀ t ∈ ts, tokOk t) (hu : ∀ t ∈ ts, 0 ≤ t.2.2 ∧ t.2.2 < 256) (m : Nat) : ∀ (k i : Nat) (a : List Int × List Int), i + m = ts.length → m < k → a.1.length = 286 → a.2.length = 30 →
    block_Count.l1 k a.1 a.2 (i : Int) ts = some ((ts.drop i).foldl cntStep a) := by
  induction m with
  | zero =>
    intro k i a hi hk h1 h2
    obtain ⟨k, rfl⟩ : ∃ j, k = j + 1 := ⟨k - 1, by omega⟩
    rw [block_Count.l1, if_neg (by omega), List.drop_eq_nil_of_le (by omega)]; rfl
  | succ m ih =>
    intro k i a hi hk h1 h2
    obtain ⟨k, rfl⟩ : ∃ j, k = j + 1 := ⟨k - 1, by omega⟩
    have hx : ts[i]? = some ts[i] := List.getElem?_eq_getElem (by omega)
    have ht := ho _ (List.getElem_mem (show i < ts.length by omega))
    have hb := hu _ (List.getElem_mem (show i < ts.length by omega))
    rw [block_Count.l1, if_pos (by omega), gd_pos (by omega), rdx_at' hx, drop_cons hx, List.foldl_cons]
    generalize ts[i] = t at *
    unfold tokOk at ht
    by_cases c : t.1 = 0
    · have es : cntStep a t = (inc1 a.1 t.2.2, a.2) := by unfold cntStep; rw [if_pos c]
      rw [if_pos c, gd_pos (by omega), bnd_eq, inc_i (by omega), es]
      exact ih k (i + 1) (inc1 a.1 t.2.2, a.2) (by omega) (by omega) (by rw [inc1_length]; exact h1) h2
    · rw [if_neg c] at ht
      obtain ⟨p, n, x, p1, p2, p3, p4⟩ := len_pair t.1 ht.2.1 ht.2.2.1
      obtain ⟨q, n', x', q1, q2, q3⟩ := dist_pair t.2.1 ht.2.2.2.1 ht.2.2.2.2
      have eL : lenS t.1 = p := by unfold lenS; rw [p3]; rfl
      have eD : distS t.2.1 = q := by unfold distS; rw [q2]; rfl
      have es : cntStep a t = (inc1 a.1 p, inc1 a.2 q) := by unfold cntStep; rw [if_neg c, eL, eD]
      rw [if_neg c, p3]
      simp only [Option.bind_some]
      rw [gd_pos (by omega), bnd_eq, q2]
      simp only [Option.bind_some]
      rw [gd_pos (by omega), bnd_eq, inc_i (by omega), es]
      exact ih k (i + 1) (inc1 a.1 p, inc1 a.2 q) (by omega) (by omega) (by rw [inc1_length]; exact h1) (by rw [inc1_length]; exact h2)
theorem block_Count_spec (ts : List (Int × Int × Int)) (hl : ts.length ≤ 17592186044416) (hu : ∀ t ∈ ts, 0 ≤ t.2.2 ∧ t.2.2 < 256) : block_Count.f ts = some (if 16777216 < ts.length then ([], [], 1) else if ∀ t ∈ ts, tokOk t then ((cntT ts).1, (cntT ts).2, 0) else ([], [], 100)) := by
  rw [block_Count.f]
  by_cases c : 16777216 < ts.length
  · rw [if_pos (by omega), if_pos c]
  · rw [if_neg (by omega), if_neg c, block_said_spec ts hl]
    by_cases d : ∀ t ∈ ts, tokOk t
    · have key := count_loop ts hl d hu ts.length FU 0 ((List.replicate 286 (0 : Int)).set 256 1, List.replicate 30 (0 : Int)) (by omega) (by rw [FU_eq]; omega) (by rw [List.length_set, List.length_replicate]) List.length_replicate
      rw [List.drop_zero] at key
      have key' : block_Count.l1 FU ((List.replicate 286 (0 : Int)).set 256 1) (List.replicate 30 (0 : Int)) 0 ts = some (cntT ts) := key
      rw [if_pos d, if_pos d]
      simp only [Option.bind_some, Bool.not_true, Bool.false_eq_true, if_false]
      rw [gd_pos (by rw [List.length_replicate]; omega), bnd_eq, show (286 : Int).toNat = 286 from rfl, show (256 : Int).toNat = 256 from rfl, show (30 : Int).toNat = 30 from rfl, key']
      rfl
    · rw [if_neg d, if_neg d]
      rfl

theorem ref10_copies_spec (t : Int × Int × Int) : valiseref10_copies.f t.1 t.2.1 t.2.2 = some (decide (t.1 ≠ 0 ∧ tokOk t)) := by
  unfold valiseref10_copies.f tokOk
  congr 1
  refine decide_eq_decide.2 ?_
  by_cases c : t.1 = 0
  · simp only [if_pos c]; omega
  · simp only [if_neg c]; omega
theorem ref10_sound_spec (ts : List (Int × Int × Int)) (hl : ts.length ≤ 17592186044416) : valiseref10_sound.f ts = some (decide (∀ t ∈ ts, tokOk t)) := by
  have key := list_loop1 ts (by omega) (fun k i (_ : Unit) => valiseref10_sound.l1 k i ts) (fun i t _ => if tokOk t then .inr () else .inl (.inl false)) (fun s => .inr ())
    (fun k s => by rw [valiseref10_sound.l1, if_neg (by omega)])
    (fun k i t s hx hi => by
      rw [valiseref10_sound.l1, if_pos (by omega), gd_pos (by omega), rdx_at' hx, ref10_copies_spec]
      simp only [Option.bind_some]
      by_cases hb : tokOk t
      · simp only [if_pos hb]
        have hb' := hb
        unfold tokOk at hb'
        rw [if_neg, bnd_eq, inc_i (by omega)]
        rintro ⟨h1, h2⟩
        by_cases c : t.1 = 0
        · rw [if_pos c] at hb'; omega
        · simp [c, hb] at h1
      · simp only [if_neg hb]
        have hb' := hb
        unfold tokOk at hb'
        rw [if_pos]
        refine ⟨by simp [hb], ?_⟩
        by_cases c : t.1 = 0
        · rw [if_pos c] at hb'; exact .inr hb'
        · exact .inl c) ()
  have key' : valiseref10_sound.l1 FU 0 ts = _ := key
  rw [valiseref10_sound.f, key']
  by_cases c : ∀ t ∈ ts, tokOk t
  · rw [foldE_ok ts 0 (fun j x hx => if_pos (c x (List.mem_of_getElem? hx)))]
    simp only [Option.bind_some, onR, decide_eq_true c]
  · rw [foldE_bad (bad := .inl false) ts 0 (fun j x hx => by by_cases hb : tokOk x <;> simp [hb]) ?_]
    · simp only [Option.bind_some, onR, decide_eq_false c]
    · apply Classical.byContradiction
      intro hn
      apply c
      intro x hx
      apply Classical.byContradiction
      intro hb
      obtain ⟨j, hj⟩ := List.getElem?_of_mem hx
      exact hn ⟨j, x, hj, by rw [if_neg hb]; intro h3; cases h3⟩

theorem ref_count_loop (ts : List (Int × Int × Int)) (hl : ts.length ≤ 17592186044416) (ho : ∀ t ∈ ts, tokOk t) (hu : ∀ t ∈ ts, 0 ≤ t.2.2 ∧ t.2.2 < 256) (m : Nat) : ∀ (k i : Nat) (a : List Int × List Int), i + m = ts.length → m < k → a.1.length = 286 → a.2.length = 30 →
    valiseref10_Count.l1 k a.1 a.2 (i : Int) ts = some ((ts.drop i).foldl cntStep a) := by
  induction m with
  | zero =>
    intro k i a hi hk h1 h2
    obtain ⟨k, rfl⟩ : ∃ j, k = j + 1 := ⟨k - 1, by omega⟩
    rw [valiseref10_Count.l1, if_neg (by omega), List.drop_eq_nil_of_le (by omega)]; rfl
  | succ m ih =>
    intro k i a hi hk h1 h2
    obtain ⟨k, rfl⟩ : ∃ j, k = j + 1 := ⟨k - 1, by omega⟩
    have hx : ts[i]? = some ts[i] := List.getElem?_eq_getElem (by omega)
    have ht := ho _ (List.getElem_mem (show i < ts.length by omega))
    have hb := hu _ (List.getElem_mem (show i < ts.length by omega))
    rw [valiseref10_Count.l1, if_pos (by omega), gd_pos (by omega), rdx_at' hx, drop_cons hx, List.foldl_cons]
    generalize ts[i] = t at *
    unfold tokOk at ht
    by_cases c : t.1 = 0
    · have es : cntStep a t = (inc1 a.1 t.2.2, a.2) := by unfold cntStep; rw [if_pos c]
      rw [if_pos c, wr_i64 (x := t.2.2) (by omega), gd_pos (by omega), bnd_eq, bnd_eq, inc_i (by omega), es]
      exact ih k (i + 1) (inc1 a.1 t.2.2, a.2) (by omega) (by omega) (by rw [inc1_length]; exact h1) h2
    · rw [if_neg c] at ht
      obtain ⟨p, n, x, p1, p2, p3, p4⟩ := len_pair t.1 ht.2.1 ht.2.2.1
      obtain ⟨q, n', x', q1, q2, q3⟩ := dist_pair t.2.1 ht.2.2.2.1 ht.2.2.2.2
      have eL : lenS t.1 = p := by unfold lenS; rw [p3]; rfl
      have eD : distS t.2.1 = q := by unfold distS; rw [q2]; rfl
      have es : cntStep a t = (inc1 a.1 p, inc1 a.2 q) := by unfold cntStep; rw [if_neg c, eL, eD]
      rw [if_neg c, p4]
      simp only [Option.bind_some]
      rw [q3]
      simp only [Option.bind_some]
      rw [gd_pos (by omega), bnd_eq, gd_pos (by omega), bnd_eq, bnd_eq, inc_i (by omega), es]
      exact ih k (i + 1) (inc1 a.1 p, inc1 a.2 q) (by omega) (by omega) (by rw [inc1_length]; exact h1) (by rw [inc1_length]; exact h2)
theorem ref10_Count_spec (ts : List (Int × Int × Int)) (hl : ts.length ≤ 17592186044416) (hu : ∀ t ∈ ts, 0 ≤ t.2.2 ∧ t.2.2 < 256) : valiseref10_Count.f ts = some (if 16777216 < ts.length then ([], [], 1) else if ∀ t ∈ ts, tokOk t then ((cntT ts).1, (cntT ts).2, 0) else ([], [], 100)) := by
  rw [valiseref10_Count.f]
  by_cases c : 16777216 < ts.length
  · rw [if_pos (by omega), if_pos c]
  · rw [if_neg (by omega), if_neg c, ref10_sound_spec ts hl]
    by_cases d : ∀ t ∈ ts, tokOk t
    · have key := ref_count_loop ts hl d hu ts.length FU 0 ((List.replicate 286 (0 : Int)).set 256 1, List.replicate 30 (0 : Int)) (by omega) (by rw [FU_eq]; omega) (by rw [List.length_set, List.length_replicate]) List.length_replicate
      rw [List.drop_zero] at key
      have key' : valiseref10_Count.l1 FU ((List.replicate 286 (0 : Int)).set 256 1) (List.replicate 30 (0 : Int)) 0 ts = some (cntT ts) := key
      rw [if_pos d]
      simp only [Option.bind_some, decide_eq_true d, Bool.not_true, Bool.false_eq_true, if_false]
      rw [gd_pos (by rw [List.length_replicate]; omega), bnd_eq, show (286 : Int).toNat = 286 from rfl, show (256 : Int).toNat = 256 from rfl, show (30 : Int).toNat = 30 from rfl, key']
      rfl
    · rw [if_neg d]
      simp only [Option.bind_some, decide_eq_false d]
      rfl

theorem valiselaw10_equal_spec (a b : List Int) (h : a.length < 4611686018427387904) : valiselaw10_equal.f a b = some (decide (a = b)) := by
  unfold valiselaw10_equal.f
  by_cases hl : a.length = b.length
  · rw [if_neg (by omega)]
    have key := list_loop1 a (by omega) (fun k i (_ : Unit) => valiselaw10_equal.l1 k i a b) (fun i x _ => if rd b (i : Int) = x then .inr () else .inl (.inl false)) (fun _ => .inr ())
      (fun k _ => by rw [valiselaw10_equal.l1, if_neg (by omega)])
      (fun k i x _ hx hi => by
        have e1 : rd a (i : Int) = x := rd_at hx
        rw [valiselaw10_equal.l1, if_pos (by omega), gd_pos (by omega), gd_pos (by omega), e1]
        by_cases e : rd b (i : Int) = x
        · simp only [if_pos e]
          rw [if_neg (fun e' => e' e.symm), bnd_eq, inc_i (by omega)]
        · simp only [if_neg e]
          rw [if_pos (fun e' => e e'.symm)]) ()
    rw [show valiselaw10_equal.l1 FU 0 a b = _ from key]
    by_cases e : a = b
    · rw [foldE_ok a 0 (fun j x hx => by rw [if_pos ((all_eq hl).2 e j x hx)])]
      simp [onR, e]
    · rw [foldE_bad (bad := .inl false) a 0 (fun j x hx => by
        by_cases e2 : rd b ((0 + j : Nat) : Int) = x
        · left; rw [if_pos e2]
        · right; rw [if_neg e2]) ?_]
      · simp [onR, e]
      · apply Classical.byContradiction
        intro hn
        apply e
        rw [← all_eq hl]
        intro j x hx
        apply Classical.byContradiction
        intro h2
        exact hn ⟨j, x, hx, by rw [if_neg h2]; intro h3; cases h3⟩
  · rw [if_pos (by omega)]
    simp
    intro e
    exact hl (by rw [e])

theorem valiselaw10_alike_loop (a : List (Int×Int×Int)) (h : a.length < 4611686018427387904) (d : Nat) : ∀ (k i : Nat), i + d = a.length → d < k → valiselaw10_alike.l1 k (i : Int) a a = some (.inr ()) := by
  induction d with
  | zero =>
    intro k i hi hk
    obtain ⟨k, rfl⟩ : ∃ q, k = q + 1 := ⟨k - 1, by omega⟩
    rw [valiselaw10_alike.l1, if_neg (by omega)]
  | succ d ih =>
    intro k i hi hk
    obtain ⟨k, rfl⟩ : ∃ q, k = q + 1 := ⟨k - 1, by omega⟩
    rw [valiselaw10_alike.l1, if_pos (by omega), gd_pos (by omega), gd_pos (by omega)]
    simp only [and_self, not_true_eq_false, if_false, bnd_eq]
    rw [inc_i (by omega)]
    exact ih k (i + 1) (by omega) (by omega)
theorem valiselaw10_alike_self (a : List (Int×Int×Int)) (h : a.length < 4611686018427387904) : valiselaw10_alike.f a a = some true := by
  have key := valiselaw10_alike_loop a h a.length FU 0 (by omega) (by rw [FU_eq]; omega)
  rw [show ((0 : Nat) : Int) = 0 from rfl] at key
  rw [valiselaw10_alike.f, if_neg (by simp), key]
  rfl

theorem list10_spec (a : List (Int × Int × Int)) (h : a.length ≤ 11728124029610) : valiselaw10_list.f a = some a := by
  have hc : cpy (List.replicate ((a.length : Int)).toNat (E_api_Token).def_) a = a := by
    unfold cpy
    rw [List.length_replicate, Int.toNat_natCast, List.take_length, List.drop_eq_nil_of_le (by simp), List.append_nil]
  rw [valiselaw10_list.f, gd_pos (by omega), bnd_eq, bnd_eq, hc]


theorem cntT_length (ts : List (Int × Int × Int)) : (cntT ts).1.length = 286 ∧ (cntT ts).2.length = 30 := by
  unfold cntT
  have gen : ∀ (ts : List (Int × Int × Int)) (a : List Int × List Int), (ts.foldl cntStep a).1.length = a.1.length ∧ (ts.foldl cntStep a).2.length = a.2.length := by
    intro ts
    induction ts with
    | nil => intro a; exact ⟨rfl, rfl⟩
    | cons t ts ih =>
      intro a
      rw [List.foldl_cons]
      have h1 := ih (cntStep a t)
      have h2 : (cntStep a t).1.length = a.1.length ∧ (cntStep a t).2.length = a.2.length := by
        unfold cntStep
        split <;> simp only [inc1_length, and_self]
      omega
  have := gen ts ((List.replicate 286 (0 : Int)).set 256 1, List.replicate 30 (0 : Int))
  rw [List.length_set, List.length_replicate, List.length_replicate] at this
  exact this


theorem valiselaw10_BlockCounts_true (ts : List (Int × Int × Int)) (hw : ∀ x ∈ ts, (Lit.int .i64 x.1).wf = true ∧ (Lit.int .i64 x.2.1).wf = true ∧ (Lit.int .u8 x.2.2).wf = true) (wt : ts.length * 24 ≤ 140737488351232) : valiselaw10_BlockCounts.f ts = some true := by
  have hu : ∀ t ∈ ts, 0 ≤ t.2.2 ∧ t.2.2 < 256 := fun t ht => by
    obtain ⟨a, e, ha⟩ := wf_u (k := .u8) rfl (hw t ht).2.2
    have ha : a < 2 ^ 8 := ha
    omega
  have hc := cntT_length ts
  rw [valiselaw10_BlockCounts.f, list10_spec ts (by omega)]
  simp only [Option.bind_some]
  rw [block_Count_spec ts (by omega) hu, ref10_Count_spec ts (by omega) hu]
  simp only [Option.bind_some, if_true]
  rw [valiselaw10_alike_self ts (by omega), valiselaw10_equal_spec _ _ (by split <;> (try split) <;> simp <;> omega), valiselaw10_equal_spec _ _ (by split <;> (try split) <;> simp <;> omega)]
  simp
end Go.V.Pu
