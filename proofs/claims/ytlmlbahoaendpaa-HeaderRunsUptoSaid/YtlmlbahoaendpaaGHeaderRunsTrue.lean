/- The plain law: the program's runs of every list are the document's. -/
import Derived.Test.YtlmlbahoaendpaaGHeaderRunsPure
import Derived.Test.YtlmlbahoaendpaaQ8
set_option linter.unusedVariables false
set_option linter.unusedSimpArgs false
namespace Go.V.Pu
open Go Go.V

theorem roomy_loop (a : List Int) (ha : a.length ≤ 17592186040320) (m : Nat) : ∀ (k : Nat) (j : Nat), j + m = 9 → m < k →
    valiselaw7_roomy.l1 k (a ++ List.replicate j 165 ++ List.replicate m 0) ((a.length + j : Nat) : Int) = some (a ++ List.replicate 9 165) := by
  induction m with
  | zero =>
    intro k j hj hk
    obtain ⟨k, rfl⟩ : ∃ q, k = q + 1 := ⟨k - 1, by omega⟩
    rw [valiselaw7_roomy.l1, if_neg (by simp), show j = 9 by omega]; simp
  | succ m ih =>
    intro k j hj hk
    obtain ⟨k, rfl⟩ : ∃ q, k = q + 1 := ⟨k - 1, by omega⟩
    have e : (a ++ List.replicate j 165 ++ List.replicate (m + 1) (0 : Int)).set (a.length + j) 165 = a ++ List.replicate (j + 1) 165 ++ List.replicate m 0 := by
      rw [List.set_append_right _ _ (by simp), List.replicate_succ]
      simp [List.replicate_succ']
    rw [valiselaw7_roomy.l1, if_pos (by simp; omega), gd_pos (by simp; omega), bnd_eq, bnd_eq, Int.toNat_natCast, e, wr_i64 (by omega)]
    have := ih k (j + 1) (by omega) (by omega)
    rw [show ((a.length + j : Nat) : Int) + 1 = ((a.length + (j + 1) : Nat) : Int) by omega]
    exact this
theorem roomy_spec (a : List Int) (ha : a.length ≤ 17592186040320) : valiselaw7_roomy.f a = some (a ++ List.replicate 9 165, a.length) := by
  have e : IntKind.i64.wrap ((a.length : Int) + 9) = ((a.length + 9 : Nat) : Int) := by rw [wr_i64 (by omega)]; rfl
  have hc : cpy (List.replicate (a.length + 9) (0 : Int)) a = a ++ List.replicate 9 0 := by
    unfold cpy
    rw [List.length_replicate, List.take_of_length_le (by omega), List.drop_replicate, show a.length + 9 - a.length = 9 by omega]
  have key := roomy_loop a ha 9 FU 0 (by omega) (by rw [FU_eq]; omega)
  rw [List.replicate_zero, List.append_nil, Nat.add_zero] at key
  rw [valiselaw7_roomy.f, e, gd_pos (by omega), bnd_eq, bnd_eq, bnd_eq, Int.toNat_natCast, hc, key]
  simp only [Option.bind_some]
  rw [gd_pos (by simp; omega), Int.toNat_natCast]
theorem spared_loop (a : List Int) (ha : a.length ≤ 17592186040320) (m : Nat) : ∀ (k : Nat) (j : Nat), j + m = 9 → m < k →
    valiselaw7_spared.l1 k ((a.length + j : Nat) : Int) (a ++ List.replicate 9 165) a.length = some (.inr ()) := by
  have e : IntKind.i64.wrap ((((a ++ List.replicate 9 (165 : Int)).take a.length).length : Int) + 9) = ((a.length + 9 : Nat) : Int) := by rw [List.take_left, wr_i64 (by omega)]; rfl
  have e2 : (a ++ List.replicate 9 (165 : Int)).take (a.length + 9) = a ++ List.replicate 9 165 := List.take_of_length_le (by simp)
  induction m with
  | zero =>
    intro k j hj hk
    obtain ⟨k, rfl⟩ : ∃ q, k = q + 1 := ⟨k - 1, by omega⟩
    rw [valiselaw7_spared.l1, e, Int.toNat_natCast, e2, if_neg (by simp; omega)]
  | succ m ih =>
    intro k j hj hk
    obtain ⟨k, rfl⟩ : ∃ q, k = q + 1 := ⟨k - 1, by omega⟩
    have hx : (a ++ List.replicate 9 (165 : Int))[a.length + j]? = some 165 := by
      rw [List.getElem?_append_right (by omega), show a.length + j - a.length = j by omega, List.getElem?_replicate, if_pos (by omega)]
    rw [valiselaw7_spared.l1, e, Int.toNat_natCast, e2, if_pos (by simp; omega), gd_pos (by simp; omega), rd_at hx, if_neg (by decide), bnd_eq, wr_i64 (by omega)]
    have := ih k (j + 1) (by omega) (by omega)
    rw [show ((a.length + j : Nat) : Int) + 1 = ((a.length + (j + 1) : Nat) : Int) by omega]
    exact this
theorem spared_spec (a : List Int) (ha : a.length ≤ 17592186040320) : valiselaw7_spared.f (a ++ List.replicate 9 165) a.length = some true := by
  have e : IntKind.i64.wrap ((((a ++ List.replicate 9 (165 : Int)).take a.length).length : Int) + 9) = ((a.length + 9 : Nat) : Int) := by rw [List.take_left, wr_i64 (by omega)]; rfl
  have key := spared_loop a ha 9 FU 0 (by omega) (by rw [FU_eq]; omega)
  rw [Nat.add_zero] at key
  rw [valiselaw7_spared.f, e, gd_pos (by simp; omega), bnd_eq, List.take_left, key]
  rfl

theorem header_lengths_spec (a : List Int) (h : a.length ≤ 17592186044416) : header_lengths.f a = some (decide (∀ x ∈ a, okx x)) := by
  have key := list_loop1 a (by omega) (fun k i (_ : Unit) => header_lengths.l1 k i a) (fun i x _ => if okx x then .inr () else .inl (.inl false)) (fun s => .inr ())
    (fun k s => by rw [header_lengths.l1, if_neg (by omega)])
    (fun k i x s hx hi => by
      rw [header_lengths.l1, if_pos (by omega), gd_pos (by omega), rd_at hx, bnd_eq]
      by_cases hb : okx x
      · simp only [if_pos hb]
        unfold okx at hb
        rw [if_neg (by omega), inc_i (by omega)]
      · simp only [if_neg hb]
        unfold okx at hb
        rw [if_pos (by omega)]) ()
  have key' : header_lengths.l1 FU 0 a = _ := key
  rw [header_lengths.f, key']
  by_cases c : ∀ x ∈ a, okx x
  · rw [foldE_ok a 0 (fun j x hx => if_pos (c x (List.mem_of_getElem? hx)))]
    simp only [Option.bind_some, onR, decide_eq_true c]
  · rw [foldE_bad (bad := .inl false) a 0 (fun j x hx => by by_cases hb : okx x <;> simp [hb]) ?_]
    · simp [onR, c]
    · apply Classical.byContradiction
      intro hn
      apply c
      intro x hx
      apply Classical.byContradiction
      intro hb
      obtain ⟨j, hj⟩ := List.getElem?_of_mem hx
      exact hn ⟨j, x, hj, by rw [if_neg hb]; intro h3; cases h3⟩
theorem runs_l13 (a : List Int) (h : a.length ≤ 17592186044416) (at_ : Nat) (ha : at_ ≤ a.length) (x : Int) (d : Nat) : ∀ (k m : Nat), a.length - (at_ + m) ≤ d → d < k → m ≤ a.length →
    header_Runs.l13 k (m : Int) a (at_ : Int) x = some ((m + tw x (a.drop (at_ + m)) : Nat) : Int) := by
  induction d with
  | zero =>
    intro k m hd hk hm
    obtain ⟨k, rfl⟩ : ∃ q, k = q + 1 := ⟨k - 1, by omega⟩
    rw [header_Runs.l13, wr_i64 (by omega), if_neg (by omega), tw_end (by omega)]
    rfl
  | succ d ih =>
    intro k m hd hk hm
    obtain ⟨k, rfl⟩ : ∃ q, k = q + 1 := ⟨k - 1, by omega⟩
    have e : IntKind.i64.wrap ((at_ : Int) + (m : Int)) = ((at_ + m : Nat) : Int) := by rw [wr_i64 (by omega)]; rfl
    rw [header_Runs.l13, e]
    by_cases c : at_ + m < a.length
    · rw [if_pos (by omega), gd_pos (by omega), rd_at (List.getElem?_eq_getElem c), tw_drop c]
      simp only [Option.bind_some, decide_eq_true_eq]
      by_cases e2 : a[at_ + m] = x
      · rw [if_pos e2, if_pos e2, bnd_eq, inc_i (by omega), ih k (m + 1) (by omega) (by omega) (by omega)]
        rw [show at_ + (m + 1) = at_ + m + 1 by omega]
        congr 2; omega
      · rw [if_neg e2, if_neg e2]; rfl
    · rw [if_neg (by omega), tw_end (by omega)]; rfl
theorem header_Runs_loop (a : List Int) (h : a.length ≤ 1099511627776) (d : Nat) : ∀ (k i : Nat) (acc : List (Int × Int)), a.length - i ≤ d → d < k → i ≤ a.length → acc.length ≤ i →
    header_Runs.l11 k acc (i : Int) a = some (acc ++ runsF d a i) := by
  induction d with
  | zero =>
    intro k i acc hd hk hi hacc
    obtain ⟨k, rfl⟩ : ∃ q, k = q + 1 := ⟨k - 1, by omega⟩
    rw [header_Runs.l11, if_neg (by omega)]; simp [runsF]
  | succ d ih =>
    intro k i acc hd hk hi hacc
    obtain ⟨k, rfl⟩ : ∃ q, k = q + 1 := ⟨k - 1, by omega⟩
    by_cases c : i < a.length
    · have hr := runAt_count c
      have hl := runs_l13 a (by omega) i hi (rd a (i : Int)) a.length FU 1 (by omega) (by rw [FU_eq]; omega) (by omega)
      have e1 : ((1 : Nat) : Int) = 1 := rfl
      rw [e1] at hl
      have ht := tw_le (rd a (i : Int)) (a.drop (i + 1))
      rw [header_Runs.l11, if_pos (by omega), gd_pos (by omega), bnd_eq, hl]
      simp only [Option.bind_some]
      have er : runsF (d + 1) a i = runAt a i :: runsF d a (i + (runAt a i).2.toNat) := by rw [runsF, if_pos c]
      have fin : ∀ p : Int × Int, p = runAt a i → (bnd (acc ++ [(p.1, p.2)]) fun l1174 => gd ((l1174.length : Int) * 16 ≤ 140737488355328) (bnd (IntKind.i64.wrap ((i : Int) + p.2)) fun x1179 => header_Runs.l11 k l1174 x1179 a)) = some (acc ++ runsF (d + 1) a i) := by
        rintro p rfl
        have e2 : IntKind.i64.wrap ((i : Int) + (runAt a i).2) = ((i + (runAt a i).2.toNat : Nat) : Int) := by rw [wr_i64 (by omega)]; omega
        rw [bnd_eq, gd_pos (by simp; omega), bnd_eq, e2, ih k _ _ (by omega) (by omega) (by omega) (by simp; omega), er]
        simp
      unfold runAt at fin
      simp only at fin
      generalize rd a (i : Int) = x at *
      generalize htt : tw x (a.drop (i + 1)) = t at *
      have e3 : ((1 + t : Nat) : Int) = ((t + 1 : Nat) : Int) := by omega
      rw [e3]
      by_cases c1 : x = 0 ∧ 11 ≤ t + 1
      · rw [if_pos (show x = 0 ∧ 11 ≤ ((t + 1 : Nat) : Int) by omega)]
        simp only [Option.bind_some]
        rw [if_pos c1] at fin
        exact fin _ rfl
      · rw [if_neg (show ¬ (x = 0 ∧ 11 ≤ ((t + 1 : Nat) : Int)) by omega)]
        rw [if_neg c1] at fin
        by_cases c2 : x = 0 ∧ 3 ≤ t + 1
        · rw [if_pos (show x = 0 ∧ 3 ≤ ((t + 1 : Nat) : Int) by omega)]
          simp only [Option.bind_some]
          rw [if_pos c2] at fin
          exact fin _ rfl
        · rw [if_neg (show ¬ (x = 0 ∧ 3 ≤ ((t + 1 : Nat) : Int)) by omega)]
          rw [if_neg c2] at fin
          by_cases c3 : (x ≠ 0 ∧ 3 ≤ t + 1) ∧ 0 < i
          · have e4 : IntKind.i64.wrap ((i : Int) - 1) = ((i - 1 : Nat) : Int) := by rw [wr_i64 (by omega)]; omega
            rw [if_pos (show (x ≠ 0 ∧ 3 ≤ ((t + 1 : Nat) : Int)) ∧ 0 < (i : Int) by omega), e4, gd_pos (by omega)]
            simp only [Option.bind_some, decide_eq_true_eq]
            by_cases c4 : rd a ((i - 1 : Nat) : Int) = x
            · rw [if_pos c4]
              simp only [Option.bind_some]
              rw [if_pos ⟨c3.1.1, c3.1.2, c3.2, c4⟩] at fin
              exact fin _ rfl
            · rw [if_neg c4]
              simp only [Option.bind_some]
              rw [if_neg (fun h => c4 h.2.2.2)] at fin
              exact fin _ rfl
          · rw [if_neg (show ¬ ((x ≠ 0 ∧ 3 ≤ ((t + 1 : Nat) : Int)) ∧ 0 < (i : Int)) by omega)]
            simp only [Option.bind_some, Bool.false_eq_true, if_false]
            rw [if_neg (fun h => c3 ⟨⟨h.1, h.2.1⟩, h.2.2.1⟩)] at fin
            exact fin _ rfl
    · rw [header_Runs.l11, if_neg (by omega)]
      have : runsF (d + 1) a i = [] := by rw [runsF, if_neg c]
      rw [this, List.append_nil]
theorem header_Runs_spec (a : List Int) (h : a.length ≤ 1099511627776) : header_Runs.f a = some (if ∀ x ∈ a, okx x then (runsF a.length a 0, 0) else ([], 1)) := by
  rw [header_Runs.f, header_lengths_spec a (by omega)]
  simp only [Option.bind_some]
  by_cases c : ∀ x ∈ a, okx x
  · have key := header_Runs_loop a h a.length FU 0 [] (by omega) (by rw [FU_eq]; omega) (by omega) (by simp)
    rw [show ((0 : Nat) : Int) = 0 from rfl, List.nil_append] at key
    rw [if_neg (by simpa using c), key, if_pos c]
    rfl
  · rw [if_pos (by simpa using c), if_neg c]

theorem ref7_lengths_spec (a : List Int) (h : a.length ≤ 17592186044416) : valiseref7_lengths.f a = some (decide (∀ x ∈ a, okx x)) := by
  have key := list_loop1 a (by omega) (fun k i (_ : Unit) => valiseref7_lengths.l1 k i a) (fun i x _ => if okx x then .inr () else .inl (.inl false)) (fun s => .inr ())
    (fun k s => by rw [valiseref7_lengths.l1, if_neg (by omega)])
    (fun k i x s hx hi => by
      rw [valiseref7_lengths.l1, if_pos (by omega), gd_pos (by omega), rd_at hx]
      by_cases hb : okx x
      · simp only [if_pos hb]
        unfold okx at hb
        rw [if_neg (by omega), bnd_eq, inc_i (by omega)]
      · simp only [if_neg hb]
        unfold okx at hb
        rw [if_pos (by omega)]) ()
  have key' : valiseref7_lengths.l1 FU 0 a = _ := key
  rw [valiseref7_lengths.f, key']
  by_cases c : ∀ x ∈ a, okx x
  · rw [foldE_ok a 0 (fun j x hx => if_pos (c x (List.mem_of_getElem? hx)))]
    simp only [Option.bind_some, onR, decide_eq_true c]
  · rw [foldE_bad (bad := .inl false) a 0 (fun j x hx => by by_cases hb : okx x <;> simp [hb]) ?_]
    · simp [onR, c]
    · apply Classical.byContradiction
      intro hn
      apply c
      intro x hx
      apply Classical.byContradiction
      intro hb
      obtain ⟨j, hj⟩ := List.getElem?_of_mem hx
      exact hn ⟨j, x, hj, by rw [if_neg hb]; intro h3; cases h3⟩
theorem ref7_equals_loop (a : List Int) (h : a.length ≤ 17592186044416) (at_ : Nat) (ha : at_ < a.length) (d : Nat) : ∀ (k m : Nat), a.length - (at_ + m) ≤ d → d < k → m ≤ a.length →
    valiseref7_equals.l1 k (m : Int) a (at_ : Int) = some ((m + tw (rd a (at_ : Int)) (a.drop (at_ + m)) : Nat) : Int) := by
  induction d with
  | zero =>
    intro k m hd hk hm
    obtain ⟨k, rfl⟩ : ∃ q, k = q + 1 := ⟨k - 1, by omega⟩
    rw [valiseref7_equals.l1, wr_i64 (by omega), if_neg (by omega), tw_end (by omega)]
    rfl
  | succ d ih =>
    intro k m hd hk hm
    obtain ⟨k, rfl⟩ : ∃ q, k = q + 1 := ⟨k - 1, by omega⟩
    have e : IntKind.i64.wrap ((at_ : Int) + (m : Int)) = ((at_ + m : Nat) : Int) := by rw [wr_i64 (by omega)]; rfl
    rw [valiseref7_equals.l1, e]
    by_cases c : at_ + m < a.length
    · rw [if_pos (by omega), gd_pos (by omega), gd_pos (by omega), rd_at (List.getElem?_eq_getElem c), tw_drop c]
      simp only [Option.bind_some, decide_eq_true_eq]
      by_cases e2 : a[at_ + m] = rd a (at_ : Int)
      · rw [if_pos e2, if_pos e2, bnd_eq, inc_i (by omega), ih k (m + 1) (by omega) (by omega) (by omega)]
        rw [show at_ + (m + 1) = at_ + m + 1 by omega]
        congr 2; omega
      · rw [if_neg e2, if_neg e2]; rfl
    · rw [if_neg (by omega), tw_end (by omega)]; rfl
theorem ref7_run_spec (a : List Int) (h : a.length ≤ 17592186044416) (i : Nat) (c : i < a.length) : valiseref7_run.f a (i : Int) = some (runAt a i) := by
  have hl := ref7_equals_loop a h i c a.length FU 0 (by omega) (by rw [FU_eq]; omega) (by omega)
  have e0 : ((0 : Nat) : Int) = 0 := rfl
  have hh : tw (rd a (i : Int)) (a.drop (i + 0)) = tw (rd a (i : Int)) (a.drop (i + 1)) + 1 := by
    rw [Nat.add_zero, tw_drop c, if_pos (rd_at (List.getElem?_eq_getElem c)).symm]
  rw [e0, hh, Nat.zero_add] at hl
  have ht := tw_le (rd a (i : Int)) (a.drop (i + 1))
  have lm : ∀ p q : Int, valiseref7_lesser.f p q = some (min p q) := by
    intro p q
    unfold valiseref7_lesser.f
    by_cases c : p < q
    · rw [if_pos c, Int.min_eq_left (by omega)]
    · rw [if_neg c, Int.min_eq_right (by omega)]
  rw [valiseref7_run.f, gd_pos (by omega), bnd_eq, valiseref7_equals.f, hl]
  simp only [Option.bind_some, lm]
  unfold runAt
  simp only
  generalize rd a (i : Int) = x at *
  generalize htt : tw x (a.drop (i + 1)) = t at *
  by_cases c1 : x = 0 ∧ 11 ≤ t + 1
  · rw [if_pos (show x = 0 ∧ 11 ≤ ((t + 1 : Nat) : Int) by omega), if_pos c1]
  · rw [if_neg (show ¬ (x = 0 ∧ 11 ≤ ((t + 1 : Nat) : Int)) by omega), if_neg c1]
    by_cases c2 : x = 0 ∧ 3 ≤ t + 1
    · rw [if_pos (show x = 0 ∧ 3 ≤ ((t + 1 : Nat) : Int) by omega), if_pos c2]
    · rw [if_neg (show ¬ (x = 0 ∧ 3 ≤ ((t + 1 : Nat) : Int)) by omega), if_neg c2]
      by_cases c3 : x ≠ 0 ∧ 0 < i
      · have e4 : IntKind.i64.wrap ((i : Int) - 1) = ((i - 1 : Nat) : Int) := by rw [wr_i64 (by omega)]; omega
        rw [if_pos (show x ≠ 0 ∧ 0 < (i : Int) by omega), e4, gd_pos (by omega)]
        simp only [Option.bind_some, decide_eq_true_eq]
        by_cases c4 : rd a ((i - 1 : Nat) : Int) = x ∧ 3 ≤ t + 1
        · rw [if_pos ⟨c4.1, by omega⟩, if_pos ⟨c3.1, c4.2, c3.2, c4.1⟩]
        · rw [if_neg (by omega), if_neg (by omega)]
      · rw [if_neg (show ¬ (x ≠ 0 ∧ 0 < (i : Int)) by omega)]
        simp only [Option.bind_some, Bool.false_eq_true, false_and, if_false]
        rw [if_neg (by omega)]
theorem ref7_Runs_loop (a : List Int) (h : a.length ≤ 1099511627776) (d : Nat) : ∀ (k i : Nat) (acc : List (Int × Int)), a.length - i ≤ d → d < k → i ≤ a.length → acc.length ≤ i →
    valiseref7_Runs.l1 k acc (i : Int) a = some (acc ++ runsF d a i) := by
  induction d with
  | zero =>
    intro k i acc hd hk hi hacc
    obtain ⟨k, rfl⟩ : ∃ q, k = q + 1 := ⟨k - 1, by omega⟩
    rw [valiseref7_Runs.l1, if_neg (by omega)]; simp [runsF]
  | succ d ih =>
    intro k i acc hd hk hi hacc
    obtain ⟨k, rfl⟩ : ∃ q, k = q + 1 := ⟨k - 1, by omega⟩
    by_cases c : i < a.length
    · have hr := runAt_count c
      have er : runsF (d + 1) a i = runAt a i :: runsF d a (i + (runAt a i).2.toNat) := by rw [runsF, if_pos c]
      have e2 : IntKind.i64.wrap ((i : Int) + (runAt a i).2) = ((i + (runAt a i).2.toNat : Nat) : Int) := by rw [wr_i64 (by omega)]; omega
      rw [valiseref7_Runs.l1, if_pos (by omega), ref7_run_spec a (by omega) i c]
      simp only [Option.bind_some]
      rw [bnd_eq, gd_pos (by simp; omega), bnd_eq, e2, ih k _ _ (by omega) (by omega) (by omega) (by simp; omega), er]
      simp
    · rw [valiseref7_Runs.l1, if_neg (by omega)]
      have : runsF (d + 1) a i = [] := by rw [runsF, if_neg c]
      rw [this, List.append_nil]
theorem ref7_Runs_spec (a : List Int) (h : a.length ≤ 1099511627776) : valiseref7_Runs.f a = some (if ∀ x ∈ a, okx x then (runsF a.length a 0, 0) else ([], 1)) := by
  rw [valiseref7_Runs.f, ref7_lengths_spec a (by omega)]
  simp only [Option.bind_some]
  by_cases c : ∀ x ∈ a, okx x
  · have key := ref7_Runs_loop a h a.length FU 0 [] (by omega) (by rw [FU_eq]; omega) (by omega) (by simp)
    rw [show ((0 : Nat) : Int) = 0 from rfl, List.nil_append] at key
    rw [if_neg (by simpa using c), key, if_pos c]
    rfl
  · rw [if_pos (by simpa using c), if_neg c]

theorem valiselaw7_equal_spec (a b : List Int) (h : a.length < 4611686018427387904) : valiselaw7_equal.f a b = some (decide (a = b)) := by
  unfold valiselaw7_equal.f
  by_cases hl : a.length = b.length
  · rw [if_neg (by omega)]
    have key := list_loop1 a (by omega) (fun k i (_ : Unit) => valiselaw7_equal.l1 k i a b) (fun i x _ => if rd b (i : Int) = x then .inr () else .inl (.inl false)) (fun _ => .inr ())
      (fun k _ => by rw [valiselaw7_equal.l1, if_neg (by omega)])
      (fun k i x _ hx hi => by
        have e1 : rd a (i : Int) = x := rd_at hx
        rw [valiselaw7_equal.l1, if_pos (by omega), gd_pos (by omega), gd_pos (by omega), e1]
        by_cases e : rd b (i : Int) = x
        · simp only [if_pos e]
          rw [if_neg (fun e' => e' e.symm), bnd_eq, inc_i (by omega)]
        · simp only [if_neg e]
          rw [if_pos (fun e' => e e'.symm)]) ()
    rw [show valiselaw7_equal.l1 FU 0 a b = _ from key]
    by_cases e : a = b
    · rw [foldE_ok a 0 (fun j x hx => by rw [if_pos ((all_eq hl).2 e j x hx)])]
      simp [onR, e]
    · rw [foldE_bad (bad := .inl false) a 0 (fun j x hx => by
        by_cases e2 : rd b ((0 + j : Nat) : Int) = x
        · left; rw [if_pos e2]
        · right; rw [if_neg e2]) ?_]
      · simp [onR, e]
      · apply Classical.byContradiction
        intro hn
        apply e
        rw [← all_eq hl]
        intro j x hx
        apply Classical.byContradiction
        intro h2
        exact hn ⟨j, x, hx, by rw [if_neg h2]; intro h3; cases h3⟩
  · rw [if_pos (by omega)]
    simp
    intro e
    exact hl (by rw [e])

theorem valiselaw7_alike_loop (a : List (Int×Int)) (h : a.length < 4611686018427387904) (d : Nat) : ∀ (k i : Nat), i + d = a.length → d < k → valiselaw7_alike.l1 k (i : Int) a a = some (.inr ()) := by
  induction d with
  | zero =>
    intro k i hi hk
    obtain ⟨k, rfl⟩ : ∃ q, k = q + 1 := ⟨k - 1, by omega⟩
    rw [valiselaw7_alike.l1, if_neg (by omega)]
  | succ d ih =>
    intro k i hi hk
    obtain ⟨k, rfl⟩ : ∃ q, k = q + 1 := ⟨k - 1, by omega⟩
    rw [valiselaw7_alike.l1, if_pos (by omega), gd_pos (by omega), gd_pos (by omega)]
    simp only [and_self, not_true_eq_false, if_false, bnd_eq]
    rw [inc_i (by omega)]
    exact ih k (i + 1) (by omega) (by omega)
theorem valiselaw7_alike_self (a : List (Int×Int)) (h : a.length < 4611686018427387904) : valiselaw7_alike.f a a = some true := by
  have key := valiselaw7_alike_loop a h a.length FU 0 (by omega) (by rw [FU_eq]; omega)
  rw [show ((0 : Nat) : Int) = 0 from rfl] at key
  rw [valiselaw7_alike.f, if_neg (by simp), key]
  rfl


theorem valiselaw7_HeaderRuns_true (a : List Int) (ha : ∀ x ∈ a, (Lit.int .i64 x).wf = true) (ua : a.length ≤ 1048576) : valiselaw7_HeaderRuns.f a = some true := by
  have hr := runsF_length a.length a 0
  rw [valiselaw7_HeaderRuns.f, roomy_spec a (by omega)]
  simp only [Option.bind_some]
  rw [List.take_left, header_Runs_spec a (by omega), ref7_Runs_spec a (by omega)]
  simp only [Option.bind_some, if_true]
  rw [valiselaw7_equal_spec a a (by omega), spared_spec a (by omega), valiselaw7_alike_self _ (by split <;> simp <;> omega)]
  simp
end Go.V.Pu
