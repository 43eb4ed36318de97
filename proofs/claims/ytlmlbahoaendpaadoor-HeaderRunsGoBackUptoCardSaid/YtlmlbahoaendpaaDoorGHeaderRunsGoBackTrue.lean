/- The plain law: Expand of Runs is the list, its runs are of the table. -/
import Derived.Test.YtlmlbahoaendpaaDoorGHeaderRunsGoBackPure
import Derived.Test.YtlmlbahoaendpaaDoorQ8
set_option linter.unusedVariables false
set_option linter.unusedSimpArgs false
namespace Go.V.Pu
open Go Go.V

theorem header_lengths_spec (a : List Int) (h : a.length ≤ 17592186044416) : header_lengths.f a = some (decide (∀ x ∈ a, okx x)) := by
  have key := list_loop1 a (by omega) (fun k i (_ : Unit) => header_lengths.l1 k i a) (fun i x _ => if okx x then .inr () else .inl (.inl false)) (fun s => .inr ())
    (fun k s => by rw [header_lengths.l1, if_neg (by omega)])
    (fun k i x s hx hi => by
      rw [header_lengths.l1, if_pos (by omega), gd_pos (by omega), rd_at hx, bnd_eq]
      by_cases hb : okx x
      · simp only [if_pos hb]
        unfold okx at hb
        rw [if_neg (by omega), inc_i (by omega)]
      · simp only [if_neg hb]
        unfold okx at hb
        rw [if_pos (by omega)]) ()
  have key' : header_lengths.l1 FU 0 a = _ := key
  rw [header_lengths.f, key']
  by_cases c : ∀ x ∈ a, okx x
  · rw [foldE_ok a 0 (fun j x hx => if_pos (c x (List.mem_of_getElem? hx)))]
    simp only [Option.bind_some, onR, decide_eq_true c]
  · rw [foldE_bad (bad := .inl false) a 0 (fun j x hx => by by_cases hb : okx x <;> simp [hb]) ?_]
    · simp [onR, c]
    · apply Classical.byContradiction
      intro hn
      apply c
      intro x hx
      apply Classical.byContradiction
      intro hb
      obtain ⟨j, hj⟩ := List.getElem?_of_mem hx
      exact hn ⟨j, x, hj, by rw [if_neg hb]; intro h3; cases h3⟩
theorem runs_l13 (a : List Int) (h : a.length ≤ 17592186044416) (at_ : Nat) (ha : at_ ≤ a.length) (x : Int) (d : Nat) : ∀ (k m : Nat), a.length - (at_ + m) ≤ d → d < k → m ≤ a.length →
    header_Runs.l13 k (m : Int) a (at_ : Int) x = some ((m + tw x (a.drop (at_ + m)) : Nat) : Int) := by
  induction d with
  | zero =>
    intro k m hd hk hm
    obtain ⟨k, rfl⟩ : ∃ q, k = q + 1 := ⟨k - 1, by omega⟩
    rw [header_Runs.l13, wr_i64 (by omega), if_neg (by omega), tw_end (by omega)]
    rfl
  | succ d ih =>
    intro k m hd hk hm
    obtain ⟨k, rfl⟩ : ∃ q, k = q + 1 := ⟨k - 1, by omega⟩
    have e : IntKind.i64.wrap ((at_ : Int) + (m : Int)) = ((at_ + m : Nat) : Int) := by rw [wr_i64 (by omega)]; rfl
    rw [header_Runs.l13, e]
    by_cases c : at_ + m < a.length
    · rw [if_pos (by omega), gd_pos (by omega), rd_at (List.getElem?_eq_getElem c), tw_drop c]
      simp only [Option.bind_some, decide_eq_true_eq]
      by_cases e2 : a[at_ + m] = x
      · rw [if_pos e2, if_pos e2, bnd_eq, inc_i (by omega), ih k (m + 1) (by omega) (by omega) (by omega)]
        rw [show at_ + (m + 1) = at_ + m + 1 by omega]
        congr 2; omega
      · rw [if_neg e2, if_neg e2]; rfl
    · rw [if_neg (by omega), tw_end (by omega)]; rfl
theorem header_Runs_loop (a : List Int) (h : a.length ≤ 1099511627776) (d : Nat) : ∀ (k i : Nat) (acc : List (Int × Int)), a.length - i ≤ d → d < k → i ≤ a.length → acc.length ≤ i →
    header_Runs.l11 k acc (i : Int) a = some (acc ++ runsF d a i) := by
  induction d with
  | zero =>
    intro k i acc hd hk hi hacc
    obtain ⟨k, rfl⟩ : ∃ q, k = q + 1 := ⟨k - 1, by omega⟩
    rw [header_Runs.l11, if_neg (by omega)]; simp [runsF]
  | succ d ih =>
    intro k i acc hd hk hi hacc
    obtain ⟨k, rfl⟩ : ∃ q, k = q + 1 := ⟨k - 1, by omega⟩
    by_cases c : i < a.length
    · have hr := runAt_count c
      have hl := runs_l13 a (by omega) i hi (rd a (i : Int)) a.length FU 1 (by omega) (by rw [FU_eq]; omega) (by omega)
      have e1 : ((1 : Nat) : Int) = 1 := rfl
      rw [e1] at hl
      have ht := tw_le (rd a (i : Int)) (a.drop (i + 1))
      rw [header_Runs.l11, if_pos (by omega), gd_pos (by omega), bnd_eq, hl]
      simp only [Option.bind_some]
      have er : runsF (d + 1) a i = runAt a i :: runsF d a (i + (runAt a i).2.toNat) := by rw [runsF, if_pos c]
      have fin : ∀ p : Int × Int, p = runAt a i → (bnd (acc ++ [(p.1, p.2)]) fun l1174 => gd ((l1174.length : Int) * 16 ≤ 140737488355328) (bnd (IntKind.i64.wrap ((i : Int) + p.2)) fun x1179 => header_Runs.l11 k l1174 x1179 a)) = some (acc ++ runsF (d + 1) a i) := by
        rintro p rfl
        have e2 : IntKind.i64.wrap ((i : Int) + (runAt a i).2) = ((i + (runAt a i).2.toNat : Nat) : Int) := by rw [wr_i64 (by omega)]; omega
        rw [bnd_eq, gd_pos (by simp; omega), bnd_eq, e2, ih k _ _ (by omega) (by omega) (by omega) (by simp; omega), er]
        simp
      unfold runAt at fin
      simp only at fin
      generalize rd a (i : Int) = x at *
      generalize htt : tw x (a.drop (i + 1)) = t at *
      have e3 : ((1 + t : Nat) : Int) = ((t + 1 : Nat) : Int) := by omega
      rw [e3]
      by_cases c1 : x = 0 ∧ 11 ≤ t + 1
      · rw [if_pos (show x = 0 ∧ 11 ≤ ((t + 1 : Nat) : Int) by omega)]
        simp only [Option.bind_some]
        rw [if_pos c1] at fin
        exact fin _ rfl
      · rw [if_neg (show ¬ (x = 0 ∧ 11 ≤ ((t + 1 : Nat) : Int)) by omega)]
        rw [if_neg c1] at fin
        by_cases c2 : x = 0 ∧ 3 ≤ t + 1
        · rw [if_pos (show x = 0 ∧ 3 ≤ ((t + 1 : Nat) : Int) by omega)]
          simp only [Option.bind_some]
          rw [if_pos c2] at fin
          exact fin _ rfl
        · rw [if_neg (show ¬ (x = 0 ∧ 3 ≤ ((t + 1 : Nat) : Int)) by omega)]
          rw [if_neg c2] at fin
          by_cases c3 : (x ≠ 0 ∧ 3 ≤ t + 1) ∧ 0 < i
          · have e4 : IntKind.i64.wrap ((i : Int) - 1) = ((i - 1 : Nat) : Int) := by rw [wr_i64 (by omega)]; omega
            rw [if_pos (show (x ≠ 0 ∧ 3 ≤ ((t + 1 : Nat) : Int)) ∧ 0 < (i : Int) by omega), e4, gd_pos (by omega)]
            simp only [Option.bind_some, decide_eq_true_eq]
            by_cases c4 : rd a ((i - 1 : Nat) : Int) = x
            · rw [if_pos c4]
              simp only [Option.bind_some]
              rw [if_pos ⟨c3.1.1, c3.1.2, c3.2, c4⟩] at fin
              exact fin _ rfl
            · rw [if_neg c4]
              simp only [Option.bind_some]
              rw [if_neg (fun h => c4 h.2.2.2)] at fin
              exact fin _ rfl
          · rw [if_neg (show ¬ ((x ≠ 0 ∧ 3 ≤ ((t + 1 : Nat) : Int)) ∧ 0 < (i : Int)) by omega)]
            simp only [Option.bind_some, Bool.false_eq_true, if_false]
            rw [if_neg (fun h => c3 ⟨⟨h.1, h.2.1⟩, h.2.2.1⟩)] at fin
            exact fin _ rfl
    · rw [header_Runs.l11, if_neg (by omega)]
      have : runsF (d + 1) a i = [] := by rw [runsF, if_neg c]
      rw [this, List.append_nil]
theorem header_Runs_spec (a : List Int) (h : a.length ≤ 1099511627776) : header_Runs.f a = some (if ∀ x ∈ a, okx x then (runsF a.length a 0, 0) else ([], 1)) := by
  rw [header_Runs.f, header_lengths_spec a (by omega)]
  simp only [Option.bind_some]
  by_cases c : ∀ x ∈ a, okx x
  · have key := header_Runs_loop a h a.length FU 0 [] (by omega) (by rw [FU_eq]; omega) (by omega) (by simp)
    rw [show ((0 : Nat) : Int) = 0 from rfl, List.nil_append] at key
    rw [if_neg (by simpa using c), key, if_pos c]
    rfl
  · rw [if_pos (by simpa using c), if_neg c]

theorem lay_loop (v : Int) (d : Nat) : ∀ (k c : Nat) (l : List Int) (n : Int), n = ((c + d : Nat) : Int) → d < k → l.length + d ≤ 1099511627776 → c + d ≤ 1000 → header_lay.l1 k l (c : Int) n v = some (l ++ List.replicate d v) := by
  induction d with
  | zero =>
    intro k c l n hn hk hl hc
    obtain ⟨k, rfl⟩ : ∃ q, k = q + 1 := ⟨k - 1, by omega⟩
    rw [header_lay.l1, if_neg (by omega)]; simp
  | succ d ih =>
    intro k c l n hn hk hl hc
    obtain ⟨k, rfl⟩ : ∃ q, k = q + 1 := ⟨k - 1, by omega⟩
    rw [header_lay.l1, if_pos (by omega), bnd_eq, gd_pos (by simp; omega), inc_i (by omega), ih k (c + 1) (l ++ [v]) n (by omega) (by omega) (by simp; omega) (by omega)]
    simp [List.replicate_succ]
theorem header_lay_spec (l : List Int) (s c : Int) (hl : l.length ≤ 1073741824) (h0 : 0 ≤ c) (hc : c ≤ 1000) (h16 : s = 16 → l ≠ []) : header_lay.f l s c = some (layR l (s, c)) := by
  have key := lay_loop (runV l s) c.toNat FU 0 l c (by omega) (by rw [FU_eq]; omega) (by omega) (by omega)
  rw [show ((0 : Nat) : Int) = 0 from rfl] at key
  rw [header_lay.f]
  have hv : (if s = 16 then (gd ((0 : Int) ≤ (IntKind.i64.wrap ((l.length : Int) - 1)) ∧ (IntKind.i64.wrap ((l.length : Int) - 1)) < (l.length : Int)) (bnd (rd l (IntKind.i64.wrap ((l.length : Int) - 1))) fun x23 => some x23)) else ((if s = 17 then (some (decide (s = 17))) else (some (decide (s = 18)))).bind fun t27 => if t27 = true then (some 0) else (some s)) : Option Int) = some (runV l s) := by
    unfold runV
    by_cases a : s = 16
    · have hp : 0 < l.length := List.length_pos_iff.2 (h16 a)
      rw [if_pos a, if_pos a, wr_i64 (by omega), gd_pos (by omega), bnd_eq]
      congr 2; omega
    · rw [if_neg a, if_neg a]
      by_cases b : s = 17
      · rw [if_pos b]; simp [b]
      · rw [if_neg b]
        by_cases c : s = 18
        · simp [c]
        · simp [b, c]
  rw [hv]
  simp only [Option.bind_some]
  rw [key]
  rfl
theorem rd_least (s : Int) (h0 : 0 ≤ s) (h1 : s ≤ 18) : rd T_header_least s = leastS s := by
  have : ∀ n : Nat, n < 19 → rd T_header_least (n : Int) = leastS (n : Int) := by decide
  have := this s.toNat (by omega)
  rwa [Int.toNat_of_nonneg h0] at this
theorem rd_further (s : Int) (h0 : 0 ≤ s) (h1 : s ≤ 18) : rd T_header_further s = (furtherS s : Int) := by
  have : ∀ n : Nat, n < 19 → rd T_header_further (n : Int) = (furtherS (n : Int) : Int) := by decide
  have := this s.toNat (by omega)
  rwa [Int.toNat_of_nonneg h0] at this
theorem header_Expand_loop (rs : List (Int × Int)) (hw : ∀ r ∈ rs, -9223372036854775808 ≤ r.2 ∧ r.2 ≤ 9223372036854775807) (hn : rs.length ≤ 1048576) (d : Nat) : ∀ (k i : Nat) (l : List Int), i + d = rs.length → d < k → l.length ≤ 138 * i →
    header_Expand.l1 k l (i : Int) rs = some (match expF (rs.drop i) l with | .inl e => .inl ([], e) | .inr l => .inr l) := by
  induction d with
  | zero =>
    intro k i l hi hk hl
    obtain ⟨k, rfl⟩ : ∃ q, k = q + 1 := ⟨k - 1, by omega⟩
    rw [header_Expand.l1, if_neg (by omega), List.drop_eq_nil_of_le (by omega)]; rfl
  | succ d ih =>
    intro k i l hi hk hl
    obtain ⟨k, rfl⟩ : ∃ q, k = q + 1 := ⟨k - 1, by omega⟩
    have hx : rs[i]? = some rs[i] := List.getElem?_eq_getElem (by omega)
    have hwr := hw _ (List.getElem_mem (show i < rs.length by omega))
    rw [header_Expand.l1, if_pos (by omega), gd_pos (by omega), rdx_at' hx, drop_cons hx]
    generalize rs[i] = r at *
    by_cases c0 : r.1 < 0 ∨ 19 ≤ r.1
    · have hno : ¬ okRun r := by unfold okRun; omega
      rw [if_pos c0]
      simp only [Option.bind_some, if_true, expF, if_neg hno]
    · have hf := furtherS_le r.1
      have hle := leastS_pos r.1
      rw [if_neg c0, gd_pos (by omega), rd_least _ (by omega) (by omega), rd_further _ (by omega) (by omega)]
      simp only [Option.bind_some, decide_eq_true_eq]
      by_cases c1 : r.2 < leastS r.1
      · have hno : ¬ okRun r := by unfold okRun; omega
        rw [if_pos c1]
        simp only [Option.bind_some, if_true, expF, if_neg hno]
      · rw [if_neg c1, gd_pos (by omega), gd_pos (by omega), shl_one _ (by omega), wr_i64 (by omega)]
        simp only [Option.bind_some, decide_eq_true_eq]
        have hm := mostS_eq r.1
        by_cases c2 : ((2 ^ furtherS r.1 : Nat) : Int) ≤ r.2 - leastS r.1
        · have hno : ¬ okRun r := by unfold okRun; omega
          rw [if_pos c2]
          simp only [expF, if_neg hno]
        · have hok : okRun r := by unfold okRun; omega
          have hcnt := okRun_count hok
          rw [if_neg c2]
          simp only [expF, if_pos hok]
          by_cases c3 : r.1 = 16 ∧ l = []
          · rw [if_pos ⟨c3.1, by rw [c3.2]; rfl⟩, if_pos c3]
          · have c3' : ¬ (r.1 = 16 ∧ (l.length : Int) = 0) := fun h => c3 ⟨h.1, List.length_eq_zero_iff.1 (by omega)⟩
            rw [if_neg c3', if_neg c3, header_lay_spec l r.1 r.2 (by omega) (by omega) (by omega) (fun e e2 => c3 ⟨e, e2⟩)]
            simp only [Option.bind_some]
            rw [inc_i (by omega)]
            exact ih k (i + 1) _ (by omega) (by omega) (by rw [layR_length]; simp only; omega)
theorem header_Expand_spec (rs : List (Int × Int)) (hw : ∀ r ∈ rs, -9223372036854775808 ≤ r.2 ∧ r.2 ≤ 9223372036854775807) (hn : rs.length ≤ 1048576) : header_Expand.f rs = some (match expF rs [] with | .inl e => ([], e) | .inr l => (l, 0)) := by
  have key := header_Expand_loop rs hw hn rs.length FU 0 [] (by omega) (by rw [FU_eq]; omega) (by simp)
  rw [show ((0 : Nat) : Int) = 0 from rfl, List.drop_zero] at key
  rw [header_Expand.f, key]
  cases expF rs [] <;> rfl

theorem valiselaw7_equal_spec (a b : List Int) (h : a.length < 4611686018427387904) : valiselaw7_equal.f a b = some (decide (a = b)) := by
  unfold valiselaw7_equal.f
  by_cases hl : a.length = b.length
  · rw [if_neg (by omega)]
    have key := list_loop1 a (by omega) (fun k i (_ : Unit) => valiselaw7_equal.l1 k i a b) (fun i x _ => if rd b (i : Int) = x then .inr () else .inl (.inl false)) (fun _ => .inr ())
      (fun k _ => by rw [valiselaw7_equal.l1, if_neg (by omega)])
      (fun k i x _ hx hi => by
        have e1 : rd a (i : Int) = x := rd_at hx
        rw [valiselaw7_equal.l1, if_pos (by omega), gd_pos (by omega), gd_pos (by omega), e1]
        by_cases e : rd b (i : Int) = x
        · simp only [if_pos e]
          rw [if_neg (fun e' => e' e.symm), bnd_eq, inc_i (by omega)]
        · simp only [if_neg e]
          rw [if_pos (fun e' => e e'.symm)]) ()
    rw [show valiselaw7_equal.l1 FU 0 a b = _ from key]
    by_cases e : a = b
    · rw [foldE_ok a 0 (fun j x hx => by rw [if_pos ((all_eq hl).2 e j x hx)])]
      simp [onR, e]
    · rw [foldE_bad (bad := .inl false) a 0 (fun j x hx => by
        by_cases e2 : rd b ((0 + j : Nat) : Int) = x
        · left; rw [if_pos e2]
        · right; rw [if_neg e2]) ?_]
      · simp [onR, e]
      · apply Classical.byContradiction
        intro hn
        apply e
        rw [← all_eq hl]
        intro j x hx
        apply Classical.byContradiction
        intro h2
        exact hn ⟨j, x, hx, by rw [if_neg h2]; intro h3; cases h3⟩
  · rw [if_pos (by omega)]
    simp
    intro e
    exact hl (by rw [e])


theorem within_spec (a : List Int) (h : a.length ≤ 17592186044416) : valiselaw7_within.f a = some (decide (∀ x ∈ a, okx x)) := by
  have key := list_loop1 a (by omega) (fun k i (_ : Unit) => valiselaw7_within.l1 k i a) (fun i x _ => if okx x then .inr () else .inl (.inl false)) (fun s => .inr ())
    (fun k s => by rw [valiselaw7_within.l1, if_neg (by omega)])
    (fun k i x s hx hi => by
      rw [valiselaw7_within.l1, if_pos (by omega), gd_pos (by omega), rd_at hx]
      by_cases hb : okx x
      · simp only [if_pos hb]
        unfold okx at hb
        rw [if_neg (by omega), bnd_eq, inc_i (by omega)]
      · simp only [if_neg hb]
        unfold okx at hb
        rw [if_pos (by omega)]) ()
  have key' : valiselaw7_within.l1 FU 0 a = _ := key
  rw [valiselaw7_within.f, key']
  by_cases c : ∀ x ∈ a, okx x
  · rw [foldE_ok a 0 (fun j x hx => if_pos (c x (List.mem_of_getElem? hx)))]
    simp only [Option.bind_some, onR, decide_eq_true c]
  · rw [foldE_bad (bad := .inl false) a 0 (fun j x hx => by by_cases hb : okx x <;> simp [hb]) ?_]
    · simp [onR, c]
    · apply Classical.byContradiction
      intro hn
      apply c
      intro x hx
      apply Classical.byContradiction
      intro hb
      obtain ⟨j, hj⟩ := List.getElem?_of_mem hx
      exact hn ⟨j, x, hj, by rw [if_neg hb]; intro h3; cases h3⟩
theorem ints7_spec (a : List Int) (h : a.length ≤ 35184372088832) : valiselaw7_ints.f a = some a := by
  have hc : cpy (List.replicate ((a.length : Int)).toNat (0 : Int)) a = a := by
    unfold cpy
    rw [List.length_replicate, Int.toNat_natCast, List.take_length, List.drop_eq_nil_of_le (by simp), List.append_nil]
  rw [valiselaw7_ints.f, gd_pos (by omega), bnd_eq, bnd_eq, hc]
theorem further7_spec (s : Int) : valiselaw7_further.f s = some ((furtherS s : Int), leastS s, mostS s) := by
  unfold valiselaw7_further.f furtherS leastS mostS
  by_cases a : s = 16
  · subst a; rfl
  · rw [if_neg a]
    by_cases b : s = 17
    · subst b; rfl
    · rw [if_neg b]
      by_cases c : s = 18
      · subst c; rfl
      · rw [if_neg c, if_neg c, if_neg c, if_neg c, if_neg b, if_neg b, if_neg a, if_neg a, if_neg (by omega)]; rfl
theorem goback_loop (rs : List (Int × Int)) (ho : ∀ r ∈ rs, okRun r) (hn : rs.length ≤ 1048576) (d : Nat) : ∀ (k i : Nat), i + d = rs.length → d < k → valiselaw7_HeaderRunsGoBack.l1 k (i : Int) rs = some (.inr ()) := by
  induction d with
  | zero =>
    intro k i hi hk
    obtain ⟨k, rfl⟩ : ∃ q, k = q + 1 := ⟨k - 1, by omega⟩
    rw [valiselaw7_HeaderRunsGoBack.l1, if_neg (by omega)]
  | succ d ih =>
    intro k i hi hk
    obtain ⟨k, rfl⟩ : ∃ q, k = q + 1 := ⟨k - 1, by omega⟩
    have hx : rs[i]? = some rs[i] := List.getElem?_eq_getElem (by omega)
    have hok := ho _ (List.getElem_mem (show i < rs.length by omega))
    unfold okRun at hok
    rw [valiselaw7_HeaderRunsGoBack.l1, if_pos (by omega), gd_pos (by omega), rdx_at' hx, further7_spec]
    simp only [Option.bind_some]
    rw [if_neg (by omega), bnd_eq, inc_i (by omega)]
    exact ih k (i + 1) (by omega) (by omega)
theorem valiselaw7_HeaderRunsGoBack_true (a : List Int) (ha : ∀ x ∈ a, (Lit.int .i64 x).wf = true) (ua : a.length ≤ 1048576) : valiselaw7_HeaderRunsGoBack.f a = some true := by
  have hr := runsF_length a.length a 0
  rw [valiselaw7_HeaderRunsGoBack.f, ints7_spec a (by omega)]
  simp only [Option.bind_some]
  rw [header_Runs_spec a (by omega), within_spec a (by omega)]
  simp only [Option.bind_some]
  by_cases c : ∀ x ∈ a, okx x
  · have hok := runsF_ok c a.length 0
    have key := goback_loop _ hok (by omega) (runsF a.length a 0).length FU 0 (by omega) (by rw [FU_eq]; omega)
    rw [show ((0 : Nat) : Int) = 0 from rfl] at key
    have hex := expF_runs c a.length 0 (by omega) (by omega)
    rw [List.take_zero] at hex
    rw [if_pos c]
    simp only [decide_eq_true c, Bool.not_true, Bool.false_eq_true, if_false]
    rw [if_neg (by omega), key]
    simp only [Option.bind_some, onR]
    rw [header_Expand_spec _ (fun r hr => by have := okRun_count (hok r hr); omega) (by omega), hex]
    simp only [Option.bind_some, if_true]
    rw [valiselaw7_equal_spec a a (by omega)]
    simp
  · rw [if_neg c]
    simp [c]
end Go.V.Pu
