/- The plain law: every Expand of the program is the document's. -/
import Derived.Test.YteckboojmmeecaaDoorGHeaderExpandsPure
import Derived.Test.YteckboojmmeecaaDoorQ8
set_option linter.unusedVariables false
set_option linter.unusedSimpArgs false
namespace Go.V.Pu
open Go Go.V

theorem lay_loop (v : Int) (d : Nat) : ∀ (k c : Nat) (l : List Int) (n : Int), n = ((c + d : Nat) : Int) → d < k → l.length + d ≤ 1099511627776 → c + d ≤ 1000 → header_lay.l1 k l (c : Int) n v = some (l ++ List.replicate d v) := by
  induction d with
  | zero =>
    intro k c l n hn hk hl hc
    obtain ⟨k, rfl⟩ : ∃ q, k = q + 1 := ⟨k - 1, by omega⟩
    rw [header_lay.l1, if_neg (by omega)]; simp
  | succ d ih =>
    intro k c l n hn hk hl hc
    obtain ⟨k, rfl⟩ : ∃ q, k = q + 1 := ⟨k - 1, by omega⟩
    rw [header_lay.l1, if_pos (by omega), bnd_eq, gd_pos (by simp; omega), inc_i (by omega), ih k (c + 1) (l ++ [v]) n (by omega) (by omega) (by simp; omega) (by omega)]
    simp [List.replicate_succ]
theorem header_lay_spec (l : List Int) (s c : Int) (hl : l.length ≤ 1073741824) (h0 : 0 ≤ c) (hc : c ≤ 1000) (h16 : s = 16 → l ≠ []) : header_lay.f l s c = some (layR l (s, c)) := by
  have key := lay_loop (runV l s) c.toNat FU 0 l c (by omega) (by rw [FU_eq]; omega) (by omega) (by omega)
  rw [show ((0 : Nat) : Int) = 0 from rfl] at key
  rw [header_lay.f]
  have hv : (if s = 16 then (gd ((0 : Int) ≤ (IntKind.i64.wrap ((l.length : Int) - 1)) ∧ (IntKind.i64.wrap ((l.length : Int) - 1)) < (l.length : Int)) (bnd (rd l (IntKind.i64.wrap ((l.length : Int) - 1))) fun x23 => some x23)) else ((if s = 17 then (some (decide (s = 17))) else (some (decide (s = 18)))).bind fun t27 => if t27 = true then (some 0) else (some s)) : Option Int) = some (runV l s) := by
    unfold runV
    by_cases a : s = 16
    · have hp : 0 < l.length := List.length_pos_iff.2 (h16 a)
      rw [if_pos a, if_pos a, wr_i64 (by omega), gd_pos (by omega), bnd_eq]
      congr 2; omega
    · rw [if_neg a, if_neg a]
      by_cases b : s = 17
      · rw [if_pos b]; simp [b]
      · rw [if_neg b]
        by_cases c : s = 18
        · simp [c]
        · simp [b, c]
  rw [hv]
  simp only [Option.bind_some]
  rw [key]
  rfl
theorem rd_least (s : Int) (h0 : 0 ≤ s) (h1 : s ≤ 18) : rd T_header_least s = leastS s := by
  have : ∀ n : Nat, n < 19 → rd T_header_least (n : Int) = leastS (n : Int) := by decide
  have := this s.toNat (by omega)
  rwa [Int.toNat_of_nonneg h0] at this
theorem rd_further (s : Int) (h0 : 0 ≤ s) (h1 : s ≤ 18) : rd T_header_further s = (furtherS s : Int) := by
  have : ∀ n : Nat, n < 19 → rd T_header_further (n : Int) = (furtherS (n : Int) : Int) := by decide
  have := this s.toNat (by omega)
  rwa [Int.toNat_of_nonneg h0] at this
theorem header_Expand_loop (rs : List (Int × Int)) (hw : ∀ r ∈ rs, -9223372036854775808 ≤ r.2 ∧ r.2 ≤ 9223372036854775807) (hn : rs.length ≤ 1048576) (d : Nat) : ∀ (k i : Nat) (l : List Int), i + d = rs.length → d < k → l.length ≤ 138 * i →
    header_Expand.l1 k l (i : Int) rs = some (match expF (rs.drop i) l with | .inl e => .inl ([], e) | .inr l => .inr l) := by
  induction d with
  | zero =>
    intro k i l hi hk hl
    obtain ⟨k, rfl⟩ : ∃ q, k = q + 1 := ⟨k - 1, by omega⟩
    rw [header_Expand.l1, if_neg (by omega), List.drop_eq_nil_of_le (by omega)]; rfl
  | succ d ih =>
    intro k i l hi hk hl
    obtain ⟨k, rfl⟩ : ∃ q, k = q + 1 := ⟨k - 1, by omega⟩
    have hx : rs[i]? = some rs[i] := List.getElem?_eq_getElem (by omega)
    have hwr := hw _ (List.getElem_mem (show i < rs.length by omega))
    rw [header_Expand.l1, if_pos (by omega), gd_pos (by omega), rdx_at' hx, drop_cons hx]
    generalize rs[i] = r at *
    by_cases c0 : r.1 < 0 ∨ 19 ≤ r.1
    · have hno : ¬ okRun r := by unfold okRun; omega
      rw [if_pos c0]
      simp only [Option.bind_some, if_true, expF, if_neg hno]
    · have hf := furtherS_le r.1
      have hle := leastS_pos r.1
      rw [if_neg c0, gd_pos (by omega), rd_least _ (by omega) (by omega), rd_further _ (by omega) (by omega)]
      simp only [Option.bind_some, decide_eq_true_eq]
      by_cases c1 : r.2 < leastS r.1
      · have hno : ¬ okRun r := by unfold okRun; omega
        rw [if_pos c1]
        simp only [Option.bind_some, if_true, expF, if_neg hno]
      · rw [if_neg c1, gd_pos (by omega), gd_pos (by omega), shl_one _ (by omega), wr_i64 (by omega)]
        simp only [Option.bind_some, decide_eq_true_eq]
        have hm := mostS_eq r.1
        by_cases c2 : ((2 ^ furtherS r.1 : Nat) : Int) ≤ r.2 - leastS r.1
        · have hno : ¬ okRun r := by unfold okRun; omega
          rw [if_pos c2]
          simp only [expF, if_neg hno]
        · have hok : okRun r := by unfold okRun; omega
          have hcnt := okRun_count hok
          rw [if_neg c2]
          simp only [expF, if_pos hok]
          by_cases c3 : r.1 = 16 ∧ l = []
          · rw [if_pos ⟨c3.1, by rw [c3.2]; rfl⟩, if_pos c3]
          · have c3' : ¬ (r.1 = 16 ∧ (l.length : Int) = 0) := fun h => c3 ⟨h.1, List.length_eq_zero_iff.1 (by omega)⟩
            rw [if_neg c3', if_neg c3, header_lay_spec l r.1 r.2 (by omega) (by omega) (by omega) (fun e e2 => c3 ⟨e, e2⟩)]
            simp only [Option.bind_some]
            rw [inc_i (by omega)]
            exact ih k (i + 1) _ (by omega) (by omega) (by rw [layR_length]; simp only; omega)
theorem header_Expand_spec (rs : List (Int × Int)) (hw : ∀ r ∈ rs, -9223372036854775808 ≤ r.2 ∧ r.2 ≤ 9223372036854775807) (hn : rs.length ≤ 1048576) : header_Expand.f rs = some (match expF rs [] with | .inl e => ([], e) | .inr l => (l, 0)) := by
  have key := header_Expand_loop rs hw hn rs.length FU 0 [] (by omega) (by rw [FU_eq]; omega) (by simp)
  rw [show ((0 : Nat) : Int) = 0 from rfl, List.drop_zero] at key
  rw [header_Expand.f, key]
  cases expF rs [] <;> rfl

theorem ref7_Further_spec (s : Int) : valiseref7_Further.f s = some ((furtherS s : Int), leastS s) := by
  unfold valiseref7_Further.f furtherS leastS
  by_cases a : s = 16
  · subst a; rfl
  · rw [if_neg a]
    by_cases b : s = 17
    · subst b; rfl
    · rw [if_neg b]
      by_cases c : s = 18
      · subst c; rfl
      · rw [if_neg c, if_neg c, if_neg c, if_neg b, if_neg a, if_neg (by omega)]; rfl
theorem ref7_most_spec (s : Int) : valiseref7_most.f s = some (mostS s) := by
  have hf := furtherS_le s
  have hl := leastS_pos s
  have hp : 2 ^ furtherS s ≤ 2 ^ 7 := Nat.pow_le_pow_right (by omega) hf
  have hp1 : 1 ≤ 2 ^ furtherS s := Nat.pow_pos (by omega)
  rw [valiseref7_most.f, ref7_Further_spec]
  simp only [Option.bind_some]
  rw [wr_u64 (by omega), gd_pos (by omega), shl_one _ (by omega), wr_i64 (x := leastS s + _) (by omega), wr_i64 (by omega), mostS_eq]
theorem ref7_lay_loop (rs : List (Int × Int)) (i : Nat) (r : Int × Int) (hx : rs[i]? = some r) (v : Int) (d : Nat) : ∀ (k c : Nat) (l : List Int), r.2 = ((c + d : Nat) : Int) → d < k → l.length + d ≤ 1099511627776 → c + d ≤ 1000 → valiseref7_Expand.l13 k l (c : Int) rs (i : Int) v = some (l ++ List.replicate d v) := by
  induction d with
  | zero =>
    intro k c l hn hk hl hc
    obtain ⟨k, rfl⟩ : ∃ q, k = q + 1 := ⟨k - 1, by omega⟩
    rw [valiseref7_Expand.l13, rdx_at' hx, if_neg (by omega)]; simp
  | succ d ih =>
    intro k c l hn hk hl hc
    obtain ⟨k, rfl⟩ : ∃ q, k = q + 1 := ⟨k - 1, by omega⟩
    rw [valiseref7_Expand.l13, rdx_at' hx, if_pos (by omega), bnd_eq, gd_pos (by simp; omega), bnd_eq, inc_i (by omega), ih k (c + 1) (l ++ [v]) (by omega) (by omega) (by simp; omega) (by omega)]
    simp [List.replicate_succ]
theorem ref7_Expand_loop (rs : List (Int × Int)) (hn : rs.length ≤ 1048576) (d : Nat) : ∀ (k i : Nat) (l : List Int), i + d = rs.length → d < k → l.length ≤ 138 * i →
    valiseref7_Expand.l11 k l (i : Int) rs = some (match expF (rs.drop i) l with | .inl e => .inl ([], e) | .inr l => .inr l) := by
  induction d with
  | zero =>
    intro k i l hi hk hl
    obtain ⟨k, rfl⟩ : ∃ q, k = q + 1 := ⟨k - 1, by omega⟩
    rw [valiseref7_Expand.l11, if_neg (by omega), List.drop_eq_nil_of_le (by omega)]; rfl
  | succ d ih =>
    intro k i l hi hk hl
    obtain ⟨k, rfl⟩ : ∃ q, k = q + 1 := ⟨k - 1, by omega⟩
    have hx : rs[i]? = some rs[i] := List.getElem?_eq_getElem (by omega)
    have lay := ref7_lay_loop rs i _ hx
    rw [valiseref7_Expand.l11, if_pos (by omega), gd_pos (by omega), rdx_at' hx, drop_cons hx]
    generalize rs[i] = r at *
    by_cases c0 : r.1 < 0 ∨ 18 < r.1
    · have hno : ¬ okRun r := by unfold okRun; omega
      rw [if_pos c0]
      simp only [expF, if_neg hno]
    · rw [if_neg c0, ref7_Further_spec]
      simp only [Option.bind_some]
      by_cases c1 : r.2 < leastS r.1
      · have hno : ¬ okRun r := by unfold okRun; omega
        rw [if_pos c1]
        simp only [Option.bind_some, if_true, expF, if_neg hno]
      · rw [if_neg c1, ref7_most_spec]
        simp only [Option.bind_some, decide_eq_true_eq]
        by_cases c2 : mostS r.1 < r.2
        · have hno : ¬ okRun r := by unfold okRun; omega
          rw [if_pos c2]
          simp only [expF, if_neg hno]
        · have hok : okRun r := by unfold okRun; omega
          have hcnt := okRun_count hok
          rw [if_neg c2, bnd_eq]
          simp only [expF, if_pos hok]
          have go : ((valiseref7_Expand.l13 FU l 0 rs (i : Int) (runV l r.1)).bind fun l1124 => bnd (IntKind.i64.wrap ((i : Int) + 1)) fun x1187 => valiseref7_Expand.l11 k l1124 x1187 rs) = some (match expF (rs.drop (i + 1)) (layR l r) with | .inl e => .inl ([], e) | .inr l => .inr l) := by
            have h1 := lay (runV l r.1) r.2.toNat FU 0 l (by omega) (by rw [FU_eq]; omega) (by omega) (by omega)
            rw [show ((0 : Nat) : Int) = 0 from rfl] at h1
            rw [h1]
            simp only [Option.bind_some]
            rw [bnd_eq, inc_i (by omega)]
            exact ih k (i + 1) _ (by omega) (by omega) (by rw [List.length_append, List.length_replicate]; omega)
          by_cases c3 : r.1 = 16
          · rw [if_pos c3]
            by_cases c4 : l = []
            · rw [if_pos (by rw [c4]; rfl), if_pos ⟨c3, c4⟩]; rfl
            · have hp : 0 < l.length := List.length_pos_iff.2 c4
              have hv : runV l r.1 = rd l ((l.length - 1 : Nat) : Int) := by unfold runV; rw [if_pos c3]
              have e4 : IntKind.i64.wrap ((l.length : Int) - 1) = ((l.length - 1 : Nat) : Int) := by rw [wr_i64 (by omega)]; omega
              rw [if_neg (by omega), if_neg (fun h => c4 h.2), e4, gd_pos (by omega), bnd_eq, ← hv]
              simp only [Option.bind_some, onR]
              exact go
          · rw [if_neg c3, if_neg (show ¬ (r.1 = 16 ∧ l = []) from fun h => c3 h.1)]
            by_cases c5 : 16 < r.1
            · have hv : runV l r.1 = 0 := by unfold runV; rw [if_neg c3, if_pos (by omega)]
              rw [if_pos c5]
              simp only [Option.bind_some, onR]
              rw [hv] at go
              exact go
            · have hv : runV l r.1 = r.1 := by unfold runV; rw [if_neg c3, if_neg (by omega)]
              rw [if_neg c5]
              simp only [Option.bind_some, onR]
              rw [hv] at go
              exact go
theorem ref7_Expand_spec (rs : List (Int × Int)) (hn : rs.length ≤ 1048576) : valiseref7_Expand.f rs = some (match expF rs [] with | .inl e => ([], e) | .inr l => (l, 0)) := by
  have key := ref7_Expand_loop rs hn rs.length FU 0 [] (by omega) (by rw [FU_eq]; omega) (by simp)
  rw [show ((0 : Nat) : Int) = 0 from rfl, List.drop_zero] at key
  rw [valiseref7_Expand.f, key]
  cases expF rs [] <;> rfl

theorem valiselaw7_equal_spec (a b : List Int) (h : a.length < 4611686018427387904) : valiselaw7_equal.f a b = some (decide (a = b)) := by
  unfold valiselaw7_equal.f
  by_cases hl : a.length = b.length
  · rw [if_neg (by omega)]
    have key := list_loop1 a (by omega) (fun k i (_ : Unit) => valiselaw7_equal.l1 k i a b) (fun i x _ => if rd b (i : Int) = x then .inr () else .inl (.inl false)) (fun _ => .inr ())
      (fun k _ => by rw [valiselaw7_equal.l1, if_neg (by omega)])
      (fun k i x _ hx hi => by
        have e1 : rd a (i : Int) = x := rd_at hx
        rw [valiselaw7_equal.l1, if_pos (by omega), gd_pos (by omega), gd_pos (by omega), e1]
        by_cases e : rd b (i : Int) = x
        · simp only [if_pos e]
          rw [if_neg (fun e' => e' e.symm), bnd_eq, inc_i (by omega)]
        · simp only [if_neg e]
          rw [if_pos (fun e' => e e'.symm)]) ()
    rw [show valiselaw7_equal.l1 FU 0 a b = _ from key]
    by_cases e : a = b
    · rw [foldE_ok a 0 (fun j x hx => by rw [if_pos ((all_eq hl).2 e j x hx)])]
      simp [onR, e]
    · rw [foldE_bad (bad := .inl false) a 0 (fun j x hx => by
        by_cases e2 : rd b ((0 + j : Nat) : Int) = x
        · left; rw [if_pos e2]
        · right; rw [if_neg e2]) ?_]
      · simp [onR, e]
      · apply Classical.byContradiction
        intro hn
        apply e
        rw [← all_eq hl]
        intro j x hx
        apply Classical.byContradiction
        intro h2
        exact hn ⟨j, x, hx, by rw [if_neg h2]; intro h3; cases h3⟩
  · rw [if_pos (by omega)]
    simp
    intro e
    exact hl (by rw [e])

theorem valiselaw7_alike_loop (a : List (Int×Int)) (h : a.length < 4611686018427387904) (d : Nat) : ∀ (k i : Nat), i + d = a.length → d < k → valiselaw7_alike.l1 k (i : Int) a a = some (.inr ()) := by
  induction d with
  | zero =>
    intro k i hi hk
    obtain ⟨k, rfl⟩ : ∃ q, k = q + 1 := ⟨k - 1, by omega⟩
    rw [valiselaw7_alike.l1, if_neg (by omega)]
  | succ d ih =>
    intro k i hi hk
    obtain ⟨k, rfl⟩ : ∃ q, k = q + 1 := ⟨k - 1, by omega⟩
    rw [valiselaw7_alike.l1, if_pos (by omega), gd_pos (by omega), gd_pos (by omega)]
    simp only [and_self, not_true_eq_false, if_false, bnd_eq]
    rw [inc_i (by omega)]
    exact ih k (i + 1) (by omega) (by omega)
theorem valiselaw7_alike_self (a : List (Int×Int)) (h : a.length < 4611686018427387904) : valiselaw7_alike.f a a = some true := by
  have key := valiselaw7_alike_loop a h a.length FU 0 (by omega) (by rw [FU_eq]; omega)
  rw [show ((0 : Nat) : Int) = 0 from rfl] at key
  rw [valiselaw7_alike.f, if_neg (by simp), key]
  rfl


theorem expF_length : ∀ (rs : List (Int × Int)) (l : List Int), match expF rs l with | .inl e => True | .inr m => m.length ≤ l.length + 138 * rs.length := by
  intro rs
  induction rs with
  | nil => intro l; simp [expF]
  | cons r rs ih =>
    intro l
    rw [expF]
    by_cases h : okRun r
    · rw [if_pos h]
      by_cases c : r.1 = 16 ∧ l = []
      · rw [if_pos c]; trivial
      · rw [if_neg c]
        have a := ih (layR l r)
        have b := okRun_count h
        rw [layR_length] at a
        revert a
        cases expF rs (layR l r) with
        | inl e => intro a; trivial
        | inr m => intro a; simp only [List.length_cons] at a ⊢; omega
    · rw [if_neg h]; trivial
theorem runs7_spec (a : List (Int × Int)) (h : a.length ≤ 17592186044416) : valiselaw7_runs.f a = some a := by
  have hc : cpy (List.replicate ((a.length : Int)).toNat (E_api_Run).def_) a = a := by
    unfold cpy
    rw [List.length_replicate, Int.toNat_natCast, List.take_length, List.drop_eq_nil_of_le (by simp), List.append_nil]
  rw [valiselaw7_runs.f, gd_pos (by omega), bnd_eq, bnd_eq, hc]
theorem valiselaw7_HeaderExpands_true (a : List (Int × Int)) (ha : ∀ x ∈ a, (Lit.int .i64 x.1).wf = true ∧ (Lit.int .i64 x.2).wf = true) (ua : a.length ≤ 1048576) : valiselaw7_HeaderExpands.f a = some true := by
  have hx : (a ++ [((-77 : Int), (0 : Int))])[a.length]? = some (-77, 0) := by rw [List.getElem?_append_right (Nat.le_refl _), Nat.sub_self]; rfl
  have hl := expF_length a []
  rw [valiselaw7_HeaderExpands.f, runs7_spec a (by omega)]
  simp only [Option.bind_some]
  rw [bnd_eq, gd_pos (by simp; omega), gd_pos (by simp; omega), Int.toNat_natCast, List.take_left, header_Expand_spec a (fun r hr => wf_i64 (ha r hr).2) ua, ref7_Expand_spec a ua]
  revert hl
  cases expF a [] with
  | inl e =>
    intro _
    simp only [Option.bind_some, if_true]
    rw [valiselaw7_equal_spec [] [] (by simp), valiselaw7_alike_self a (by omega)]
    simp only [decide_true, Option.bind_some, if_true]
    rw [gd_pos (by simp; omega), rdx_at' hx]
    simp
  | inr l =>
    intro hl
    simp only [List.length_nil] at hl
    simp only [Option.bind_some, if_true]
    rw [valiselaw7_equal_spec l l (by omega), valiselaw7_alike_self a (by omega)]
    simp only [decide_true, Option.bind_some, if_true]
    rw [gd_pos (by simp; omega), rdx_at' hx]
    simp
end Go.V.Pu
