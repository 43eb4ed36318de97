/- The plain law: every list of code lengths is the document's. -/
import Derived.Test.YtbegkkmngkpjmaaGBuildDepthsPure
import Derived.Test.YtbegkkmngkpjmaaQ9
import Derived.Test.YtbegkkmngkpjmaaQ12
set_option linter.unusedVariables false
set_option linter.unusedSimpArgs false
namespace Go.V.Pu
open Go Go.V
theorem flat_one {β : Type} (l : List β) : (l.mapIdx fun _ x => [x]).flatten = l := by
  induction l with
  | nil => rfl
  | cons x l ih => rw [List.mapIdx_cons, List.flatten_cons]; exact congrArg (x :: ·) ih
theorem valiselaw6_copied_spec (a : List Int) (h : (a.length : Int) * 8 ≤ 140737488355328) : valiselaw6_copied.f a = some a := by
  unfold valiselaw6_copied.f
  have key := list_loop0 a (by omega) (fun k i s => valiselaw6_copied.l1 k s i a) (fun i x s => .inr (s ++ [x])) (fun s => s) (fun i s => s.length = i)
    (fun k s _ => by rw [valiselaw6_copied.l1, if_neg (by omega)])
    (fun k i x s hx hi hs => by
      have e1 : rd a (i : Int) = x := rd_at hx
      have e2 : (s ++ [x]).length = i + 1 := by simp [hs]
      rw [valiselaw6_copied.l1, if_pos (by omega), gd_pos (by omega), e1, bnd_eq, gd_pos (by rw [e2]; omega), bnd_eq, inc_i (by omega)])
    (fun i x s s' hx hi hs hg => by cases hg; simp [hs]) [] rfl
  have key' : valiselaw6_copied.l1 FU [] 0 a = _ := key
  rw [key', foldE_app (f := fun _ x => [x])]
  simp [flat_one]

theorem valiselaw6_lent_spec (a : List Int) (h : (a.length : Int) * 8 ≤ 140737488351232) : valiselaw6_lent.f a = some (a ++ List.replicate 8 (-77), a.length) := by
  unfold valiselaw6_lent.f
  rw [valiselaw6_copied_spec a (by omega)]
  have step : ∀ (k i : Nat) (s : List Int), i < 8 → s.length = a.length + i → valiselaw6_lent.l1 (k + 1) s (i : Int) = valiselaw6_lent.l1 k (s ++ [-77]) ((i + 1 : Nat) : Int) := by
    intro k i s hi hs
    have e2 : (s ++ [(-77 : Int)]).length = a.length + i + 1 := by simp [hs]
    rw [valiselaw6_lent.l1, if_pos (by omega), bnd_eq, gd_pos (by rw [e2]; omega), bnd_eq, inc_i (by omega)]
  have stop : ∀ (k : Nat) (s : List Int), valiselaw6_lent.l1 (k + 1) s ((8 : Nat) : Int) = some s := by
    intro k s
    rw [valiselaw6_lent.l1, if_neg (by omega)]
  obtain ⟨k, hk⟩ : ∃ k, FU = k + 9 := ⟨36893488147419103223, rfl⟩
  have key : valiselaw6_lent.l1 FU a 0 = some (a ++ List.replicate 8 (-77)) := by
    rw [hk]
    have z : (0 : Int) = ((0 : Nat) : Int) := rfl
    rw [z]
    rw [step _ 0 _ (by omega) rfl, step _ 1 _ (by omega) (by simp), step _ 2 _ (by omega) (by simp), step _ 3 _ (by omega) (by simp), step _ 4 _ (by omega) (by simp), step _ 5 _ (by omega) (by simp), step _ 6 _ (by omega) (by simp), step _ 7 _ (by omega) (by simp), stop]
    simp [List.replicate]
  simp only [Option.bind_some]
  rw [key]
  simp only [Option.bind_some]
  rw [gd_pos (by simp; omega)]
  rfl

theorem rd_take {l : List Int} {n i : Nat} (h : i < n) : rd (l.take n) (i : Int) = rd l (i : Int) := by
  show (l.take n).getD ((i : Int).toNat) 0 = l.getD ((i : Int).toNat) 0
  rw [Int.toNat_natCast, List.getD_eq_getElem?_getD, List.getD_eq_getElem?_getD, List.getElem?_take, if_pos h]
theorem valiselaw6_still_spec (a : List Int) (h : (a.length : Int) ≤ 140737488351232) : valiselaw6_still.f (a ++ List.replicate 8 (-77)) a.length a = some true := by
  unfold valiselaw6_still.f
  have hw : IntKind.i64.wrap ((a.length : Int) + 8) = ((a.length + 8 : Nat) : Int) := by rw [wr_i64 (by omega)]; rfl
  have hlen : (a ++ List.replicate 8 (-77 : Int)).length = a.length + 8 := by simp
  have ht : (a ++ List.replicate 8 (-77 : Int)).take (a.length + 8) = a ++ List.replicate 8 (-77) := List.take_of_length_le (by rw [hlen]; exact Nat.le_refl _)
  rw [if_neg (by simp), hw, gd_pos (by rw [hlen]; omega)]
  have key := list_loop1 (a ++ List.replicate 8 (-77 : Int)) (by rw [hlen]; omega) (fun k i (_ : Unit) => valiselaw6_still.l1 k i (a ++ List.replicate 8 (-77)) a) (fun i x _ => .inr ()) (fun _ => .inr ())
    (fun k _ => by rw [valiselaw6_still.l1, hw, Int.toNat_natCast, ht, if_neg (by omega)])
    (fun k i x _ hx hi => by
      rw [hlen] at hi
      have e1 : rd (a ++ List.replicate 8 (-77 : Int)) (i : Int) = x := rd_at hx
      rw [valiselaw6_still.l1, hw, Int.toNat_natCast, ht, if_pos (by rw [hlen]; omega)]
      by_cases hc : (i : Int) < (a.length : Int)
      · have e2 : rd a (i : Int) = x := by
          rw [List.getElem?_append_left (by omega)] at hx
          exact rd_at hx
        have hc' : ¬ ((a.length : Int) ≤ (i : Int)) := by omega
        rw [if_pos hc, gd_pos (by rw [hlen]; omega), gd_pos (by omega), e1, e2]
        simp only [Option.bind_some, ne_eq, not_true_eq_false, decide_false, Bool.false_eq_true, if_false, if_neg hc']
        rw [bnd_eq, inc_i (by omega)]
      · have e2 : x = -77 := by
          rw [List.getElem?_append_right (by omega)] at hx
          have := List.mem_of_getElem? hx
          exact List.eq_of_mem_replicate this
        have hc' : (a.length : Int) ≤ (i : Int) := by omega
        rw [if_neg hc]
        simp only [Option.bind_some, Bool.false_eq_true, if_false, if_pos hc']
        rw [gd_pos (by rw [hlen]; omega), e1, e2]
        simp only [Option.bind_some, ne_eq, not_true_eq_false, decide_false, Bool.false_eq_true, if_false]
        rw [bnd_eq, inc_i (by omega)]) ()
  have key' : valiselaw6_still.l1 FU 0 (a ++ List.replicate 8 (-77)) a = _ := key
  rw [key', foldE_ok _ _ (fun _ _ _ => rfl)]
  rfl

theorem valiselaw6_same_spec (a b : List Int) (h : a.length < 4611686018427387904) : valiselaw6_same.f a b = some (decide (a = b)) := by
  unfold valiselaw6_same.f
  by_cases hl : a.length = b.length
  · rw [if_neg (by omega)]
    have key := list_loop1 a (by omega) (fun k i (_ : Unit) => valiselaw6_same.l1 k i a b) (fun i x _ => if rd b (i : Int) = x then .inr () else .inl (.inl false)) (fun _ => .inr ())
      (fun k _ => by rw [valiselaw6_same.l1, if_neg (by omega)])
      (fun k i x _ hx hi => by
        have e1 : rd a (i : Int) = x := rd_at hx
        rw [valiselaw6_same.l1, if_pos (by omega), gd_pos (by omega), gd_pos (by omega), e1]
        by_cases e : rd b (i : Int) = x
        · simp only [if_pos e]
          rw [if_neg (fun e' => e' e.symm), bnd_eq, inc_i (by omega)]
        · simp only [if_neg e]
          rw [if_pos (fun e' => e e'.symm)]) ()
    rw [show valiselaw6_same.l1 FU 0 a b = _ from key]
    by_cases e : a = b
    · rw [foldE_ok a 0 (fun j x hx => by rw [if_pos ((all_eq hl).2 e j x hx)])]
      simp [onR, e]
    · rw [foldE_bad (bad := .inl false) a 0 (fun j x hx => by
        by_cases e2 : rd b ((0 + j : Nat) : Int) = x
        · left; rw [if_pos e2]
        · right; rw [if_neg e2]) ?_]
      · simp [onR, e]
      · apply Classical.byContradiction
        intro hn
        apply e
        rw [← all_eq hl]
        intro j x hx
        apply Classical.byContradiction
        intro h2
        exact hn ⟨j, x, hx, by rw [if_neg h2]; intro h3; cases h3⟩
  · rw [if_pos (by omega)]
    simp
    intro e
    exact hl (by rw [e])

def okF (x : Int) : Prop := ¬ (x < 0 ∨ 4294967296 < x)
instance : DecidablePred okF := fun x => by unfold okF; exact inferInstance
/-- The error of a list of frequencies. -/
def badF (a : List Int) : Int := if 288 < a.length then 1 else if ∀ x ∈ a, okF x then 0 else 61
theorem build_used_loop (a : List Int) (hl : a.length ≤ 288) (m : Nat) : ∀ (k i : Nat), i + m = a.length → m < k → (∀ j, j < i → okF (rd a (j : Int))) →
    build_used.l1 k (upS a i) (i : Int) a = some (if ∀ x ∈ a, okF x then .inr (uS a) else .inl ([], 61)) := by
  induction m with
  | zero =>
    intro k i hi hk hok
    obtain ⟨k, rfl⟩ : ∃ q, k = q + 1 := ⟨k - 1, by omega⟩
    have all : ∀ x ∈ a, okF x := fun x hx => by
      obtain ⟨j, hj, rfl⟩ := List.mem_iff_getElem.1 hx
      have := hok j (by omega)
      rwa [rd_at (List.getElem?_eq_getElem hj)] at this
    rw [build_used.l1, if_neg (by omega), if_pos all, show i = a.length by omega]
    rfl
  | succ m ih =>
    intro k i hi hk hok
    obtain ⟨k, rfl⟩ : ∃ q, k = q + 1 := ⟨k - 1, by omega⟩
    have hu := upS_len a i
    rw [build_used.l1, if_pos (by omega), gd_pos (by omega), bnd_eq]
    by_cases c : okF (rd a (i : Int))
    · have key := ih k (i + 1) (by omega) (by omega) (fun j hj => by
        by_cases e : j = i
        · subst e; exact c
        · exact hok j (by omega))
      rw [upS_succ] at key
      unfold okF at c
      rw [if_neg c]
      by_cases p : 0 < rd a (i : Int)
      · rw [if_pos p] at key
        rw [if_pos p, bnd_eq, gd_pos (by simp; omega)]
        simp only [Option.bind_some]
        rw [inc_i (by omega)]
        exact key
      · rw [if_neg p, List.append_nil] at key
        rw [if_neg p]
        simp only [Option.bind_some]
        rw [inc_i (by omega)]
        exact key
    · have na : ¬ ∀ x ∈ a, okF x := fun h => c (by rw [rd_at (List.getElem?_eq_getElem (show i < a.length by omega))]; exact h _ (List.getElem_mem _))
      unfold okF at c
      rw [if_pos (Classical.byContradiction c), if_neg na]
theorem build_used_spec (a : List Int) : build_used.f a = some (if badF a = 0 then uS a else [], badF a) := by
  rw [build_used.f]
  unfold badF
  by_cases c : 288 < a.length
  · rw [if_pos (by omega), if_pos c, if_neg (by decide)]
  · have key := build_used_loop a (by omega) a.length FU 0 (by omega) (by rw [FU_eq]; omega) (fun j hj => by omega)
    have key' : build_used.l1 FU ([] : List Int) 0 a = _ := key
    rw [if_neg (by omega), if_neg c, key']
    by_cases h : ∀ x ∈ a, okF x
    · rw [if_pos h, if_pos h, if_pos rfl]; rfl
    · rw [if_neg h, if_neg h, if_neg (by decide)]; rfl
theorem badF_ok {a : List Int} (h : badF a = 0) : a.length ≤ 288 ∧ ∀ x ∈ a, okF x := by
  unfold badF at h
  by_cases c : 288 < a.length
  · rw [if_pos c] at h; cases h
  · rw [if_neg c] at h
    by_cases d : ∀ x ∈ a, okF x
    · exact ⟨by omega, d⟩
    · rw [if_neg d] at h; cases h
theorem build_few_loop (n : Nat) (hn : n ≤ 288) (S : List Int) : ∀ (R : List Int) (k : Nat) (D : List Int) (f : Nat → Nat), S = D ++ R → R.length < k → S.length ≤ 288 → (∀ x ∈ R, 0 ≤ x ∧ x < (n : Int)) →
    build_few.l1 k (lf n f) (D.length : Int) S = some (lf n (fun i => if (i : Int) ∈ R then 1 else f i)) := by
  intro R
  induction R with
  | nil =>
    intro k D f e hk hS hR
    obtain ⟨k, rfl⟩ : ∃ q, k = q + 1 := ⟨k - 1, by omega⟩
    subst e
    rw [build_few.l1, if_neg (by simp)]
    congr 1
  | cons x R ih =>
    intro k D f e hk hS hR
    obtain ⟨k, rfl⟩ : ∃ q, k = q + 1 := ⟨k - 1, by omega⟩
    simp only [List.length_cons] at hk
    have hx := hR x (by simp)
    obtain ⟨s, rfl⟩ : ∃ s : Nat, x = s := ⟨x.toNat, by omega⟩
    have hat : S[D.length]? = some (s : Int) := by rw [e, List.getElem?_append_right (Nat.le_refl _), Nat.sub_self]; rfl
    have hlt := lt_of_at hat
    have key := ih k (D ++ [(s : Int)]) (fun i => if i = s then 1 else f i) (by rw [e]; simp) (by omega) hS (fun y hy => hR y (by simp [hy]))
    rw [build_few.l1, if_pos (by omega), gd_pos (by omega), bnd_eq, rd_at hat, gd_pos (by rw [lf_length]; exact hx), bnd_eq, Int.toNat_natCast]
    rw [show (1 : Int) = ((1 : Nat) : Int) from rfl, lf_set, show ((1 : Nat) : Int) = 1 from rfl, inc_i (by omega)]
    simp only [List.length_append, List.length_cons, List.length_nil, Nat.zero_add] at key
    rw [key]
    congr 1
    refine lf_congr fun i _ => ?_
    by_cases c : (i : Int) ∈ R
    · rw [if_pos c, if_pos (by simp [c])]
    · rw [if_neg c]
      by_cases d : i = s
      · subst d; rw [if_pos rfl, if_pos (by simp)]
      · rw [if_neg d, if_neg (by simp [c]; omega)]
theorem build_few_spec (n : Nat) (hn : n ≤ 288) (S : List Int) (hS : S.length ≤ 288) (h : ∀ x ∈ S, 0 ≤ x ∧ x < (n : Int)) : build_few.f (n : Int) S = some (lf n (fun i => if (i : Int) ∈ S then 1 else 0)) := by
  have key := build_few_loop n hn S S FU [] (fun _ => 0) rfl (by rw [FU_eq]; omega) hS h
  rw [← lf_zero] at key
  have key' : build_few.l1 FU (List.replicate n (0 : Int)) 0 S = _ := key
  rw [build_few.f, gd_pos (by omega), bnd_eq, Int.toNat_natCast, key']
  rfl

theorem used_at {a : List Int} (ha : ∀ x ∈ a, okF x) {i : Nat} (hi : i < a.length) : 0 ≤ rd a (i : Int) ∧ rd a (i : Int) ≤ 4294967296 := by
  rw [rd_at (List.getElem?_eq_getElem hi)]
  have := ha _ (List.getElem_mem hi)
  unfold okF at this; omega

theorem rdx_gT (l : List Ht) (i : Nat) : rdx E_heap_node_int l (i : Int) = gT l i := by unfold rdx gT; rw [Int.toNat_natCast]; rfl
theorem before_eq (x y : Ht) : heap_node_int_before.f x.1 x.2.1 x.2.2 y.1 y.2.1 y.2.2 = some (decide (bef x y)) := rfl
theorem half_i {i : Nat} (h0 : 0 < i) (h : i < 4611686018427387904) : IntKind.i64.wrap (Int.tdiv (IntKind.i64.wrap ((i : Int) - 1)) 2) = (((i - 1) / 2 : Nat) : Int) := by
  rw [wr_i64 (x := (i : Int) - 1) (by omega), Int.tdiv_eq_ediv_of_nonneg (by omega), wr_i64 (by omega)]; omega
theorem push_l1 (n : Nat) (hn : n ≤ 1000000) : ∀ (i k : Nat) (l : List Ht), l.length = n → i < n → i < k → UpI l i → ∃ l', heap_Heap_int_Push.l1 k l (i : Int) = some l' ∧ Heap l' ∧ l'.Perm l := by
  intro i
  induction i using Nat.strongRecOn with
  | _ i ih =>
    intro k l hl hi hk hu
    obtain ⟨k, rfl⟩ : ∃ q, k = q + 1 := ⟨k - 1, by omega⟩
    by_cases c : i = 0
    · subst c
      exact ⟨l, by rw [heap_Heap_int_Push.l1, if_neg (by omega)], up_stop hu (.inl rfl), List.Perm.refl _⟩
    · rw [heap_Heap_int_Push.l1, if_pos (by omega), half_i (by omega) (by omega), bnd_eq, gd_pos (by omega), gd_pos (by omega), rdx_gT, rdx_gT, before_eq]
      simp only [Option.bind_some]
      by_cases b : bef (gT l i) (gT l ((i - 1) / 2))
      · have hu2 := up_step hu (by omega) (by omega) b
        obtain ⟨l', e, h1, h2⟩ := ih ((i - 1) / 2) (by omega) k (swp l i ((i - 1) / 2)) (by rw [swp_length]; exact hl) (by omega) (by omega) hu2
        rw [decide_eq_true b, if_neg (by decide), Int.toNat_natCast, bnd_eq, gd_pos (by simp; omega), Int.toNat_natCast, bnd_eq]
        exact ⟨l', e, h1, h2.trans (swp_perm (by omega) (by omega))⟩
      · rw [decide_eq_false b, if_pos (by decide)]
        exact ⟨l, rfl, up_stop hu (.inr b), List.Perm.refl _⟩
theorem push_spec (l : List Ht) (h : Heap l) (hn : l.length < 1000000) (key : Int) (turn : Nat) (ht : turn < 1000000) (v : Int) : ∃ l', heap_Heap_int_Push.f l (turn : Int) key v = some (l', ((turn + 1 : Nat) : Int)) ∧ Heap l' ∧ l'.Perm ((key, (turn : Int), v) :: l) := by
  have el : (l ++ [(key, (turn : Int), v)]).length = l.length + 1 := by simp
  obtain ⟨l', e, h1, h2⟩ := push_l1 (l.length + 1) (by omega) l.length FU (l ++ [(key, (turn : Int), v)]) el (by omega) (by rw [FU_eq]; omega) (up_new h _)
  refine ⟨l', ?_, h1, h2.trans (List.perm_append_comm (l₁ := l) (l₂ := [_]))⟩
  have ew : IntKind.i64.wrap (((l.length + 1 : Nat) : Int) - 1) = (l.length : Int) := by rw [wr_i64 (by omega)]; omega
  rw [heap_Heap_int_Push.f, bnd_eq, el, gd_pos (by omega), ew, bnd_eq, e, inc_i (by omega)]
  rfl
theorem sift_l13 (l : List Ht) (i : Nat) (hi : i < l.length) (hn : l.length ≤ 1000000) : ∀ (m k d least : Nat), d + m = 2 * i + 3 → 2 * i + 1 ≤ d → m < k → least < l.length → (least = i ∨ ((least - 1) / 2 = i ∧ 0 < least ∧ bef (gT l least) (gT l i))) → (∀ j, 2 * i + 1 ≤ j → j < d → j < l.length → lexo (gT l least) (gT l j)) →
    ∃ c, heap_Heap_int_sift.l13 k (least : Int) (d : Int) l (i : Int) = some ((c : Nat) : Int) ∧ c < l.length ∧ (c = i ∨ ((c - 1) / 2 = i ∧ 0 < c ∧ bef (gT l c) (gT l i))) ∧ (∀ j, 0 < j → j < l.length → (j - 1) / 2 = i → lexo (gT l c) (gT l j)) := by
  intro m
  induction m with
  | zero =>
    intro k d least hd hd2 hk hle h1 h2
    obtain ⟨k, rfl⟩ : ∃ q, k = q + 1 := ⟨k - 1, by omega⟩
    have e2 : IntKind.i64.wrap (IntKind.i64.wrap (2 * (i : Int)) + 2) = ((2 * i + 2 : Nat) : Int) := by rw [wr_i64 (x := 2 * (i : Int)) (by omega), wr_i64 (by omega)]; omega
    refine ⟨least, ?_, hle, h1, fun j j0 hj hp => h2 j (by omega) (by omega) hj⟩
    rw [heap_Heap_int_sift.l13, e2, if_neg (by omega)]
  | succ m ih =>
    intro k d least hd hd2 hk hle h1 h2
    obtain ⟨k, rfl⟩ : ∃ q, k = q + 1 := ⟨k - 1, by omega⟩
    have e2 : IntKind.i64.wrap (IntKind.i64.wrap (2 * (i : Int)) + 2) = ((2 * i + 2 : Nat) : Int) := by rw [wr_i64 (x := 2 * (i : Int)) (by omega), wr_i64 (by omega)]; omega
    rw [heap_Heap_int_sift.l13, e2]
    by_cases c : d < l.length
    · rw [if_pos (by omega), gd_pos (by omega), gd_pos (by omega), rdx_gT, rdx_gT, before_eq]
      simp only [Option.bind_some]
      by_cases b : bef (gT l d) (gT l least)
      · rw [decide_eq_true b, if_pos rfl]
        simp only [Option.bind_some]
        rw [bnd_eq, inc_i (by omega)]
        refine ih k (d + 1) d (by omega) (by omega) (by omega) c (.inr ⟨by omega, by omega, ?_⟩) (fun j hj1 hj2 hj3 => ?_)
        · rcases h1 with h1 | h1
          · subst h1; exact b
          · have := h1.2.2; unfold bef at *; omega
        · by_cases e : j = d
          · subst e; exact lexo_refl _
          · exact lexo_trans (bef_lexo b) (h2 j hj1 (by omega) hj3)
      · rw [decide_eq_false b, if_neg (by decide)]
        simp only [Option.bind_some]
        rw [bnd_eq, inc_i (by omega)]
        refine ih k (d + 1) least (by omega) (by omega) (by omega) hle h1 (fun j hj1 hj2 hj3 => ?_)
        by_cases e : j = d
        · subst e; exact b
        · exact h2 j hj1 (by omega) hj3
    · rw [if_neg (by omega)]
      exact ⟨least, rfl, hle, h1, fun j j0 hj hp => h2 j (by omega) (by omega) hj⟩
theorem sift_l11 (n : Nat) (hn : n ≤ 1000000) (turn : Int) : ∀ (m k i : Nat) (l : List Ht), l.length = n → i + m = n → 0 < m → m < k → DnI l i → ∃ l', heap_Heap_int_sift.l11 k l (i : Int) turn = some (l', turn) ∧ Heap l' ∧ l'.Perm l := by
  intro m
  induction m using Nat.strongRecOn with
  | _ m ih =>
    intro k i l hl hi hm hk hd
    obtain ⟨k, rfl⟩ : ∃ q, k = q + 1 := ⟨k - 1, by omega⟩
    have e1 : IntKind.i64.wrap (IntKind.i64.wrap (2 * (i : Int)) + 1) = ((2 * i + 1 : Nat) : Int) := by rw [wr_i64 (x := 2 * (i : Int)) (by omega), wr_i64 (by omega)]; omega
    obtain ⟨c, ec, h1, h2, h3⟩ := sift_l13 l i (by omega) (by omega) 2 FU (2 * i + 1) i (by omega) (by omega) (by rw [FU_eq]; omega) (by omega) (.inl rfl) (fun j h1 h2 => by omega)
    rw [heap_Heap_int_sift.l11, e1, bnd_eq, ec]
    simp only [Option.bind_some]
    by_cases d : c = i
    · subst d
      rw [if_pos rfl]
      exact ⟨l, rfl, dn_stop hd h3, List.Perm.refl _⟩
    · rcases h2 with h2 | ⟨h2, h4, h5⟩
      · exact (d h2).elim
      · rw [if_neg (by omega), gd_pos (by omega), gd_pos (by omega), rdx_gT, rdx_gT, Int.toNat_natCast, bnd_eq, gd_pos (by simp; omega), Int.toNat_natCast, bnd_eq]
        obtain ⟨l', e, g1, g2⟩ := ih (n - c) (by omega) k c (swp l i c) (by rw [swp_length]; exact hl) (by omega) (by omega) (by omega) (dn_step hd h4 h1 h2 h3 h5)
        exact ⟨l', e, g1, g2.trans (swp_perm (by omega) h1)⟩
theorem pop_spec (l : List Ht) (h : Heap l) (h0 : 0 < l.length) (hn : l.length ≤ 1000000) (turn : Int) : ∃ l', heap_Heap_int_Pop.f l turn = some ((gT l 0).1, (gT l 0).2.2, true, l', turn) ∧ Heap l' ∧ l.Perm (gT l 0 :: l') ∧ (∀ y ∈ l, lexo (gT l 0) y) := by
  have ew : IntKind.i64.wrap ((l.length : Int) - 1) = ((l.length - 1 : Nat) : Int) := by rw [wr_i64 (by omega)]; omega
  have hmin : ∀ y ∈ l, lexo (gT l 0) y := fun y hy => by
    obtain ⟨j, hj, e⟩ := List.mem_iff_getElem.1 hy
    have := heap_min h j hj
    rw [gT_at hj, e] at this; exact this
  have z0 : rdx E_heap_node_int l 0 = gT l 0 := rdx_gT l 0
  have pk : heap_Heap_int_Peek.f l turn = some ((gT l 0).1, (gT l 0).2.2, true, l, turn) := by
    rw [heap_Heap_int_Peek.f, if_neg (by omega), gd_pos (by omega), z0]
  have tl : ∃ l', heap_Heap_int_sift.f (topped l) turn = some (l', turn) ∧ Heap l' ∧ l'.Perm (topped l) := by
    have tlen := topped_length (l := l)
    by_cases c : l.length = 1
    · have e : topped l = [] := List.eq_nil_of_length_eq_zero (by omega)
      rw [e]
      refine ⟨[], ?_, fun j _ hj => by simp at hj, List.Perm.refl _⟩
      rw [heap_Heap_int_sift.f, FU_eq, heap_Heap_int_sift.l11]
      have ec : heap_Heap_int_sift.l13 FU 0 1 ([] : List Ht) 0 = some 0 := by
        rw [FU_eq, heap_Heap_int_sift.l13, if_neg (by simp)]
      have e3 : IntKind.i64.wrap (IntKind.i64.wrap (2 * 0) + 1) = 1 := by decide
      rw [e3, bnd_eq, ec]
      rfl
    · exact sift_l11 (topped l).length (by omega) turn (topped l).length FU 0 (topped l) rfl (by omega) (by omega) (by rw [FU_eq]; omega) (topped_dn h)
  obtain ⟨l', e, h1, h2⟩ := tl
  refine ⟨l', ?_, h1, (topped_perm h0).trans ((h2.symm).cons _), hmin⟩
  rw [heap_Heap_int_Pop.f, pk]
  simp only [Option.bind_some]
  rw [if_neg (by decide), ew, bnd_eq, gd_pos (by omega), gd_pos (by omega), bnd_eq, rdx_gT, gd_pos (by simp; omega), Int.toNat_natCast, bnd_eq, gd_pos (by simp)]
  have e' : heap_Heap_int_sift.f (((l.set (0 : Int).toNat ((gT l (l.length - 1)).1, (gT l (l.length - 1)).2.1, (gT l (l.length - 1)).2.2)).set (l.length - 1) (0, 0, 0)).take (l.length - 1)) turn = some (l', turn) := e
  rw [e']
  rfl

theorem rd_setN {l : List Int} {i x : Nat} {v : Int} (h : i < l.length) : rd (l.set i v) (x : Int) = if x = i then v else rd l (x : Int) := by
  unfold rd
  rw [Int.toNat_natCast, List.getD_eq_getElem?_getD, List.getD_eq_getElem?_getD, List.getElem?_set]
  by_cases c : i = x
  · subst c; simp [h]
  · rw [if_neg c, if_neg (fun e => c e.symm)]
theorem rd_appN {l : List Int} {x : Nat} {v : Int} (h : x < l.length) : rd (l ++ [v]) (x : Int) = rd l (x : Int) := by
  unfold rd
  rw [Int.toNat_natCast, List.getD_eq_getElem?_getD, List.getD_eq_getElem?_getD, List.getElem?_append_left h]
theorem rd_appE {l : List Int} {v : Int} : rd (l ++ [v]) (l.length : Int) = v := rd_at (by simp)
def wU (a : List Int) (j : Nat) : Nat := (rd a ((uS a).getD j 0)).toNat
def sU (a : List Int) (j : Nat) : Nat := ((uS a).getD j 0).toNat
def lvN (a : List Int) (m : Nat) : List (Nat × Coin) := (List.range m).map fun j => (j, .leaf (wU a j) (sU a j))
theorem lvN_snd (a : List Int) (m : Nat) : (lvN a m).map Prod.snd = lvs (wU a) (sU a) m := by unfold lvN lvs; rw [List.map_map]; rfl
theorem lvN_fst (a : List Int) (m : Nat) : (lvN a m).map Prod.fst = List.range m := by
  unfold lvN
  rw [List.map_map]
  exact (List.map_congr_left fun _ _ => rfl).trans (List.map_id _)
theorem sU_at {a : List Int} {j : Nat} (h : j < (uS a).length) : (uS a).getD j 0 = (sU a j : Int) ∧ used a (sU a j) := by
  have hm : (uS a).getD j 0 ∈ uS a := by rw [getD_at h]; exact List.getElem_mem h
  obtain ⟨i, hi, h1, h2⟩ := uS_mem hm
  have e : sU a j = i := by unfold sU; rw [hi, Int.toNat_natCast]
  rw [e]
  rw [hi] at h2
  exact ⟨hi, h1, h2⟩
theorem sU_one {a : List Int} {i j : Nat} (hi : i < (uS a).length) (hj : j < (uS a).length) (h : sU a i = sU a j) : i = j := by
  have h1 := (sU_at hi).1
  have h2 := (sU_at hj).1
  rw [h, ← h2, getD_at hi, getD_at hj] at h1
  have hs := uS_rising a
  rcases Nat.lt_trichotomy i j with c | c | c
  · have := List.pairwise_iff_getElem.1 hs i j hi hj c; omega
  · exact c
  · have := List.pairwise_iff_getElem.1 hs j i hj hi c; omega
theorem sU_of {a : List Int} {i : Nat} (h : used a i) : ∃ j, j < (uS a).length ∧ sU a j = i := by
  obtain ⟨j, hj, e⟩ := List.mem_iff_getElem.1 (uS_of h.1 h.2)
  refine ⟨j, hj, ?_⟩
  unfold sU
  rw [getD_at hj, e, Int.toNat_natCast]
theorem dep_l1 (a : List Int) (ha : a.length ≤ 288) : ∀ (m k t : Nat) (nodes : List Ht), t + m = (uS a).length → m < k → Heap nodes → nodes.Perm ((lvN a t).map ndH) →
    ∃ nodes', build_Depths.l1 k nodes (t : Int) (t : Int) a (uS a) = some (nodes', ((uS a).length : Int)) ∧ Heap nodes' ∧ nodes'.Perm ((lvN a (uS a).length).map ndH) := by
  have hu := uS_len a
  intro m
  induction m with
  | zero =>
    intro k t nodes ht hk hh hp
    obtain ⟨k, rfl⟩ : ∃ q, k = q + 1 := ⟨k - 1, by omega⟩
    obtain rfl : t = (uS a).length := by omega
    exact ⟨nodes, by rw [build_Depths.l1, if_neg (by omega)], hh, hp⟩
  | succ m ih =>
    intro k t nodes ht hk hh hp
    obtain ⟨k, rfl⟩ : ∃ q, k = q + 1 := ⟨k - 1, by omega⟩
    have hlt : t < (uS a).length := by omega
    obtain ⟨e1, e2, e3⟩ := sU_at hlt
    have er : rd (uS a) (t : Int) = (sU a t : Int) := by rw [← e1]; exact rd_at (by rw [List.getElem?_eq_getElem hlt, getD_at hlt])
    have nl : nodes.length = t := by rw [hp.length_eq]; simp [lvN]
    obtain ⟨n2, p1, p2, p3⟩ := push_spec nodes hh (by omega) (rd a (sU a t : Int)) t (by omega) (t : Int)
    have hx : (rd a (sU a t : Int), (t : Int), (t : Int)) = ndH (t, .leaf (wU a t) (sU a t)) := by
      unfold ndH wU
      simp only [Coin.wt]
      rw [e1, Int.toNat_of_nonneg (by omega)]
    have hl : lvN a (t + 1) = lvN a t ++ [(t, .leaf (wU a t) (sU a t))] := by unfold lvN; rw [List.range_succ, List.map_append]; rfl
    have pp : n2.Perm ((lvN a (t + 1)).map ndH) := by
      rw [hl, List.map_append]
      refine p3.trans ?_
      rw [hx]
      exact (hp.cons _).trans (List.perm_append_comm (l₁ := [_]) (l₂ := (lvN a t).map ndH))
    rw [build_Depths.l1, if_pos (by omega), gd_pos (by omega), er, bnd_eq, gd_pos (by omega), p1]
    simp only [Option.bind_some]
    rw [inc_i (by omega)]
    exact ih k (t + 1) n2 (by omega) (by omega) p2 pp
def wtsum (L : List (Nat × Coin)) : Nat := ((L.map Prod.snd).map Coin.wt).sum
theorem dep_l3 (u : Nat) (sy : Nat → Nat) : ∀ (n k : Nat) (L : List (Nat × Coin)) (nodes : List Ht) (P : List Int), L.length = n + 1 → n < k → (L.map Prod.fst).Pairwise (· < ·) → (∀ p ∈ L, p.1 < P.length) → Heap nodes → nodes.Perm (L.map ndH) → P.length + n ≤ 1000 →
    (∀ p ∈ L, TreeIn P (L.map Prod.fst) u sy p.1 p.2) → (∀ p ∈ L, (∃ a b, p.2 = .pack a b) → rd P (p.1 : Int) = (p.1 : Int)) → wtsum L ≤ 1000000000000000 →
    ∃ t W P' root, Joined (L.map Prod.snd) t W ∧ build_Depths.l3 k nodes P (P.length : Int) = some P' ∧ root < P'.length ∧ P'.length ≤ 1000 ∧ P.length ≤ P'.length ∧ TreeIn P' [root] u sy root t ∧ ((∃ a b, t = .pack a b) → rd P' (root : Int) = (root : Int)) := by
  intro n
  induction n with
  | zero =>
    intro k L nodes P hL hk hr hlt hh hp hm ht hpk hw
    obtain ⟨k, rfl⟩ : ∃ q, k = q + 1 := ⟨k - 1, by omega⟩
    obtain ⟨p, rfl⟩ : ∃ p, L = [p] := by
      cases L with
      | nil => cases hL
      | cons p L => cases L with
        | nil => exact ⟨p, rfl⟩
        | cons q L => simp at hL
    have nl : nodes.length = 1 := by rw [hp.length_eq]; rfl
    refine ⟨p.2, 0, P, p.1, .one _, ?_, hlt p (by simp), by omega, Nat.le_refl _, ht p (by simp), hpk p (by simp)⟩
    rw [build_Depths.l3, heap_Heap_int_Len.f]
    simp only [Option.bind_some]
    rw [nl, if_neg (by decide)]
  | succ n ih =>
    intro k L nodes P hL hk hr hlt hh hp hm ht hpk hw
    obtain ⟨k, rfl⟩ : ∃ q, k = q + 1 := ⟨k - 1, by omega⟩
    have nl : nodes.length = n + 2 := by rw [hp.length_eq]; simpa using hL
    -- the first one
    obtain ⟨n1, a1, a2, a3, a4⟩ := pop_spec nodes hh (by omega) (by omega) (P.length : Int)
    have m0 : gT nodes 0 ∈ L.map ndH := hp.subset (by rw [gT_at (by omega)]; exact List.getElem_mem _)
    obtain ⟨i, p, b1, b2, b3⟩ := best_of hr m0 (fun y hy => a4 y (hp.symm.subset hy))
    have q1 : n1.Perm ((L.eraseIdx i).map ndH) := by
      have h1 := (erase_perm b1).map ndH
      rw [List.map_cons, b2] at h1
      exact (List.perm_cons _).1 (a3.symm.trans (hp.trans h1))
    -- the second one
    have el1 : (L.eraseIdx i).length = n + 1 := by
      have := (erase_perm b1).length_eq
      simp only [List.length_cons] at this; omega
    have nl1 : n1.length = n + 1 := by rw [q1.length_eq]; simpa using el1
    have hr1 : ((L.eraseIdx i).map Prod.fst).Pairwise (· < ·) := List.Pairwise.sublist ((List.eraseIdx_sublist L i).map _) hr
    obtain ⟨n2, c1, c2, c3, c4⟩ := pop_spec n1 a2 (by omega) (by omega) (P.length : Int)
    have m1 : gT n1 0 ∈ (L.eraseIdx i).map ndH := q1.subset (by rw [gT_at (by omega)]; exact List.getElem_mem _)
    obtain ⟨j, q, d1, d2, d3⟩ := best_of hr1 m1 (fun y hy => c4 y (q1.symm.subset hy))
    have q2 : n2.Perm (((L.eraseIdx i).eraseIdx j).map ndH) := by
      have h1 := (erase_perm d1).map ndH
      rw [List.map_cons, d2] at h1
      exact (List.perm_cons _).1 (c3.symm.trans (q1.trans h1))
    have el2 : ((L.eraseIdx i).eraseIdx j).length = n := by
      have := (erase_perm d1).length_eq
      simp only [List.length_cons] at this; omega
    have pl : L.Perm (p :: q :: (L.eraseIdx i).eraseIdx j) := (erase_perm b1).trans ((erase_perm d1).cons _)
    have hpm : p ∈ L := pl.symm.subset (by simp)
    have hqm : q ∈ L := pl.symm.subset (by simp)
    have hpl := hlt p hpm
    have hql := hlt q hqm
    generalize hR : (L.eraseIdx i).eraseIdx j = R at *
    have nd : (L.map Prod.fst).Nodup := hr.imp (fun h => by omega)
    have nd2 : (p.1 :: q.1 :: R.map Prod.fst).Nodup := ((pl.map Prod.fst).nodup_iff).1 nd
    have memL : ∀ x, x ∈ L.map Prod.fst ↔ x = p.1 ∨ x = q.1 ∨ x ∈ R.map Prod.fst := fun x => by
      have := (pl.map Prod.fst).mem_iff (a := x)
      simp only [List.map_cons, List.mem_cons] at this
      exact this
    obtain ⟨nd3, nd4⟩ := List.nodup_cons.1 nd2
    obtain ⟨nd5, nd6⟩ := List.nodup_cons.1 nd4
    have npq : p.1 ≠ q.1 := fun e => nd3 (by rw [e]; simp)
    have npR : p.1 ∉ R.map Prod.fst := fun h => nd3 (by simp only [List.mem_cons]; exact .inr h)
    -- what is pushed
    have hws : wtsum L = p.2.wt + (q.2.wt + wtsum R) := by
      unfold wtsum
      rw [((pl.map Prod.snd).map Coin.wt).sum_nat]
      rfl
    have x1 : (gT nodes 0).1 = (p.2.wt : Int) ∧ (gT nodes 0).2.2 = (p.1 : Int) := by rw [← b2]; exact ⟨rfl, rfl⟩
    have x2 : (gT n1 0).1 = (q.2.wt : Int) ∧ (gT n1 0).2.2 = (q.1 : Int) := by rw [← d2]; exact ⟨rfl, rfl⟩
    have ew : IntKind.i64.wrap ((p.2.wt : Int) + (q.2.wt : Int)) = ((p.2.wt + q.2.wt : Nat) : Int) := by rw [wr_i64 (by omega)]; rfl
    have nl2 : n2.length = n := by rw [q2.length_eq]; simpa using el2
    obtain ⟨n3, e1, e2, e3⟩ := push_spec n2 c2 (by omega) ((p.2.wt + q.2.wt : Nat) : Int) P.length (by omega) (P.length : Int)
    have lenP : (((P.set p.1 (P.length : Int)).set q.1 (P.length : Int)) ++ [(P.length : Int)]).length = P.length + 1 := by simp
    have rdP : ∀ x, x < P.length → rd (((P.set p.1 (P.length : Int)).set q.1 (P.length : Int)) ++ [(P.length : Int)]) (x : Int) = if x = q.1 then (P.length : Int) else if x = p.1 then (P.length : Int) else rd P (x : Int) := fun x hx => by
      rw [rd_appN (by simpa using hx), rd_setN (by simpa using hql), rd_setN hpl]
    have fsts : (R ++ [(P.length, Coin.pack p.2 q.2)]).map Prod.fst = R.map Prod.fst ++ [P.length] := by simp
    have hRm : ∀ r ∈ R, r ∈ L := fun r hr => pl.symm.subset (by simp [hr])
    have keep : ∀ r ∈ L, TreeIn (((P.set p.1 (P.length : Int)).set q.1 (P.length : Int)) ++ [(P.length : Int)]) (R.map Prod.fst ++ [P.length]) u sy r.1 r.2 := fun r hr => by
      refine tree_keep (ht r hr) (fun x hx hn hm => ?_) (fun x hx hn => ?_)
      · rcases List.mem_append.1 hm with h | h
        · exact hn ((memL x).2 (.inr (.inr h)))
        · have := hlt r hr
          rw [List.mem_singleton] at h; omega
      · have := hlt r hr
        rw [rdP x (by omega), if_neg (fun e => hn ((memL x).2 (.inr (.inl e)))), if_neg (fun e => hn ((memL x).2 (.inl e)))]
    obtain ⟨t, W, P', root, g1, g2, g3, g4, g5, g6, g7⟩ := ih k (R ++ [(P.length, .pack p.2 q.2)]) n3 (((P.set p.1 (P.length : Int)).set q.1 (P.length : Int)) ++ [(P.length : Int)]) (by simp [el2]) (by omega)
      (by
        rw [fsts]
        refine List.pairwise_append.2 ⟨?_, List.pairwise_singleton _ _, fun x hx y hy => ?_⟩
        · rw [← hR]; exact List.Pairwise.sublist ((List.eraseIdx_sublist _ j).map _) hr1
        · rw [List.mem_singleton] at hy
          obtain ⟨r, hr, rfl⟩ := List.mem_map.1 hx
          have := hlt r (hRm r hr); omega)
      (fun r hr => by
        rw [lenP]
        rcases List.mem_append.1 hr with h | h
        · have := hlt r (hRm r h); omega
        · rw [List.mem_singleton] at h; subst h; show P.length < _; omega)
      e2
      (by
        rw [List.map_append]
        exact e3.trans ((q2.cons _).trans (List.perm_append_comm (l₁ := [_]) (l₂ := R.map ndH))))
      (by rw [lenP]; omega)
      (fun r hr => by
        rw [fsts]
        rcases List.mem_append.1 hr with h | h
        · exact keep r (hRm r h)
        · rw [List.mem_singleton] at h; subst h
          refine .pack hpl hql (fun hm => ?_) (fun hm => ?_) ?_ ?_ (keep p hpm) (keep q hqm)
          · rcases List.mem_append.1 hm with h | h
            · exact npR h
            · rw [List.mem_singleton] at h; omega
          · rcases List.mem_append.1 hm with h | h
            · exact nd5 h
            · rw [List.mem_singleton] at h; omega
          · rw [rdP p.1 hpl, if_neg npq, if_pos rfl]
          · rw [rdP q.1 hql, if_pos rfl])
      (fun r hr hpack => by
        rcases List.mem_append.1 hr with h | h
        · have hrl := hlt r (hRm r h)
          have hmem : r.1 ∈ R.map Prod.fst := List.mem_map.2 ⟨r, h, rfl⟩
          have hn1 : r.1 ≠ q.1 := fun e => nd5 (by rw [← e]; exact hmem)
          have hn2 : r.1 ≠ p.1 := fun e => npR (by rw [← e]; exact hmem)
          rw [rdP r.1 hrl, if_neg hn1, if_neg hn2]
          exact hpk r (hRm r h) hpack
        · rw [List.mem_singleton] at h; subst h
          show rd _ (P.length : Int) = _
          have := rd_appE (l := (P.set p.1 (P.length : Int)).set q.1 (P.length : Int)) (v := (P.length : Int))
          rw [List.length_set, List.length_set] at this
          exact this)
      (by
        have : wtsum (R ++ [(P.length, .pack p.2 q.2)]) = wtsum R + (p.2.wt + q.2.wt) := by unfold wtsum; simp [Coin.wt]
        omega)
    rw [lenP] at g2 g5
    have jn : Joined (L.map Prod.snd) t (p.2.wt + q.2.wt + W) := by
      refine .two b3 (j := j) (d := q.2) (by rw [← erase_map]; exact d3) ?_
      rw [← erase_map, ← erase_map, hR]
      rw [List.map_append] at g1
      exact g1
    refine ⟨t, _, P', root, jn, ?_, g3, g4, by omega, g6, g7⟩
    rw [build_Depths.l3, heap_Heap_int_Len.f]
    simp only [Option.bind_some]
    rw [if_pos (by omega), a1]
    simp only [Option.bind_some]
    rw [c1]
    simp only [Option.bind_some]
    rw [x1.1, x1.2, x2.1, x2.2, ew, bnd_eq, gd_pos (by omega), Int.toNat_natCast, bnd_eq, gd_pos (by simp; omega), Int.toNat_natCast, bnd_eq, bnd_eq, lenP, gd_pos (by omega), e1]
    simp only [Option.bind_some]
    exact g2
theorem dep_l17 (P : List Int) (n s : Nat) (hs : s < n) : ∀ (d k x : Nat) (f : Nat → Nat), StepsTo P x d → d < k → f s + d ≤ 1000000 → build_Depths.l17 k (lf n f) (x : Int) P (s : Int) = some (lf n fun i => if i = s then f s + d else f i) := by
  intro d
  induction d with
  | zero =>
    intro k x f h hk hf
    obtain ⟨k, rfl⟩ : ∃ q, k = q + 1 := ⟨k - 1, by omega⟩
    cases h with
    | stop h e =>
      rw [build_Depths.l17, gd_pos (by omega), e, if_neg (fun c => c rfl)]
      congr 1
      refine lf_congr fun i _ => ?_
      by_cases c : i = s
      · subst c; rw [if_pos rfl]; rfl
      · rw [if_neg c]
  | succ d ih =>
    intro k x f h hk hf
    obtain ⟨k, rfl⟩ : ∃ q, k = q + 1 := ⟨k - 1, by omega⟩
    cases h with
    | @go x y d h e ne st =>
      have key := ih k y (fun i => if i = s then f s + 1 else f i) st (by omega) (by simp; omega)
      rw [build_Depths.l17, gd_pos (by omega), e, if_pos (by omega), lf_length, gd_pos (by omega), lf_rd hs, inc_i (by omega), Int.toNat_natCast, lf_set, bnd_eq, bnd_eq, key]
      congr 1
      refine lf_congr fun i _ => ?_
      by_cases c : i = s
      · subst c; simp; omega
      · simp [c]
def depL (a : List Int) (t : Coin) : List Int := lf a.length fun i => if (i : Int) ∈ uS a then depth i t else 0
theorem dep_l15 (a : List Int) (ha : a.length ≤ 288) (P : List Int) (t : Coin) (hst : ∀ j, j < (uS a).length → StepsTo P j (depth (sU a j) t)) (hd : ∀ j, j < (uS a).length → depth (sU a j) t ≤ 1000) : ∀ (R : List Int) (k : Nat) (D : List Int), uS a = D ++ R → R.length < k →
    build_Depths.l15 k (lf a.length fun i => if (i : Int) ∈ D then depth i t else 0) (D.length : Int) (uS a) P = some (depL a t) := by
  have hu := uS_len a
  intro R
  induction R with
  | nil =>
    intro k D e hk
    obtain ⟨k, rfl⟩ : ∃ q, k = q + 1 := ⟨k - 1, by omega⟩
    rw [List.append_nil] at e
    rw [build_Depths.l15, e, if_neg (by omega)]
    unfold depL
    rw [e]
  | cons x R ih =>
    intro k D e hk
    obtain ⟨k, rfl⟩ : ∃ q, k = q + 1 := ⟨k - 1, by omega⟩
    simp only [List.length_cons] at hk
    have hat : (uS a)[D.length]? = some x := by rw [e, List.getElem?_append_right (Nat.le_refl _), Nat.sub_self]; rfl
    have hlt := lt_of_at hat
    obtain ⟨e1, e2⟩ := sU_at hlt
    have ex : x = (sU a D.length : Int) := by
      rw [← e1, getD_at hlt]
      rw [List.getElem?_eq_getElem hlt] at hat
      exact (Option.some.inj hat).symm
    have nx : (sU a D.length : Int) ∉ D := fun hm => by
      have hs := uS_rising a
      rw [e, ← ex] at *
      have := (List.pairwise_append.1 hs).2.2 x hm x (by simp)
      omega
    have hdd := hd _ hlt
    have t17 := dep_l17 P a.length (sU a D.length) e2.1 (depth (sU a D.length) t) FU D.length (fun i => if (i : Int) ∈ D then depth i t else 0) (hst _ hlt) (by rw [FU_eq]; omega) (by rw [if_neg nx]; omega)
    have ec : (lf a.length fun i => if i = sU a D.length then (if (sU a D.length : Int) ∈ D then depth (sU a D.length) t else 0) + depth (sU a D.length) t else if (i : Int) ∈ D then depth i t else 0) = lf a.length fun i => if (i : Int) ∈ D ++ [x] then depth i t else 0 := lf_congr fun i _ => by
      by_cases c : i = sU a D.length
      · subst c
        rw [if_pos rfl, if_neg nx, if_pos (by rw [ex]; simp)]; omega
      · have c2 : ¬ ((i : Int) = x) := by rw [ex]; omega
        rw [if_neg c]
        by_cases d : (i : Int) ∈ D
        · rw [if_pos d, if_pos (by simp [d])]
        · rw [if_neg d, if_neg (by simp [d, c2])]
    rw [ec] at t17
    have key := ih k (D ++ [x]) (by rw [e]; simp) (by omega)
    have er : rd (uS a) (D.length : Int) = (sU a D.length : Int) := by rw [← ex]; exact rd_at hat
    rw [build_Depths.l15, if_pos (by omega), gd_pos (by omega), er, bnd_eq, t17]
    simp only [Option.bind_some]
    rw [inc_i (by omega)]
    simp only [List.length_append, List.length_cons, List.length_nil, Nat.zero_add] at key
    exact key
theorem sumN_bound {n c : Nat} {f : Nat → Nat} (h : ∀ j, j < n → f j ≤ c) : sumN n f ≤ n * c := by rw [← sumN_const]; exact sumN_le h
theorem build_Depths_spec (a : List Int) : (badF a ≠ 0 ∧ build_Depths.f a = some ([], badF a)) ∨ (badF a = 0 ∧ (uS a).length < 2 ∧ build_Depths.f a = some (fewL a, 0)) ∨
    (badF a = 0 ∧ 2 ≤ (uS a).length ∧ ∃ t W, Joined (lvs (wU a) (sU a) (uS a).length) t W ∧ build_Depths.f a = some (depL a t, 0)) := by
  rw [build_Depths.f, build_used_spec]
  simp only [Option.bind_some]
  by_cases c2 : badF a = 0
  · obtain ⟨b1, b2⟩ := badF_ok c2
    have hu := uS_len a
    rw [if_pos c2, if_neg (fun f => f c2)]
    by_cases c4 : (uS a).length < 2
    · refine .inr (.inl ⟨c2, c4, ?_⟩)
      rw [if_pos (by omega), build_few_spec a.length b1 (uS a) (by omega) (fun x hx => by obtain ⟨i, rfl, hi, _⟩ := uS_mem hx; omega)]
      rfl
    · refine .inr (.inr ⟨c2, by omega, ?_⟩)
      obtain ⟨n1, p1, p2, p3⟩ := dep_l1 a b1 (uS a).length FU 0 [] (by omega) (by rw [FU_eq]; omega) (fun j _ hj => by simp at hj) (List.Perm.refl _)
      have p1' : build_Depths.l1 FU ([] : List Ht) 0 0 a (uS a) = _ := p1
      have hw : ∀ j, j < (uS a).length → wU a j ≤ 4294967296 ∧ 0 < wU a j := fun j hj => by
        obtain ⟨e1, e2, e3⟩ := sU_at hj
        have := used_at b2 e2
        unfold wU
        rw [e1]; omega
      have htot : sumN (uS a).length (wU a) ≤ (uS a).length * 4294967296 := sumN_bound fun j hj => (hw j hj).1
      have hwt : wtsum (lvN a (uS a).length) = sumN (uS a).length (wU a) := by
        unfold wtsum
        rw [lvN_snd]
        exact lvs_wsum _ _ _
      have frp := lvN_fst a (uS a).length
      obtain ⟨t, W, P', root, g1, g2, g3, g4, g5, g6, g7⟩ := dep_l3 (uS a).length (sU a) ((uS a).length - 1) FU (lvN a (uS a).length) n1 (List.replicate (uS a).length 0) (by simp [lvN]; omega) (by rw [FU_eq]; omega)
        (by rw [frp]; exact List.pairwise_lt_range) (fun p hp => by
          obtain ⟨j, hj, rfl⟩ := List.mem_map.1 hp
          simpa using hj) p2 p3 (by simp; omega) (fun p hp => by
          obtain ⟨j, hj, rfl⟩ := List.mem_map.1 hp
          exact .leaf (List.mem_range.1 hj)) (fun p hp hk => by
          obtain ⟨j, hj, rfl⟩ := List.mem_map.1 hp
          obtain ⟨x, y, e⟩ := hk
          cases e) (by rw [hwt]; omega)
      rw [lvN_snd] at g1
      rw [List.length_replicate] at g2 g5
      have hroot := g7 (joined_pack g1 (by rw [lvs_length]; omega))
      have hst0 := tree_steps g6 0 g3 (.stop g3 hroot)
      have hf := huffman (fun i j hi hj h => sU_one hi hj h) (by omega) (fun j hj => (hw j hj).2) (by omega) g1
      have hlv := joined_lv g1
      have elv : (lvs (wU a) (sU a) (uS a).length).flatMap Coin.lv = (List.range (uS a).length).map fun j => (wU a j, sU a j) := by
        unfold lvs
        rw [List.flatMap_map]
        simp only [Coin.lv]
        generalize List.range (uS a).length = R
        induction R with
        | nil => rfl
        | cons a R ih => simp [List.flatMap_cons, ih]
      rw [elv] at hlv
      have pe := ents_places (fun i j hi hj h => sU_one hi hj h) hlv.symm
      have hst : ∀ j, j < (uS a).length → StepsTo P' j (depth (sU a j) t) := fun j hj => by
        obtain ⟨j', h1, h2, h3⟩ := hst0 _ (pe.symm.subset (List.mem_map.2 ⟨j, List.mem_range.2 hj, rfl⟩))
        have := sU_one h1 hj h2
        subst this; exact h3
      have k15 := dep_l15 a b1 P' t hst (fun j hj => by have := hf.1 j hj; omega) (uS a) FU [] rfl (by rw [FU_eq]; omega)
      have e0 : (lf a.length fun i => if (i : Int) ∈ ([] : List Int) then depth i t else 0) = lf a.length fun _ => 0 := lf_congr fun i _ => by simp
      rw [e0] at k15
      have k15' : build_Depths.l15 FU (lf a.length fun _ => 0) 0 (uS a) P' = _ := k15
      have e2 : IntKind.i64.wrap (2 * ((uS a).length : Int)) = ((2 * (uS a).length : Nat) : Int) := by rw [wr_i64 (by omega)]; omega
      refine ⟨t, W, g1, ?_⟩
      rw [if_neg (by omega), heap_New_int.f]
      simp only [Option.bind_some]
      rw [p1']
      simp only [Option.bind_some]
      rw [e2, gd_pos (by omega), gd_pos (by omega), bnd_eq, Int.toNat_natCast, g2]
      simp only [Option.bind_some]
      rw [gd_pos (by omega), bnd_eq, Int.toNat_natCast, lf_zero, k15']
      rfl
  · refine .inl ⟨c2, ?_⟩
    rw [if_neg c2, if_pos c2]

theorem rdp_at {α : Type} (z : α) {l : List α} {i : Nat} {x : α} (h : l[i]? = some x) : rdp z l (i : Int) = x := by
  unfold rdp; rw [Int.toNat_natCast, List.getD_eq_getElem?_getD, h]; rfl
theorem rdp_mid {α : Type} (z : α) (A B : List α) (x : α) {i : Int} (h : i = (A.length : Int)) : rdp z (A ++ x :: B) i = x := by
  subst h; exact rdp_at z (by rw [List.getElem?_append_right (Nat.le_refl _), Nat.sub_self]; rfl)

theorem ref6_weighs_spec (a : List Int) (h : a.length ≤ 288) : valiseref6_weighs.f a = some (decide (∀ x ∈ a, okF x)) := by
  have loop : ∀ (m k i : Nat), i + m = a.length → m < k → (∀ j, j < i → okF (rd a (j : Int))) → valiseref6_weighs.l1 k (i : Int) a = some (if ∀ x ∈ a, okF x then .inr () else .inl false) := by
    intro m
    induction m with
    | zero =>
      intro k i hi hk hok
      obtain ⟨k, rfl⟩ : ∃ q, k = q + 1 := ⟨k - 1, by omega⟩
      have all : ∀ x ∈ a, okF x := fun x hx => by
        obtain ⟨j, hj, rfl⟩ := List.mem_iff_getElem.1 hx
        have := hok j (by omega)
        rwa [rd_at (List.getElem?_eq_getElem hj)] at this
      rw [valiseref6_weighs.l1, if_neg (by omega), if_pos all]
    | succ m ih =>
      intro k i hi hk hok
      obtain ⟨k, rfl⟩ : ∃ q, k = q + 1 := ⟨k - 1, by omega⟩
      rw [valiseref6_weighs.l1, if_pos (by omega), gd_pos (by omega)]
      by_cases c : okF (rd a (i : Int))
      · have key := ih k (i + 1) (by omega) (by omega) (fun j hj => by
          by_cases e : j = i
          · subst e; exact c
          · exact hok j (by omega))
        unfold okF at c
        rw [if_neg c, bnd_eq, inc_i (by omega)]
        exact key
      · have na : ¬ ∀ x ∈ a, okF x := fun h => c (by rw [rd_at (List.getElem?_eq_getElem (show i < a.length by omega))]; exact h _ (List.getElem_mem _))
        unfold okF at c
        rw [if_pos (Classical.byContradiction c), if_neg na]
  have key := loop a.length FU 0 (by omega) (by rw [FU_eq]; omega) (fun j hj => by omega)
  have key' : valiseref6_weighs.l1 FU 0 a = _ := key
  rw [valiseref6_weighs.f, key']
  by_cases c : ∀ x ∈ a, okF x
  · rw [if_pos c, decide_eq_true c]; rfl
  · rw [if_neg c, decide_eq_false c]; rfl
theorem ref6_used_spec (a : List Int) (h : a.length ≤ 288) : valiseref6_used.f a = some (uS a) := by
  have loop : ∀ (m k i : Nat), i + m = a.length → m < k → valiseref6_used.l1 k (upS a i) (i : Int) a = some (uS a) := by
    intro m
    induction m with
    | zero =>
      intro k i hi hk
      obtain ⟨k, rfl⟩ : ∃ q, k = q + 1 := ⟨k - 1, by omega⟩
      rw [valiseref6_used.l1, if_neg (by omega), show i = a.length by omega]
      rfl
    | succ m ih =>
      intro k i hi hk
      obtain ⟨k, rfl⟩ : ∃ q, k = q + 1 := ⟨k - 1, by omega⟩
      have hu := upS_len a i
      have key := ih k (i + 1) (by omega) (by omega)
      rw [upS_succ] at key
      rw [valiseref6_used.l1, if_pos (by omega), gd_pos (by omega)]
      by_cases p : 0 < rd a (i : Int)
      · rw [if_pos p] at key
        rw [if_pos p, bnd_eq, gd_pos (by simp <;> omega)]
        simp only [Option.bind_some]
        rw [bnd_eq, inc_i (by omega)]
        exact key
      · rw [if_neg p, List.append_nil] at key
        rw [if_neg p]
        simp only [Option.bind_some]
        rw [bnd_eq, inc_i (by omega)]
        exact key
  have key := loop a.length FU 0 (by omega) (by rw [FU_eq]; omega)
  have key' : valiseref6_used.l1 FU ([] : List Int) 0 a = _ := key
  rw [valiseref6_used.f, key']
  rfl
theorem ref6_zeros_spec (n : Nat) (h : n ≤ 288) : valiseref6_zeros.f (n : Int) = some (lf n fun _ => 0) := by
  have loop : ∀ (m k i : Nat), i + m = n → m < k → valiseref6_zeros.l1 k (List.replicate i 0) (i : Int) (n : Int) = some (List.replicate n 0) := by
    intro m
    induction m with
    | zero =>
      intro k i hi hk
      obtain ⟨k, rfl⟩ : ∃ q, k = q + 1 := ⟨k - 1, by omega⟩
      rw [valiseref6_zeros.l1, if_neg (by omega), show i = n by omega]
    | succ m ih =>
      intro k i hi hk
      obtain ⟨k, rfl⟩ : ∃ q, k = q + 1 := ⟨k - 1, by omega⟩
      have key := ih k (i + 1) (by omega) (by omega)
      rw [List.replicate_succ'] at key
      rw [valiseref6_zeros.l1, if_pos (by omega), bnd_eq, gd_pos (by simp <;> omega), bnd_eq, inc_i (by omega)]
      exact key
  have key := loop n FU 0 (by omega) (by rw [FU_eq]; omega)
  have key' : valiseref6_zeros.l1 FU ([] : List Int) 0 (n : Int) = _ := key
  rw [valiseref6_zeros.f, key', lf_zero]
  rfl
/-- Symbols that are counted. -/
def addS (f : Nat → Nat) (l : List Int) : Nat → Nat := fun i => f i + l.count (i : Int)
theorem sy_count (i : Nat) (c : Coin) : c.sy.count (i : Int) = c.cnt i := by
  induction c with
  | leaf w s =>
    simp only [Coin.sy, Coin.cnt, List.count_cons, List.count_nil]
    by_cases h : s = i
    · subst h; simp
    · have h2 : ¬ ((s : Int) = (i : Int)) := by omega
      simp [h, h2]
  | pack a b iha ihb => simp only [Coin.sy, Coin.cnt, List.count_append, iha, ihb]
theorem sy_inn {n : Nat} : ∀ {c : Coin}, c.inn n → ∀ x ∈ c.sy, 0 ≤ x ∧ x < (n : Int)
  | .leaf w s, h, x, hx => by simp only [Coin.sy, List.mem_singleton] at hx; subst hx; have : s < n := h; omega
  | .pack a b, h, x, hx => by
    simp only [Coin.sy, List.mem_append] at hx
    rcases hx with hx | hx
    · exact sy_inn h.1 x hx
    · exact sy_inn h.2 x hx

theorem rdp_toNd {l : List Coin} {i : Nat} (h : i < l.length) : rdp ((0, []) : (Int × List Int)) (l.map toNd) (i : Int) = toNd l[i] := by
  have e : l = l.take i ++ l[i] :: l.drop (i + 1) := by rw [← List.drop_eq_getElem_cons h, List.take_append_drop]
  have := rdp_mid ((0, []) : (Int × List Int)) ((l.take i).map toNd) ((l.drop (i + 1)).map toNd) (toNd l[i]) (i := (i : Int)) (by simp; omega)
  rw [← this, ← List.map_cons, ← List.map_append, ← e]
theorem ref6_lightest_spec (l : List Coin) (h0 : 0 < l.length) (hl : l.length ≤ 1000000) : ∃ (i : Nat) (c : Coin), valiseref6_lightest.f (l.map toNd) = some ((i : Nat) : Int) ∧ Best l i c := by
  have loop : ∀ (m k i b : Nat), i + m = l.length → m < k → b < l.length → b < i → (∀ (hb : b < l.length) (j : Nat) (hj : j < l.length), j < i → (l[b]).wt ≤ (l[j]).wt ∧ (j < b → (l[b]).wt < (l[j]).wt)) →
      ∃ (r : Nat) (hr : r < l.length), valiseref6_lightest.l1 k (b : Int) (i : Int) (l.map toNd) = some ((r : Nat) : Int) ∧ ∀ (j : Nat) (hj : j < l.length), (l[r]).wt ≤ (l[j]).wt ∧ (j < r → (l[r]).wt < (l[j]).wt) := by
    intro m
    induction m with
    | zero =>
      intro k i b hi hk hb hbi h
      obtain ⟨k, rfl⟩ : ∃ q, k = q + 1 := ⟨k - 1, by omega⟩
      refine ⟨b, hb, by rw [valiseref6_lightest.l1, if_neg (by simp; omega)], fun j hj => h hb j hj (by omega)⟩
    | succ m ih =>
      intro k i b hi hk hb hbi h
      obtain ⟨k, rfl⟩ : ∃ q, k = q + 1 := ⟨k - 1, by omega⟩
      have hil : i < l.length := by omega
      have ml : (l.map toNd).length = l.length := by simp
      have n1 : (toNd l[i]).1 = ((l[i]).wt : Int) := rfl
      have n2 : (toNd l[b]).1 = ((l[b]).wt : Int) := rfl
      rw [valiseref6_lightest.l1, if_pos (by omega), gd_pos (by omega), gd_pos (by omega), rdp_toNd hil, rdp_toNd hb, n1, n2]
      by_cases c : (l[i]).wt < (l[b]).wt
      · rw [if_pos (by omega)]
        simp only [Option.bind_some]
        rw [bnd_eq, inc_i (by omega)]
        exact ih k (i + 1) i (by omega) (by omega) hil (by omega) (fun _ j hj hji => by
          by_cases e : j = i
          · subst e; exact ⟨Nat.le_refl _, fun h => by omega⟩
          · have := h hb j hj (by omega); omega)
      · rw [if_neg (by omega)]
        simp only [Option.bind_some]
        rw [bnd_eq, inc_i (by omega)]
        exact ih k (i + 1) b (by omega) (by omega) hb (by omega) (fun _ j hj hji => by
          by_cases e : j = i
          · subst e; exact ⟨by omega, fun h => by omega⟩
          · exact h hb j hj (by omega))
  obtain ⟨r, hr, e, hb⟩ := loop (l.length - 1) FU 1 0 (by omega) (by rw [FU_eq]; omega) h0 (by omega) (fun hb j hj hj1 => by
    obtain rfl : j = 0 := by omega
    exact ⟨Nat.le_refl _, fun h => by omega⟩)
  have e' : valiseref6_lightest.l1 FU 0 1 (l.map toNd) = _ := e
  refine ⟨r, l[r], by rw [valiseref6_lightest.f, e']; rfl, ⟨List.getElem?_eq_getElem hr, fun j d hj => ?_, fun j d hjr hj => ?_⟩⟩
  · obtain ⟨hjl, rfl⟩ := List.getElem?_eq_some_iff.1 hj
    exact (hb j hjl).1
  · obtain ⟨hjl, rfl⟩ := List.getElem?_eq_some_iff.1 hj
    exact (hb j hjl).2 hjr
theorem erase_snoc {α : Type} (l : List α) (x : α) (a : Nat) : (l ++ [x]).eraseIdx a = l.eraseIdx a ++ if l.length = a then [] else [x] := by
  rcases Nat.lt_trichotomy a l.length with h | h | h
  · rw [List.eraseIdx_append_of_lt_length h, if_neg (by omega)]
  · subst h
    rw [List.eraseIdx_append_of_length_le (Nat.le_refl _), Nat.sub_self, if_pos rfl, List.eraseIdx_of_length_le (Nat.le_refl _)]
    rfl
  · rw [List.eraseIdx_of_length_le (by simp; omega), List.eraseIdx_of_length_le (by omega), if_neg (by omega)]
theorem ref6_without_spec (l : List Coin) (a : Nat) (hl : l.length ≤ 1000000) : valiseref6_without.f (l.map toNd) (a : Int) = some ((l.eraseIdx a).map toNd) := by
  have ml : (l.map toNd).length = l.length := by simp
  have loop : ∀ (m k i : Nat), i + m = l.length → m < k → valiseref6_without.l1 k (((l.take i).eraseIdx a).map toNd) (i : Int) (l.map toNd) (a : Int) = some ((l.eraseIdx a).map toNd) := by
    intro m
    induction m with
    | zero =>
      intro k i hi hk
      obtain ⟨k, rfl⟩ : ∃ q, k = q + 1 := ⟨k - 1, by omega⟩
      rw [valiseref6_without.l1, if_neg (by omega), List.take_of_length_le (by omega)]
    | succ m ih =>
      intro k i hi hk
      obtain ⟨k, rfl⟩ : ∃ q, k = q + 1 := ⟨k - 1, by omega⟩
      have hil : i < l.length := by omega
      have tl : (l.take i).length = i := by rw [List.length_take]; omega
      have es : (l.take (i + 1)).eraseIdx a = (l.take i).eraseIdx a ++ if i = a then [] else [l[i]] := by
        have := erase_snoc (l.take i) l[i] a
        rw [tl, List.take_append_getElem hil] at this
        exact this
      have elen : ((l.take i).eraseIdx a).length ≤ i := by
        have := List.length_eraseIdx_le (l.take i) a
        omega
      have key := ih k (i + 1) (by omega) (by omega)
      rw [es] at key
      rw [valiseref6_without.l1, if_pos (by omega)]
      by_cases c : i = a
      · rw [if_pos c, List.append_nil] at key
        rw [if_neg (fun h => h (by omega))]
        simp only [Option.bind_some]
        rw [bnd_eq, inc_i (by omega)]
        exact key
      · rw [if_neg c, List.map_append, List.map_cons, List.map_nil] at key
        rw [if_pos (by omega), gd_pos (by omega), rdp_toNd hil, bnd_eq, gd_pos (by simp; omega)]
        simp only [Option.bind_some]
        rw [bnd_eq, inc_i (by omega)]
        exact key
  have key := loop l.length FU 0 (by omega) (by rw [FU_eq]; omega)
  have key' : valiseref6_without.l1 FU ([] : List (Int × List Int)) 0 (l.map toNd) (a : Int) = _ := key
  rw [valiseref6_without.f, key']
  rfl
theorem ref6_dep35 (row : List (Int × List Int)) (i : Int) (sy : List Int) (hr : (rdp ((0, []) : (Int × List Int)) row i).2 = sy) (hl : sy.length ≤ 1000000) : ∀ (R : List Int) (k : Nat) (D acc : List Int), sy = D ++ R → R.length < k → acc.length + R.length ≤ 2000000 →
    valiseref6_Depths.l35 k acc (D.length : Int) row i = some (acc ++ R) := by
  intro R
  induction R with
  | nil =>
    intro k D acc e hk ha
    obtain ⟨k, rfl⟩ : ∃ q, k = q + 1 := ⟨k - 1, by omega⟩
    rw [valiseref6_Depths.l35, hr, e, if_neg (by simp)]
    simp
  | cons x R ih =>
    intro k D acc e hk ha
    obtain ⟨k, rfl⟩ : ∃ q, k = q + 1 := ⟨k - 1, by omega⟩
    simp only [List.length_cons] at hk ha
    have hat : sy[D.length]? = some x := by rw [e, List.getElem?_append_right (Nat.le_refl _), Nat.sub_self]; rfl
    have hlt := lt_of_at hat
    have key := ih k (D ++ [x]) (acc ++ [x]) (by rw [e]; simp) (by omega) (by simp <;> omega)
    rw [valiseref6_Depths.l35, hr, if_pos (by omega), gd_pos (by omega), rd_at hat, bnd_eq, gd_pos (by simp <;> omega), bnd_eq, inc_i (by omega)]
    simp only [List.length_append, List.length_cons, List.length_nil, Nat.zero_add, List.append_assoc, List.cons_append, List.nil_append] at key
    exact key
theorem ref6_dep37 (row : List (Int × List Int)) (i : Int) (sy : List Int) (hr : (rdp ((0, []) : (Int × List Int)) row i).2 = sy) (hl : sy.length ≤ 1000000) : ∀ (R : List Int) (k : Nat) (D acc : List Int), sy = D ++ R → R.length < k → acc.length + R.length ≤ 2000000 →
    valiseref6_Depths.l37 k acc (D.length : Int) row i = some (acc ++ R) := by
  intro R
  induction R with
  | nil =>
    intro k D acc e hk ha
    obtain ⟨k, rfl⟩ : ∃ q, k = q + 1 := ⟨k - 1, by omega⟩
    rw [valiseref6_Depths.l37, hr, e, if_neg (by simp)]
    simp
  | cons x R ih =>
    intro k D acc e hk ha
    obtain ⟨k, rfl⟩ : ∃ q, k = q + 1 := ⟨k - 1, by omega⟩
    simp only [List.length_cons] at hk ha
    have hat : sy[D.length]? = some x := by rw [e, List.getElem?_append_right (Nat.le_refl _), Nat.sub_self]; rfl
    have hlt := lt_of_at hat
    have key := ih k (D ++ [x]) (acc ++ [x]) (by rw [e]; simp) (by omega) (by simp <;> omega)
    rw [valiseref6_Depths.l37, hr, if_pos (by omega), gd_pos (by omega), rd_at hat, bnd_eq, gd_pos (by simp <;> omega), bnd_eq, inc_i (by omega)]
    simp only [List.length_append, List.length_cons, List.length_nil, Nat.zero_add, List.append_assoc, List.cons_append, List.nil_append] at key
    exact key
theorem ref6_dep39 (n : Nat) (sy : List Int) (hl : sy.length ≤ 1000000) (hin : ∀ x ∈ sy, 0 ≤ x ∧ x < (n : Int)) : ∀ (R : List Int) (k : Nat) (D : List Int) (f : Nat → Nat), sy = D ++ R → R.length < k → (∀ j, f j + R.length ≤ 100000000000) →
    valiseref6_Depths.l39 k (lf n f) (D.length : Int) sy = some (lf n (addS f R)) := by
  intro R
  induction R with
  | nil =>
    intro k D f e hk hf
    obtain ⟨k, rfl⟩ : ∃ q, k = q + 1 := ⟨k - 1, by omega⟩
    rw [valiseref6_Depths.l39, e, if_neg (by simp)]
    congr 1
  | cons x R ih =>
    intro k D f e hk hf
    obtain ⟨k, rfl⟩ : ∃ q, k = q + 1 := ⟨k - 1, by omega⟩
    simp only [List.length_cons] at hk hf
    have hat : sy[D.length]? = some x := by rw [e, List.getElem?_append_right (Nat.le_refl _), Nat.sub_self]; rfl
    have hlt := lt_of_at hat
    obtain ⟨h0, h1⟩ := hin x (List.mem_of_getElem? hat)
    obtain ⟨s, rfl⟩ : ∃ s : Nat, x = s := ⟨x.toNat, by omega⟩
    have hs : s < n := by omega
    have := hf s
    have key := ih k (D ++ [(s : Int)]) (fun j => if j = s then f s + 1 else f j) (by rw [e]; simp) (by omega) (fun j => by
      have := hf j
      show (if j = s then f s + 1 else f j) + _ ≤ _
      split <;> omega)
    have el := lf_length n f
    rw [valiseref6_Depths.l39, if_pos (by omega), gd_pos (by omega), rd_at hat, bnd_eq, gd_pos (by omega), bnd_eq, lf_rd hs, inc_i (by omega), bnd_eq, inc_i (by omega), Int.toNat_natCast, lf_set]
    simp only [List.length_append, List.length_cons, List.length_nil, Nat.zero_add] at key
    rw [key]
    congr 1
    refine lf_congr fun j hj => ?_
    unfold addS
    rw [List.count_cons]
    by_cases c : j = s
    · subst c; simp; omega
    · have c2 : ¬ ((s : Int) = (j : Int)) := by omega
      simp [c, c2]
def dsums (l : List Coin) (i : Nat) : Nat := (l.map (Coin.dsum i)).sum
theorem csum_size (l : List Coin) (i : Nat) : csum i l ≤ (l.map Coin.size).sum := by
  induction l with
  | nil => exact Nat.le_refl _
  | cons c l ih =>
    rw [csum_cons, List.map_cons, List.sum_cons]
    have := cnt_le i c; omega
theorem ref6_dep33 (n S : Nat) (hS : S ≤ 1000) : ∀ (m k : Nat) (l : List Coin), l.length = m + 1 → m < k → (∀ c ∈ l, c.inn n) → (l.map Coin.size).sum = S → m ≤ 1000 → (∀ i, dsums l i + m * S ≤ 1000000) → (l.map Coin.wt).sum ≤ 1000000000000000 →
    ∃ t W, Joined l t W ∧ valiseref6_Depths.l33 k (lf n (dsums l)) (l.map toNd) = some (lf n fun i => t.dsum i) := by
  intro m
  induction m with
  | zero =>
    intro k l hl hk hin hsz hm hd hw
    obtain ⟨k, rfl⟩ : ∃ q, k = q + 1 := ⟨k - 1, by omega⟩
    obtain ⟨p, rfl⟩ : ∃ p, l = [p] := by
      cases l with
      | nil => cases hl
      | cons p l => cases l with
        | nil => exact ⟨p, rfl⟩
        | cons q l => simp at hl
    refine ⟨p, 0, .one _, ?_⟩
    rw [valiseref6_Depths.l33, if_neg (by simp)]
    exact congrArg some (lf_congr fun i _ => by simp [dsums])
  | succ m ih =>
    intro k l hl hk hin hsz hm hd hw
    obtain ⟨k, rfl⟩ : ∃ q, k = q + 1 := ⟨k - 1, by omega⟩
    have ml : (l.map toNd).length = m + 2 := by simpa using hl
    obtain ⟨i, c, a1, a2⟩ := ref6_lightest_spec l (by omega) (by omega)
    have hi := a2.lt
    have el1 : (l.eraseIdx i).length = m + 1 := by rw [List.length_eraseIdx_of_lt hi]; omega
    obtain ⟨j, d, b1, b2⟩ := ref6_lightest_spec (l.eraseIdx i) (by omega) (by omega)
    have hj := b2.lt
    have el2 : ((l.eraseIdx i).eraseIdx j).length = m := by rw [List.length_eraseIdx_of_lt hj]; omega
    have ml1 : ((l.eraseIdx i).map toNd).length = m + 1 := by simpa using el1
    have pl : l.Perm (c :: d :: (l.eraseIdx i).eraseIdx j) := a2.perm.trans (b2.perm.cons _)
    have hc := hin c (pl.symm.subset (by simp))
    have hdd := hin d (pl.symm.subset (by simp))
    have r1 : rdp ((0, []) : (Int × List Int)) (l.map toNd) (i : Int) = toNd c := by
      rw [rdp_toNd hi]
      have := a2.at_
      rw [List.getElem?_eq_getElem hi] at this
      rw [Option.some.inj this]
    have r2 : rdp ((0, []) : (Int × List Int)) ((l.eraseIdx i).map toNd) (j : Int) = toNd d := by
      rw [rdp_toNd hj]
      have := b2.at_
      rw [List.getElem?_eq_getElem hj] at this
      rw [Option.some.inj this]
    have w1 := ((pl.map Coin.wt)).sum_nat
    simp only [List.map_cons, List.sum_cons] at w1
    have z1 := ((pl.map Coin.size)).sum_nat
    simp only [List.map_cons, List.sum_cons] at z1
    have d1 : ∀ x, dsums l x = c.dsum x + (d.dsum x + dsums ((l.eraseIdx i).eraseIdx j) x) := fun x => by
      unfold dsums
      rw [((pl.map (Coin.dsum x))).sum_nat]; rfl
    have s1 := size_sy c
    have s2 := size_sy d
    have t35 := ref6_dep35 (l.map toNd) (i : Int) c.sy (by rw [r1]; rfl) (by omega) c.sy FU [] [] rfl (by rw [FU_eq]; omega) (by simp; omega)
    have t35' : valiseref6_Depths.l35 FU ([] : List Int) 0 (l.map toNd) (i : Int) = some c.sy := t35
    have t37 := ref6_dep37 ((l.eraseIdx i).map toNd) (j : Int) d.sy (by rw [r2]; rfl) (by omega) d.sy FU [] c.sy rfl (by rw [FU_eq]; omega) (by omega)
    have t37' : valiseref6_Depths.l37 FU c.sy 0 ((l.eraseIdx i).map toNd) (j : Int) = some (c.sy ++ d.sy) := t37
    have t39 := ref6_dep39 n (c.sy ++ d.sy) (by simp; omega) (fun x hx => by
      rcases List.mem_append.1 hx with h | h
      · exact sy_inn hc x h
      · exact sy_inn hdd x h) (c.sy ++ d.sy) FU [] (dsums l) rfl (by rw [FU_eq]; simp; omega) (fun x => by have := hd x; simp; omega)
    have t39' : valiseref6_Depths.l39 FU (lf n (dsums l)) 0 (c.sy ++ d.sy) = _ := t39
    have ef : lf n (addS (dsums l) (c.sy ++ d.sy)) = lf n (dsums ((l.eraseIdx i).eraseIdx j ++ [.pack c d])) := lf_congr fun x _ => by
      unfold addS
      rw [List.count_append, sy_count, sy_count, d1 x]
      unfold dsums
      simp only [List.map_append, List.sum_append, List.map_cons, List.map_nil, List.sum_cons, List.sum_nil, Coin.dsum]; omega
    rw [ef] at t39'
    obtain ⟨t, W, g1, g2⟩ := ih k ((l.eraseIdx i).eraseIdx j ++ [.pack c d]) (by simp [el2]) (by omega) (fun x hx => by
        rcases List.mem_append.1 hx with h | h
        · exact hin x (pl.symm.subset (by simp [h]))
        · rw [List.mem_singleton] at h; subst h; exact ⟨hc, hdd⟩) (by
        simp only [List.map_append, List.sum_append, List.map_cons, List.map_nil, List.sum_cons, List.sum_nil, Coin.size]; omega) (by omega) (fun x => by
        have h1 := hd x
        rw [d1 x, Nat.succ_mul] at h1
        have h2 := cnt_le x c
        have h3 := cnt_le x d
        unfold dsums at h1 ⊢
        simp only [List.map_append, List.sum_append, List.map_cons, List.map_nil, List.sum_cons, List.sum_nil, Coin.dsum]; omega) (by
        simp only [List.map_append, List.sum_append, List.map_cons, List.map_nil, List.sum_cons, List.sum_nil, Coin.wt]; omega)
    refine ⟨t, _, .two a2 b2 g1, ?_⟩
    have n1 : (toNd c).1 = (c.wt : Int) := rfl
    have n2 : (toNd d).1 = (d.wt : Int) := rfl
    have ew : IntKind.i64.wrap ((c.wt : Int) + (d.wt : Int)) = ((c.wt + d.wt : Nat) : Int) := by rw [wr_i64 (by omega)]; rfl
    rw [valiseref6_Depths.l33, if_pos (by omega), a1]
    simp only [Option.bind_some]
    rw [gd_pos (by omega), ref6_without_spec l i (by omega)]
    simp only [Option.bind_some]
    rw [b1]
    simp only [Option.bind_some]
    rw [gd_pos (by omega), ref6_without_spec _ j (by omega)]
    simp only [Option.bind_some]
    rw [t35']
    simp only [Option.bind_some]
    rw [t37']
    simp only [Option.bind_some]
    rw [t39']
    simp only [Option.bind_some]
    rw [r1, r2, n1, n2, ew, bnd_eq, gd_pos (by simp; omega)]
    rw [List.map_append] at g2
    exact g2
theorem ref6_dep1 (a : List Int) (ha : a.length ≤ 288) (S : List Int) (hS : ∀ x ∈ S, ∃ i : Nat, x = i ∧ i < a.length ∧ 0 < rd a x) (hl : S.length ≤ 288) : ∀ (R : List Int) (k : Nat) (D : List Int), S = D ++ R → R.length < k →
    valiseref6_Depths.l1 k ((clS a D).map toNd) (D.length : Int) a S = some ((clS a S).map toNd) := by
  intro R
  induction R with
  | nil =>
    intro k D e hk
    obtain ⟨k, rfl⟩ : ∃ q, k = q + 1 := ⟨k - 1, by omega⟩
    subst e
    rw [valiseref6_Depths.l1, if_neg (by simp), List.append_nil]
  | cons x R ih =>
    intro k D e hk
    obtain ⟨k, rfl⟩ : ∃ q, k = q + 1 := ⟨k - 1, by omega⟩
    simp only [List.length_cons] at hk
    have hat : S[D.length]? = some x := by rw [e, List.getElem?_append_right (Nat.le_refl _), Nat.sub_self]; rfl
    have hlt := lt_of_at hat
    obtain ⟨i, rfl, hi, hp⟩ := hS x (List.mem_of_getElem? hat)
    have key := ih k (D ++ [(i : Int)]) (by rw [e]; simp) (by omega)
    have e1 : (rd a (i : Int), [(i : Int)]) = toNd (.leaf (rd a (i : Int)).toNat (Int.toNat (i : Int))) := by
      show _ = (((rd a (i : Int)).toNat : Int), [((Int.toNat (i : Int) : Nat) : Int)])
      rw [Int.toNat_of_nonneg (by omega), Int.toNat_natCast]
    have e2 : (clS a D).map toNd ++ [(rd a (i : Int), [(i : Int)])] = (clS a (D ++ [(i : Int)])).map toNd := by rw [e1]; simp [clS]
    have el : ((clS a (D ++ [(i : Int)])).map toNd).length = D.length + 1 := by simp [clS]
    rw [valiseref6_Depths.l1, if_pos (by omega), gd_pos (by omega), rd_at hat, bnd_eq, gd_pos (by omega), e2, bnd_eq, gd_pos (by rw [el]; omega), bnd_eq, inc_i (by omega)]
    simp only [List.length_append, List.length_cons, List.length_nil, Nat.zero_add] at key
    exact key

theorem joined_uniq {l : List Coin} {t t' : Coin} {w w' : Nat} (h : Joined l t w) (k : Joined l t' w') : t = t' := by
  induction h generalizing t' w' with
  | one t =>
    cases k with
    | one => rfl
    | two h1 h2 _ =>
      have a1 := h1.lt
      have a2 := h2.lt
      rw [List.length_eraseIdx_of_lt a1] at a2
      exact absurd a2 (by simp)
  | @two l i j c d t w h1 h2 h ih =>
    cases k with
    | one =>
      have a1 := h1.lt
      have a2 := h2.lt
      rw [List.length_eraseIdx_of_lt a1] at a2
      exact absurd a2 (by simp)
    | two g1 g2 g =>
      obtain ⟨rfl, rfl⟩ := h1.uniq g1
      obtain ⟨rfl, rfl⟩ := h2.uniq g2
      exact ih g
theorem clS_uS (a : List Int) : clS a (uS a) = lvs (wU a) (sU a) (uS a).length := by
  unfold clS lvs
  refine List.ext_getElem (by simp) fun i h1 h2 => ?_
  simp at h1
  simp [wU, sU, h1]
theorem clS_sum (a : List Int) (h : a.length ≤ 288) (hok : ∀ x ∈ a, okF x) : ((clS a (uS a)).map Coin.wt).sum ≤ 1000000000000000 ∧ ((clS a (uS a)).map Coin.size).sum = (uS a).length ∧ ∀ i, dsums (clS a (uS a)) i = 0 := by
  have hu := uS_len a
  have gen : ∀ l : List Int, (∀ x ∈ l, rd a x ≤ 4294967296) → ((clS a l).map Coin.wt).sum ≤ l.length * 4294967296 ∧ ((clS a l).map Coin.size).sum = l.length ∧ ∀ i, dsums (clS a l) i = 0 := by
    intro l
    induction l with
    | nil => intro _; exact ⟨Nat.zero_le _, rfl, fun _ => rfl⟩
    | cons x l ih =>
      intro hx
      obtain ⟨h1, h2, h3⟩ := ih fun y hy => hx y (by simp [hy])
      have := hx x (by simp)
      refine ⟨?_, ?_, fun i => ?_⟩
      · simp only [clS, List.map_cons, List.sum_cons, Coin.wt, List.length_cons] at h1 ⊢
        omega
      · simp only [clS, List.map_cons, List.sum_cons, Coin.size, List.length_cons] at h2 ⊢
        omega
      · have := h3 i
        simp only [dsums, clS, List.map_cons, List.sum_cons, Coin.dsum] at this ⊢
        omega
  obtain ⟨h1, h2, h3⟩ := gen (uS a) (fun x hx => by
    obtain ⟨i, rfl, hi, _⟩ := uS_mem hx
    exact (used_at hok hi).2)
  exact ⟨by omega, h2, h3⟩
theorem clS_inn {a : List Int} : ∀ c ∈ clS a (uS a), c.inn a.length := fun c hc => by
  obtain ⟨s, hs, rfl⟩ := List.mem_map.1 hc
  obtain ⟨i, rfl, hi, _⟩ := uS_mem hs
  show Int.toNat (i : Int) < a.length
  rw [Int.toNat_natCast]; exact hi
theorem depL_dsum {a : List Int} {t : Coin} {W : Nat} (h : Joined (clS a (uS a)) t W) : (lf a.length fun i => t.dsum i) = depL a t := lf_congr fun i hi => by
  by_cases c : (i : Int) ∈ uS a
  · rw [if_pos c, depth_dsum]
  · rw [if_neg c]
    refine dsum_none ?_
    rw [← joined_cnt h]
    refine csum_none (P := fun i => (i : Int) ∈ uS a) (fun d hd x hx => ?_) c
    obtain ⟨s, hs, rfl⟩ := List.mem_map.1 hd
    simp only [Coin.sy, List.mem_singleton] at hx
    obtain ⟨j, rfl, hj, hp⟩ := uS_mem hs
    subst hx
    rw [Int.toNat_natCast, Int.toNat_natCast]
    exact hs
theorem ref6_Depths_spec (a : List Int) : (badF a ≠ 0 ∧ valiseref6_Depths.f a = some ([], badF a)) ∨ (badF a = 0 ∧ (uS a).length < 2 ∧ valiseref6_Depths.f a = some (fewL a, 0)) ∨
    (badF a = 0 ∧ 2 ≤ (uS a).length ∧ ∃ t W, Joined (lvs (wU a) (sU a) (uS a).length) t W ∧ valiseref6_Depths.f a = some (depL a t, 0)) := by
  rw [valiseref6_Depths.f]
  unfold badF
  by_cases c0 : 288 < a.length
  · have c1 : (288 : Int) < (a.length : Int) := by omega
    rw [if_pos c1, if_pos c0]
    exact .inl ⟨by decide, rfl⟩
  · have c1 : ¬ (288 : Int) < (a.length : Int) := by omega
    rw [if_neg c1, if_neg c0, ref6_weighs_spec a (by omega)]
    simp only [Option.bind_some]
    by_cases b2 : ∀ x ∈ a, okF x
    · have b1 : a.length ≤ 288 := by omega
      have hu := uS_len a
      rw [decide_eq_true b2, if_neg (by decide : ¬ (!true) = true), if_pos b2, ref6_zeros_spec a.length b1]
      simp only [Option.bind_some]
      rw [ref6_used_spec a b1]
      simp only [Option.bind_some]
      have k1 := ref6_dep1 a b1 (uS a) (fun x hx => uS_mem hx) (by omega) (uS a) FU [] rfl (by rw [FU_eq]; omega)
      have k1' : valiseref6_Depths.l1 FU ([] : List (Int × List Int)) 0 a (uS a) = _ := k1
      by_cases c4 : (uS a).length = 1
      · refine .inr (.inl ⟨trivial, by omega, ?_⟩)
        obtain ⟨x, hx⟩ : ∃ x, uS a = [x] := by
          cases h : uS a with
          | nil => rw [h] at c4; cases c4
          | cons x l =>
            rw [h] at c4
            simp at c4
            subst c4
            exact ⟨x, rfl⟩
        obtain ⟨i, rfl, hi, hp⟩ := uS_mem (a := a) (x := x) (by rw [hx]; simp)
        have e3 : rd [(i : Int)] 0 = (i : Int) := rfl
        rw [if_pos (by omega), hx, gd_pos (by simp), e3, lf_length, gd_pos (by omega), bnd_eq, Int.toNat_natCast, show (1 : Int) = ((1 : Nat) : Int) from rfl, lf_set]
        congr 2
        unfold fewL
        refine lf_congr fun j _ => ?_
        rw [hx]
        by_cases c : j = i
        · subst c; simp
        · have : ¬ ((j : Int) = (i : Int)) := by omega
          simp [c, this]
      · rw [if_neg (by omega), k1']
        simp only [Option.bind_some]
        by_cases c5 : (uS a).length = 0
        · refine .inr (.inl ⟨trivial, by omega, ?_⟩)
          have e : uS a = [] := List.eq_nil_of_length_eq_zero c5
          rw [e]
          have : valiseref6_Depths.l33 FU (lf a.length fun _ => 0) ((clS a []).map toNd) = some (lf a.length fun _ => 0) := by
            rw [FU_eq, valiseref6_Depths.l33, if_neg (by simp [clS])]
          rw [this]
          simp only [Option.bind_some]
          congr 2
          unfold fewL
          rw [e]
          exact lf_congr fun j _ => by simp
        · refine .inr (.inr ⟨trivial, by omega, ?_⟩)
          obtain ⟨s1, s2, s3⟩ := clS_sum a b1 b2
          have cl : (clS a (uS a)).length = (uS a).length := clS_length a (uS a)
          obtain ⟨t, W, g1, g2⟩ := ref6_dep33 a.length (uS a).length (by omega) ((uS a).length - 1) FU (clS a (uS a)) (by omega) (by rw [FU_eq]; omega) clS_inn s2 (by omega) (fun i => by
            rw [s3 i]
            have : ((uS a).length - 1) * (uS a).length ≤ 288 * 288 := Nat.mul_le_mul (by omega) (by omega)
            omega) s1
          have e0 : lf a.length (dsums (clS a (uS a))) = lf a.length fun _ => 0 := lf_congr fun i _ => s3 i
          rw [e0] at g2
          refine ⟨t, W, by rw [← clS_uS]; exact g1, ?_⟩
          rw [g2]
          simp only [Option.bind_some]
          rw [depL_dsum g1]
    · rw [decide_eq_false b2, if_pos (by decide : (!false) = true), if_neg b2]
      exact .inl ⟨by decide, rfl⟩
theorem depths_eq (a : List Int) : ∃ l e, build_Depths.f a = some (l, e) ∧ valiseref6_Depths.f a = some (l, e) ∧ l.length ≤ a.length := by
  rcases build_Depths_spec a with ⟨h1, h2⟩ | ⟨h1, h2, h3⟩ | ⟨h1, h2, t, W, h3, h4⟩
  · rcases ref6_Depths_spec a with ⟨g1, g2⟩ | ⟨g1, g2, g3⟩ | ⟨g1, g2, _⟩
    · exact ⟨_, _, h2, g2, Nat.zero_le _⟩
    · exact (h1 g1).elim
    · exact (h1 g1).elim
  · rcases ref6_Depths_spec a with ⟨g1, g2⟩ | ⟨g1, g2, g3⟩ | ⟨g1, g2, _⟩
    · exact (g1 h1).elim
    · exact ⟨_, _, h3, g3, Nat.le_of_eq (lf_length _ _)⟩
    · omega
  · rcases ref6_Depths_spec a with ⟨g1, g2⟩ | ⟨g1, g2, g3⟩ | ⟨g1, g2, t', W', g3, g4⟩
    · exact (g1 h1).elim
    · omega
    · obtain rfl := joined_uniq h3 g3
      exact ⟨_, _, h4, g4, Nat.le_of_eq (lf_length _ _)⟩

theorem valiselaw6_BuildDepths_true (a : List Int) (ha : ∀ x ∈ a, (Lit.int .i64 x).wf = true) (wa : a.length * 8 ≤ 140737488351232) : valiselaw6_BuildDepths.f a = some true := by
  obtain ⟨l, e, h1, h2, h3⟩ := depths_eq a
  unfold valiselaw6_BuildDepths.f
  rw [valiselaw6_lent_spec a (by omega)]
  simp only [Option.bind_some]
  rw [List.take_left, h1, h2]
  simp only [Option.bind_some]
  rw [if_pos trivial, valiselaw6_same_spec l l (by omega), decide_eq_true rfl]
  simp only [Option.bind_some, if_true]
  rw [valiselaw6_still_spec a (by omega)]
  rfl
end Go.V.Pu
