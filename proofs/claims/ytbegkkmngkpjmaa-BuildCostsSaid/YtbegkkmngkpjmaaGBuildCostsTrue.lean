/- The plain law: the program's cost of code lengths is the document's. -/
import Derived.Test.YtbegkkmngkpjmaaGBuildCostsPure
import Derived.Test.YtbegkkmngkpjmaaQ1
set_option linter.unusedVariables false
set_option linter.unusedSimpArgs false
namespace Go.V.Pu
open Go Go.V

theorem flat_one {β : Type} (l : List β) : (l.mapIdx fun _ x => [x]).flatten = l := by
  induction l with
  | nil => rfl
  | cons x l ih => rw [List.mapIdx_cons, List.flatten_cons]; exact congrArg (x :: ·) ih
theorem valiselaw6_copied_spec (a : List Int) (h : (a.length : Int) * 8 ≤ 140737488355328) : valiselaw6_copied.f a = some a := by
  unfold valiselaw6_copied.f
  have key := list_loop0 a (by omega) (fun k i s => valiselaw6_copied.l1 k s i a) (fun i x s => .inr (s ++ [x])) (fun s => s) (fun i s => s.length = i)
    (fun k s _ => by rw [valiselaw6_copied.l1, if_neg (by omega)])
    (fun k i x s hx hi hs => by
      have e1 : rd a (i : Int) = x := rd_at hx
      have e2 : (s ++ [x]).length = i + 1 := by simp [hs]
      rw [valiselaw6_copied.l1, if_pos (by omega), gd_pos (by omega), e1, bnd_eq, gd_pos (by rw [e2]; omega), bnd_eq, inc_i (by omega)])
    (fun i x s s' hx hi hs hg => by cases hg; simp [hs]) [] rfl
  have key' : valiselaw6_copied.l1 FU [] 0 a = _ := key
  rw [key', foldE_app (f := fun _ x => [x])]
  simp [flat_one]

theorem valiselaw6_lent_spec (a : List Int) (h : (a.length : Int) * 8 ≤ 140737488351232) : valiselaw6_lent.f a = some (a ++ List.replicate 8 (-77), a.length) := by
  unfold valiselaw6_lent.f
  rw [valiselaw6_copied_spec a (by omega)]
  have step : ∀ (k i : Nat) (s : List Int), i < 8 → s.length = a.length + i → valiselaw6_lent.l1 (k + 1) s (i : Int) = valiselaw6_lent.l1 k (s ++ [-77]) ((i + 1 : Nat) : Int) := by
    intro k i s hi hs
    have e2 : (s ++ [(-77 : Int)]).length = a.length + i + 1 := by simp [hs]
    rw [valiselaw6_lent.l1, if_pos (by omega), bnd_eq, gd_pos (by rw [e2]; omega), bnd_eq, inc_i (by omega)]
  have stop : ∀ (k : Nat) (s : List Int), valiselaw6_lent.l1 (k + 1) s ((8 : Nat) : Int) = some s := by
    intro k s
    rw [valiselaw6_lent.l1, if_neg (by omega)]
  obtain ⟨k, hk⟩ : ∃ k, FU = k + 9 := ⟨36893488147419103223, rfl⟩
  have key : valiselaw6_lent.l1 FU a 0 = some (a ++ List.replicate 8 (-77)) := by
    rw [hk]
    have z : (0 : Int) = ((0 : Nat) : Int) := rfl
    rw [z]
    rw [step _ 0 _ (by omega) rfl, step _ 1 _ (by omega) (by simp), step _ 2 _ (by omega) (by simp), step _ 3 _ (by omega) (by simp), step _ 4 _ (by omega) (by simp), step _ 5 _ (by omega) (by simp), step _ 6 _ (by omega) (by simp), step _ 7 _ (by omega) (by simp), stop]
    simp [List.replicate]
  simp only [Option.bind_some]
  rw [key]
  simp only [Option.bind_some]
  rw [gd_pos (by simp; omega)]
  rfl

theorem rd_take {l : List Int} {n i : Nat} (h : i < n) : rd (l.take n) (i : Int) = rd l (i : Int) := by
  show (l.take n).getD ((i : Int).toNat) 0 = l.getD ((i : Int).toNat) 0
  rw [Int.toNat_natCast, List.getD_eq_getElem?_getD, List.getD_eq_getElem?_getD, List.getElem?_take, if_pos h]
theorem valiselaw6_still_spec (a : List Int) (h : (a.length : Int) ≤ 140737488351232) : valiselaw6_still.f (a ++ List.replicate 8 (-77)) a.length a = some true := by
  unfold valiselaw6_still.f
  have hw : IntKind.i64.wrap ((a.length : Int) + 8) = ((a.length + 8 : Nat) : Int) := by rw [wr_i64 (by omega)]; rfl
  have hlen : (a ++ List.replicate 8 (-77 : Int)).length = a.length + 8 := by simp
  have ht : (a ++ List.replicate 8 (-77 : Int)).take (a.length + 8) = a ++ List.replicate 8 (-77) := List.take_of_length_le (by rw [hlen]; exact Nat.le_refl _)
  rw [if_neg (by simp), hw, gd_pos (by rw [hlen]; omega)]
  have key := list_loop1 (a ++ List.replicate 8 (-77 : Int)) (by rw [hlen]; omega) (fun k i (_ : Unit) => valiselaw6_still.l1 k i (a ++ List.replicate 8 (-77)) a) (fun i x _ => .inr ()) (fun _ => .inr ())
    (fun k _ => by rw [valiselaw6_still.l1, hw, Int.toNat_natCast, ht, if_neg (by omega)])
    (fun k i x _ hx hi => by
      rw [hlen] at hi
      have e1 : rd (a ++ List.replicate 8 (-77 : Int)) (i : Int) = x := rd_at hx
      rw [valiselaw6_still.l1, hw, Int.toNat_natCast, ht, if_pos (by rw [hlen]; omega)]
      by_cases hc : (i : Int) < (a.length : Int)
      · have e2 : rd a (i : Int) = x := by
          rw [List.getElem?_append_left (by omega)] at hx
          exact rd_at hx
        have hc' : ¬ ((a.length : Int) ≤ (i : Int)) := by omega
        rw [if_pos hc, gd_pos (by rw [hlen]; omega), gd_pos (by omega), e1, e2]
        simp only [Option.bind_some, ne_eq, not_true_eq_false, decide_false, Bool.false_eq_true, if_false, if_neg hc']
        rw [bnd_eq, inc_i (by omega)]
      · have e2 : x = -77 := by
          rw [List.getElem?_append_right (by omega)] at hx
          have := List.mem_of_getElem? hx
          exact List.eq_of_mem_replicate this
        have hc' : (a.length : Int) ≤ (i : Int) := by omega
        rw [if_neg hc]
        simp only [Option.bind_some, Bool.false_eq_true, if_false, if_pos hc']
        rw [gd_pos (by rw [hlen]; omega), e1, e2]
        simp only [Option.bind_some, ne_eq, not_true_eq_false, decide_false, Bool.false_eq_true, if_false]
        rw [bnd_eq, inc_i (by omega)]) ()
  have key' : valiselaw6_still.l1 FU 0 (a ++ List.replicate 8 (-77)) a = _ := key
  rw [key', foldE_ok _ _ (fun _ _ _ => rfl)]
  rfl


def okF (x : Int) : Prop := ¬ (x < 0 ∨ 4294967296 < x)
theorem used_loop (a : List Int) (h : a.length ≤ 288) : (∃ s, build_used.l1 FU [] 0 a = some (.inr s) ∧ ∀ x ∈ a, okF x) ∨ (build_used.l1 FU [] 0 a = some (.inl ([], 61)) ∧ ¬ ∀ x ∈ a, okF x) := by
  have key := list_loop0 a (by omega) (fun k i s => build_used.l1 k s i a) (fun i x s => if x < 0 ∨ 4294967296 < x then .inl (.inl ([], 61)) else .inr (if 0 < x then s ++ [(i : Int)] else s)) (fun s => .inr s) (fun i s => s.length ≤ i)
    (fun k s _ => by rw [build_used.l1, if_neg (by omega)])
    (fun k i x s hx hi hs => by
      have e1 : rd a (i : Int) = x := rd_at hx
      have e2 : (s ++ [(i : Int)]).length ≤ i + 1 := by simp; omega
      rw [build_used.l1, if_pos (by omega), gd_pos (by omega), e1, bnd_eq]
      by_cases hb : x < 0 ∨ 4294967296 < x
      · simp only [if_pos hb]
      · simp only [if_neg hb]
        by_cases hp : 0 < x
        · simp only [if_pos hp]
          rw [bnd_eq, gd_pos (by omega), Option.bind_some, inc_i (by omega)]
        · simp only [if_neg hp]
          rw [Option.bind_some, inc_i (by omega)])
    (fun i x s s' hx hi hs hg => by
      by_cases hb : x < 0 ∨ 4294967296 < x
      · simp only [if_pos hb] at hg; cases hg
      · simp only [if_neg hb] at hg
        cases hg
        by_cases hp : 0 < x
        · simp only [if_pos hp, List.length_append, List.length_singleton]; omega
        · simp only [if_neg hp]; omega) [] (Nat.le_refl _)
  have key' : build_used.l1 FU [] 0 a = _ := key
  rw [key']
  clear key key' h
  have gen : ∀ (l : List Int) (i : Nat) (s : List Int), (∃ s', foldE (fun i x (s : List Int) => if x < 0 ∨ 4294967296 < x then .inl (.inl ([], 61)) else .inr (if 0 < x then s ++ [(i : Int)] else s)) (fun s => (.inr s : Sum (List Int × Int) (List Int))) i l s = .inr s' ∧ ∀ x ∈ l, okF x) ∨
      (foldE (fun i x (s : List Int) => if x < 0 ∨ 4294967296 < x then .inl (.inl ([], 61)) else .inr (if 0 < x then s ++ [(i : Int)] else s)) (fun s => (.inr s : Sum (List Int × Int) (List Int))) i l s = .inl ([], 61) ∧ ¬ ∀ x ∈ l, okF x) := by
    intro l
    induction l with
    | nil => intro i s; exact .inl ⟨s, rfl, fun x hx => by cases hx⟩
    | cons x l ih =>
      intro i s
      rw [foldE]
      by_cases hb : x < 0 ∨ 4294967296 < x
      · simp only [if_pos hb]
        exact .inr ⟨trivial, fun h => h x (by simp) hb⟩
      · simp only [if_neg hb]
        rcases ih (i + 1) (if 0 < x then s ++ [(i : Int)] else s) with ⟨s', e, h⟩ | ⟨e, h⟩
        · exact .inl ⟨s', e, fun y hy => by rcases List.mem_cons.1 hy with rfl | hy; exact hb; exact h y hy⟩
        · exact .inr ⟨e, fun h' => h fun y hy => h' y (by simp [hy])⟩
  rcases gen a 0 [] with ⟨s', e, h⟩ | ⟨e, h⟩
  · exact .inl ⟨s', by rw [e], h⟩
  · exact .inr ⟨by rw [e], h⟩

theorem weighs_eq (a : List Int) (h : a.length ≤ 288) : ((∀ x ∈ a, okF x) → valiseref6_weighs.f a = some true) ∧ ((¬ ∀ x ∈ a, okF x) → valiseref6_weighs.f a = some false) := by
  have key := list_loop1 a (by omega) (fun k i (_ : Unit) => valiseref6_weighs.l1 k i a) (fun i x _ => if x < 0 ∨ 4294967296 < x then .inl (.inl false) else .inr ()) (fun s => .inr ())
    (fun k s => by rw [valiseref6_weighs.l1, if_neg (by omega)])
    (fun k i x s hx hi => by
      have e1 : rd a (i : Int) = x := rd_at hx
      rw [valiseref6_weighs.l1, if_pos (by omega), gd_pos (by omega), e1]
      by_cases hb : x < 0 ∨ 4294967296 < x
      · simp only [if_pos hb]
      · simp only [if_neg hb]
        rw [bnd_eq, inc_i (by omega)]) ()
  have key' : valiseref6_weighs.l1 FU 0 a = _ := key
  constructor
  · intro hh
    rw [valiseref6_weighs.f, key', foldE_ok a 0 (fun j x hx => if_neg (hh x (List.mem_of_getElem? hx)))]
    rfl
  · intro hh
    rw [valiseref6_weighs.f, key', foldE_bad (bad := .inl false) a 0 (fun j x hx => by by_cases hb : x < 0 ∨ 4294967296 < x <;> simp [hb]) ?_]
    · rfl
    · apply Classical.byContradiction
      intro hn
      apply hh
      intro x hx hb
      obtain ⟨j, hj⟩ := List.getElem?_of_mem hx
      exact hn ⟨j, x, hj, by rw [if_pos hb]; intro h3; cases h3⟩

theorem cost_l1 (b : List Int) (h : b.length ≤ 288) : build_Cost.l1 FU 0 b = valiseref6_Cost.l1 FU 0 b ∧ ∃ r, build_Cost.l1 FU 0 b = some r := by
  have key := list_loop1 b (by omega) (fun k i (_ : Unit) => build_Cost.l1 k i b) (fun i x _ => if x < 0 ∨ 288 < x then .inl (.inl (0, 1)) else .inr ()) (fun s => .inr ())
    (fun k s => by rw [build_Cost.l1, if_neg (by omega)])
    (fun k i x s hx hi => by
      have e1 : rd b (i : Int) = x := rd_at hx
      rw [build_Cost.l1, if_pos (by omega), gd_pos (by omega), e1, bnd_eq]
      by_cases hb : x < 0 ∨ 288 < x
      · simp only [if_pos hb]
      · simp only [if_neg hb]
        rw [inc_i (by omega)]) ()
  have key2 := list_loop1 b (by omega) (fun k i (_ : Unit) => valiseref6_Cost.l1 k i b) (fun i x _ => if x < 0 ∨ 288 < x then .inl (.inl (0, 1)) else .inr ()) (fun s => .inr ())
    (fun k s => by rw [valiseref6_Cost.l1, if_neg (by omega)])
    (fun k i x s hx hi => by
      have e1 : rd b (i : Int) = x := rd_at hx
      rw [valiseref6_Cost.l1, if_pos (by omega), gd_pos (by omega), e1]
      by_cases hb : x < 0 ∨ 288 < x
      · simp only [if_pos hb]
      · simp only [if_neg hb]
        rw [bnd_eq, inc_i (by omega)]) ()
  have k1 : build_Cost.l1 FU 0 b = _ := key
  have k2 : valiseref6_Cost.l1 FU 0 b = _ := key2
  exact ⟨k1.trans k2.symm, _, k1⟩

theorem cost_l3 (a b : List Int) (h : a.length ≤ 288) (hl : b.length = a.length) : build_Cost.l3 FU 0 0 a b = valiseref6_Cost.l3 FU 0 0 a b ∧ ∃ r, build_Cost.l3 FU 0 0 a b = some r := by
  have key := list_loop1 a (by omega) (fun k i s => build_Cost.l3 k s i a b) (fun i x s => .inr (IntKind.i64.wrap (s + IntKind.i64.wrap (x * rd b (i : Int))))) (fun s => s)
    (fun k s => by rw [build_Cost.l3, if_neg (by omega)])
    (fun k i x s hx hi => by
      have e1 : rd a (i : Int) = x := rd_at hx
      rw [build_Cost.l3, if_pos (by omega), gd_pos (by omega), e1, bnd_eq, gd_pos (by omega), bnd_eq, inc_i (by omega)]) 0
  have key2 := list_loop1 a (by omega) (fun k i s => valiseref6_Cost.l3 k s i a b) (fun i x s => .inr (IntKind.i64.wrap (s + IntKind.i64.wrap (x * rd b (i : Int))))) (fun s => s)
    (fun k s => by rw [valiseref6_Cost.l3, if_neg (by omega)])
    (fun k i x s hx hi => by
      have e1 : rd a (i : Int) = x := rd_at hx
      rw [valiseref6_Cost.l3, if_pos (by omega), gd_pos (by omega), e1, gd_pos (by omega), bnd_eq, bnd_eq, inc_i (by omega)]) 0
  have k1 : build_Cost.l3 FU 0 0 a b = _ := key
  have k2 : valiseref6_Cost.l3 FU 0 0 a b = _ := key2
  exact ⟨k1.trans k2.symm, _, k1⟩

theorem cost_eq (a b : List Int) : ∃ r e, build_Cost.f a b = some (r, e) ∧ valiseref6_Cost.f a b = some (r, e) := by
  unfold build_Cost.f valiseref6_Cost.f
  by_cases h : 288 < (a.length : Int) ∨ (b.length : Int) ≠ (a.length : Int)
  · rw [if_pos h, if_pos h]; exact ⟨_, _, rfl, rfl⟩
  · rw [if_neg h, if_neg h]
    obtain ⟨e1, r1, hr1⟩ := cost_l1 b (by omega)
    rw [← e1, hr1]
    simp only [Option.bind_some]
    cases r1 with
    | inl r => exact ⟨r.1, r.2, rfl, rfl⟩
    | inr u =>
      simp only [onR]
      obtain ⟨e3, r3, hr3⟩ := cost_l3 a b (by omega) (by omega)
      rw [← e3, hr3]
      unfold build_used.f
      rw [if_neg (by omega)]
      rcases used_loop a (by omega) with ⟨s, hs, hok⟩ | ⟨hs, hok⟩
      · rw [hs, (weighs_eq a (by omega)).1 hok]
        exact ⟨_, _, rfl, rfl⟩
      · rw [hs, (weighs_eq a (by omega)).2 hok]
        exact ⟨_, _, rfl, rfl⟩

theorem valiselaw6_BuildCosts_true (a b : List Int) (ha : ∀ x ∈ a, (Lit.int .i64 x).wf = true) (wa : a.length * 8 ≤ 140737488351232) (hb : ∀ x ∈ b, (Lit.int .i64 x).wf = true) (wb : b.length * 8 ≤ 140737488351232) : valiselaw6_BuildCosts.f a b = some true := by
  unfold valiselaw6_BuildCosts.f valiselaw6_num.f
  rw [valiselaw6_lent_spec a (by omega), valiselaw6_lent_spec b (by omega)]
  simp only [Option.bind_some]
  rw [List.take_left, List.take_left]
  obtain ⟨r, e, h1, h2⟩ := cost_eq a b
  rw [h1, h2]
  simp only [Option.bind_some, and_self, if_true]
  rw [valiselaw6_still_spec a (by omega), valiselaw6_still_spec b (by omega)]
  rfl

end Go.V.Pu
