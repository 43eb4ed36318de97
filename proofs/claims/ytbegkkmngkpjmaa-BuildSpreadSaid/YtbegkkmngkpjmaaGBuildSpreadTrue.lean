/- The plain law: symbols that are not used change nothing. -/
import Derived.Test.YtbegkkmngkpjmaaGBuildSpreadPure
import Derived.Test.YtbegkkmngkpjmaaQ9
import Derived.Test.YtbegkkmngkpjmaaQ13
set_option linter.unusedVariables false
set_option linter.unusedSimpArgs false
namespace Go.V.Pu
open Go Go.V
theorem flat_one {β : Type} (l : List β) : (l.mapIdx fun _ x => [x]).flatten = l := by
  induction l with
  | nil => rfl
  | cons x l ih => rw [List.mapIdx_cons, List.flatten_cons]; exact congrArg (x :: ·) ih
theorem valiselaw6_copied_spec (a : List Int) (h : (a.length : Int) * 8 ≤ 140737488355328) : valiselaw6_copied.f a = some a := by
  unfold valiselaw6_copied.f
  have key := list_loop0 a (by omega) (fun k i s => valiselaw6_copied.l1 k s i a) (fun i x s => .inr (s ++ [x])) (fun s => s) (fun i s => s.length = i)
    (fun k s _ => by rw [valiselaw6_copied.l1, if_neg (by omega)])
    (fun k i x s hx hi hs => by
      have e1 : rd a (i : Int) = x := rd_at hx
      have e2 : (s ++ [x]).length = i + 1 := by simp [hs]
      rw [valiselaw6_copied.l1, if_pos (by omega), gd_pos (by omega), e1, bnd_eq, gd_pos (by rw [e2]; omega), bnd_eq, inc_i (by omega)])
    (fun i x s s' hx hi hs hg => by cases hg; simp [hs]) [] rfl
  have key' : valiselaw6_copied.l1 FU [] 0 a = _ := key
  rw [key', foldE_app (f := fun _ x => [x])]
  simp [flat_one]

theorem rd_mid (A B : List Int) (x : Int) {i : Int} (h : i = (A.length : Int)) : rd (A ++ x :: B) i = x := by
  subst h; exact rd_at (by rw [List.getElem?_append_right (Nat.le_refl _), Nat.sub_self]; rfl)
theorem set_mid {α : Type} (A B : List α) (x y : α) {i : Nat} (h : i = A.length) : (A ++ x :: B).set i y = A ++ y :: B := by
  subst h; rw [List.set_append_right _ _ (Nat.le_refl _), Nat.sub_self]; rfl
theorem wr_add {a b : Nat} (h : a + b < 9223372036854775807) : IntKind.i64.wrap ((a : Int) + (b : Int)) = ((a + b : Nat) : Int) := by rw [wr_i64 (by omega)]; rfl
theorem wr_sub {a b : Nat} (h : b ≤ a) (h2 : a < 9223372036854775807) : IntKind.i64.wrap ((a : Int) - (b : Int)) = ((a - b : Nat) : Int) := by rw [wr_i64 (by omega)]; omega

theorem swap_loop (fr : List Int) (P Q R : List Int) (hl : P.length + Q.length + R.length ≤ 1000000) : ∀ (U2 V2 : List Int) (k : Nat) (U1 V1 : List Int), U2.length = V2.length → U1.length = V1.length → U1.length + U2.length ≤ 1000000 → U2.length < k →
    slices_swapRangeCmpFunc_int_cbuild_Limited_1.l1 k (P ++ (V1 ++ (U2 ++ (Q ++ (U1 ++ (V2 ++ R)))))) (V1.length : Int) (P.length : Int) ((P.length + (U1.length + U2.length) + Q.length : Nat) : Int) ((U1.length + U2.length : Nat) : Int) = some (P ++ (V1 ++ (V2 ++ (Q ++ (U1 ++ (U2 ++ R)))))) := by
  intro U2
  induction U2 with
  | nil =>
    intro V2 k U1 V1 h2 h1 hn hk
    obtain ⟨k, rfl⟩ : ∃ j, k = j + 1 := ⟨k - 1, by omega⟩
    obtain rfl : V2 = [] := List.eq_nil_of_length_eq_zero h2.symm
    rw [slices_swapRangeCmpFunc_int_cbuild_Limited_1.l1, if_neg (by simp only [List.length_nil]; omega)]
  | cons u U2 ih =>
    intro V2 k U1 V1 h2 h1 hn hk
    obtain ⟨k, rfl⟩ : ∃ j, k = j + 1 := ⟨k - 1, by omega⟩
    obtain ⟨v, V2, rfl⟩ : ∃ v W, V2 = v :: W := by cases V2 with | nil => simp at h2 | cons v W => exact ⟨v, W, rfl⟩
    simp only [List.length_cons] at h2 hn hk ⊢
    have ea : IntKind.i64.wrap ((P.length : Int) + (V1.length : Int)) = ((P.length + V1.length : Nat) : Int) := wr_add (by omega)
    have eb : IntKind.i64.wrap (((P.length + (U1.length + (U2.length + 1)) + Q.length : Nat) : Int) + (V1.length : Int)) = ((P.length + (U1.length + (U2.length + 1)) + Q.length + V1.length : Nat) : Int) := wr_add (by omega)
    have s1 : P ++ (V1 ++ (u :: U2 ++ (Q ++ (U1 ++ (v :: V2 ++ R))))) = (P ++ V1) ++ u :: (U2 ++ (Q ++ (U1 ++ (v :: V2 ++ R)))) := by simp
    have s2 : P ++ (V1 ++ (u :: U2 ++ (Q ++ (U1 ++ (v :: V2 ++ R))))) = (P ++ (V1 ++ (u :: U2 ++ (Q ++ U1)))) ++ v :: (V2 ++ R) := by simp
    have s3 : (P ++ V1) ++ v :: (U2 ++ (Q ++ (U1 ++ (v :: V2 ++ R)))) = (P ++ (V1 ++ (v :: U2 ++ (Q ++ U1)))) ++ v :: (V2 ++ R) := by simp
    have s4 : (P ++ (V1 ++ (v :: U2 ++ (Q ++ U1)))) ++ u :: (V2 ++ R) = P ++ ((V1 ++ [v]) ++ (U2 ++ (Q ++ ((U1 ++ [u]) ++ (V2 ++ R))))) := by simp
    have ra := rd_mid (P ++ V1) (U2 ++ (Q ++ (U1 ++ (v :: V2 ++ R)))) u (i := ((P.length + V1.length : Nat) : Int)) (by simp)
    have rb := rd_mid (P ++ (V1 ++ (u :: U2 ++ (Q ++ U1)))) (V2 ++ R) v (i := ((P.length + (U1.length + (U2.length + 1)) + Q.length + V1.length : Nat) : Int)) (by simp; omega)
    rw [← s1] at ra
    rw [← s2] at rb
    have len : (P ++ (V1 ++ (u :: U2 ++ (Q ++ (U1 ++ (v :: V2 ++ R)))))).length = P.length + V1.length + U2.length + 1 + Q.length + U1.length + V2.length + 1 + R.length := by simp; omega
    have key := ih V2 k (U1 ++ [u]) (V1 ++ [v]) (by omega) (by simp; omega) (by simp; omega) (by omega)
    simp only [List.length_append, List.length_cons, List.length_nil] at key
    rw [slices_swapRangeCmpFunc_int_cbuild_Limited_1.l1, if_pos (by omega), ea, eb, gd_pos (by omega), gd_pos (by omega), bnd_eq, rb, ra, Int.toNat_natCast, s1, set_mid _ _ _ _ (by simp), s3, gd_pos (by simp; omega), Int.toNat_natCast, bnd_eq, set_mid _ _ _ _ (by simp; omega), bnd_eq, inc_i (by omega), s4]
    rw [show U1.length + (U2.length + 1) = U1.length + (0 + 1) + U2.length by omega, show V1.length + 1 = V1.length + (0 + 1) by omega]
    refine key.trans ?_
    simp
theorem swap_spec (fr : List Int) (P U Q V R : List Int) (h : U.length = V.length) (hl : P.length + U.length + Q.length + R.length ≤ 500000) :
    slices_swapRangeCmpFunc_int_cbuild_Limited_1.f (P ++ (U ++ (Q ++ (V ++ R)))) (P.length : Int) ((P.length + U.length + Q.length : Nat) : Int) (U.length : Int) fr = some (P ++ (V ++ (Q ++ (U ++ R)))) := by
  have key := swap_loop fr P Q R (by omega) U V FU [] [] h rfl (by simp; omega) (by rw [FU_eq]; omega)
  simp only [List.length_nil, Nat.zero_add, List.nil_append] at key
  have key' : slices_swapRangeCmpFunc_int_cbuild_Limited_1.l1 FU (P ++ (U ++ (Q ++ (V ++ R)))) 0 (P.length : Int) ((P.length + U.length + Q.length : Nat) : Int) (U.length : Int) = _ := key
  rw [slices_swapRangeCmpFunc_int_cbuild_Limited_1.f, key']
  simp only [Option.bind_some]
  rw [gd_pos (by simp; omega)]
theorem rot_loop (fr : List Int) (N : Nat) : ∀ (k : Nat) (P X Y Z : List Int), X.length + Y.length ≤ N → N < k → 1 ≤ X.length → 1 ≤ Y.length → P.length + X.length + Y.length + Z.length ≤ 400000 →
    (slices_rotateCmpFunc_int_cbuild_Limited_1.l1 k (P ++ (X ++ (Y ++ Z))) (X.length : Int) (Y.length : Int) ((P.length + X.length : Nat) : Int) fr).bind (fun (l178, i_179) => (slices_swapRangeCmpFunc_int_cbuild_Limited_1.f l178 (IntKind.i64.wrap (((P.length + X.length : Nat) : Int) - i_179)) ((P.length + X.length : Nat) : Int) i_179 fr)) = some (P ++ (Y ++ (X ++ Z))) := by
  induction N with
  | zero => intro k P X Y Z h1 h2 h3; omega
  | succ N ih =>
    intro k P X Y Z hN hk hX hY hl
    obtain ⟨k, rfl⟩ : ∃ j, k = j + 1 := ⟨k - 1, by omega⟩
    have ei : IntKind.i64.wrap (((P.length + X.length : Nat) : Int) - (X.length : Int)) = (P.length : Int) := by rw [wr_sub (by omega) (by omega)]; congr 1; omega
    by_cases e : X.length = Y.length
    · rw [slices_rotateCmpFunc_int_cbuild_Limited_1.l1, if_neg (by omega)]
      simp only [Option.bind_some]
      have key := swap_spec fr P X [] Y Z e (by simp; omega)
      simp only [List.length_nil, Nat.add_zero, List.nil_append] at key
      rw [ei, key]
    · rw [slices_rotateCmpFunc_int_cbuild_Limited_1.l1, if_pos (by omega)]
      by_cases c : Y.length < X.length
      · rw [if_pos (by omega)]
        -- X = Xa ++ Xb
        obtain ⟨Xa, Xb, rfl, hXa⟩ : ∃ Xa Xb, X = Xa ++ Xb ∧ Xa.length = Y.length := ⟨X.take Y.length, X.drop Y.length, (List.take_append_drop _ _).symm, by rw [List.length_take]; omega⟩
        simp only [List.length_append] at *
        have key := swap_spec fr P Xa Xb Y Z hXa (by omega)
        have e1 : ((P.length + Xa.length + Xb.length : Nat) : Int) = ((P.length + (Xa.length + Xb.length) : Nat) : Int) := by congr 1; omega
        have e2 : IntKind.i64.wrap (((Y.length + Xb.length : Nat) : Int) - (Y.length : Int)) = (Xb.length : Int) := by rw [wr_sub (by omega) (by omega)]; congr 1; omega
        rw [ei, ← hXa, ← e1, List.append_assoc, key]
        simp only [Option.bind_some]
        rw [bnd_eq, hXa, e2]
        simp only [Option.bind_some]
        have k2 := ih k (P ++ Y) Xb Xa Z (by omega) (by omega) (by omega) (by omega) (by simp; omega)
        simp only [List.length_append, List.append_assoc] at k2
        rw [hXa] at k2 e1
        rw [show P.length + Y.length + Xb.length = P.length + (Y.length + Xb.length) by omega] at k2
        rw [show P.length + Y.length + Xb.length = P.length + (Y.length + Xb.length) by omega]
        refine k2.trans ?_
        simp
      · rw [if_neg (by omega)]
        obtain ⟨Ya, Yb, rfl, hYb⟩ : ∃ Ya Yb, Y = Ya ++ Yb ∧ Yb.length = X.length := ⟨Y.take (Y.length - X.length), Y.drop (Y.length - X.length), (List.take_append_drop _ _).symm, by rw [List.length_drop]; omega⟩
        simp only [List.length_append] at *
        have key := swap_spec fr P X Ya Yb Z hYb.symm (by omega)
        have e1 : IntKind.i64.wrap (IntKind.i64.wrap (((P.length + X.length : Nat) : Int) + ((Ya.length + Yb.length : Nat) : Int)) - (X.length : Int)) = ((P.length + X.length + Ya.length : Nat) : Int) := by
          rw [wr_add (by omega), wr_sub (by omega) (by omega)]; congr 1; omega
        have e2 : IntKind.i64.wrap (((Ya.length + Yb.length : Nat) : Int) - (X.length : Int)) = (Ya.length : Int) := by rw [wr_sub (by omega) (by omega)]; congr 1; omega
        rw [ei, e1, List.append_assoc Ya, key]
        simp only [Option.bind_some]
        rw [bnd_eq, e2]
        simp only [Option.bind_some]
        have k2 := ih k P Yb Ya (X ++ Z) (by omega) (by omega) (by omega) (by omega) (by simp; omega)
        rw [hYb] at k2
        rw [k2, List.append_assoc]
theorem rot_spec (fr : List Int) (P X Y Z : List Int) (hX : 1 ≤ X.length) (hY : 1 ≤ Y.length) (hl : P.length + X.length + Y.length + Z.length ≤ 400000) :
    slices_rotateCmpFunc_int_cbuild_Limited_1.f (P ++ (X ++ (Y ++ Z))) (P.length : Int) ((P.length + X.length : Nat) : Int) ((P.length + X.length + Y.length : Nat) : Int) fr = some (P ++ (Y ++ (X ++ Z))) := by
  have key := rot_loop fr (X.length + Y.length) FU P X Y Z (Nat.le_refl _) (by rw [FU_eq]; omega) hX hY hl
  have e1 : IntKind.i64.wrap (((P.length + X.length : Nat) : Int) - (P.length : Int)) = (X.length : Int) := by rw [wr_sub (by omega) (by omega)]; congr 1; omega
  have e2 : IntKind.i64.wrap (((P.length + X.length + Y.length : Nat) : Int) - ((P.length + X.length : Nat) : Int)) = (Y.length : Int) := by rw [wr_sub (by omega) (by omega)]; congr 1; omega
  rw [slices_rotateCmpFunc_int_cbuild_Limited_1.f, bnd_eq, bnd_eq, e1, e2]
  obtain ⟨⟨l, i⟩, h1, h2⟩ := Option.bind_eq_some_iff.1 key
  rw [h1]
  simp only [Option.bind_some] at h2 ⊢
  rw [h2]
  simp only [Option.bind_some]
  rw [gd_pos (by simp; omega)]

theorem cmp_spec (fr : List Int) {x y : Int} (hx : okS fr x) (hy : okS fr y) : build_Limited_1.f x y fr = some (if rd fr x < rd fr y then -1 else if rd fr y < rd fr x then 1 else 0) := by
  rw [build_Limited_1.f, gd_pos (show 0 ≤ x ∧ x < (fr.length : Int) from hx), gd_pos (show 0 ≤ y ∧ y < (fr.length : Int) from hy), cmp_Compare_int.f, cmp_isNaN_int.f, cmp_isNaN_int.f]
  simp only [ne_eq, not_true_eq_false, decide_false, Option.bind_some, Bool.false_eq_true, if_false]
  split
  · rfl
  · split <;> rfl
/-- A search by halves. -/
theorem halves (L : Nat → Int → Int → Option Int) (T : Nat → Prop) [DecidablePred T] (lo hi : Nat) (hhi : hi ≤ 1000000)
    (stop : ∀ (k i : Nat), L (k + 1) (i : Int) (i : Int) = some (i : Int))
    (step : ∀ (k i j : Nat), lo ≤ i → i < j → j ≤ hi → L (k + 1) (i : Int) (j : Int) = if T ((i + j) / 2) then L k (((i + j) / 2 + 1 : Nat) : Int) (j : Int) else L k (i : Int) (((i + j) / 2 : Nat) : Int)) :
    ∀ (N k i j : Nat), lo ≤ i → i ≤ j → j ≤ hi → j - i ≤ N → N < k → (i = lo ∨ (lo < i ∧ T (i - 1))) → (j = hi ∨ ¬ T j) → ∃ s : Nat, L k (i : Int) (j : Int) = some (s : Int) ∧ lo ≤ s ∧ s ≤ hi ∧ (s = lo ∨ (lo < s ∧ T (s - 1))) ∧ (s = hi ∨ ¬ T s) := by
  intro N
  induction N with
  | zero =>
    intro k i j h1 h2 h3 h4 h5 h6 h7
    obtain ⟨k, rfl⟩ : ∃ q, k = q + 1 := ⟨k - 1, by omega⟩
    obtain rfl : i = j := by omega
    exact ⟨i, stop k i, h1, h3, h6, h7⟩
  | succ N ih =>
    intro k i j h1 h2 h3 h4 h5 h6 h7
    obtain ⟨k, rfl⟩ : ∃ q, k = q + 1 := ⟨k - 1, by omega⟩
    by_cases e : i = j
    · subst e; exact ⟨i, stop k i, h1, h3, h6, h7⟩
    · rw [step k i j h1 (by omega) h3]
      by_cases t : T ((i + j) / 2)
      · rw [if_pos t]
        exact ih k _ _ (by omega) (by omega) h3 (by omega) (by omega) (.inr ⟨by omega, by rw [Nat.add_sub_cancel]; exact t⟩) h7
      · rw [if_neg t]
        exact ih k _ _ h1 (by omega) (by omega) (by omega) (by omega) h6 (.inr t)
theorem half (i j : Nat) (h : i + j ≤ 4000000) : IntKind.i64.wrap (shr .u64 (IntKind.u64.wrap (IntKind.i64.wrap ((i : Int) + (j : Int)))) 1) = (((i + j) / 2 : Nat) : Int) := by
  rw [wr_add (by omega), wr_u64 (by omega)]
  have := shr_nat (k := .u64) (a := i + j) (n := 1) (by simp only [IntKind.bits]; omega)
  rw [show ((1 : Nat) : Int) = 1 from rfl] at this
  rw [this, Nat.pow_one, wr_i64 (by omega)]

theorem rd_ok {fr l : List Int} (h : okL fr l) {i : Nat} (hi : i < l.length) : okS fr (rd l (i : Int)) := by
  rw [rd_at (List.getElem?_eq_getElem hi)]; exact h _ (List.getElem_mem hi)
theorem rd_get {l : List Int} {i : Nat} (hi : i < l.length) : rd l (i : Int) = l[i] := rd_at (List.getElem?_eq_getElem hi)

/-- One that moves to the right. -/
theorem right_loop (x : Int) : ∀ (Y : List Int) (k : Nat) (P Z : List Int), Y.length < k → P.length + Y.length + Z.length ≤ 400000 →
    slices_symMergeCmpFunc_int_cbuild_Limited_1.l3 k (P ++ (x :: (Y ++ Z))) (P.length : Int) ((P.length + Y.length + 1 : Nat) : Int) = some (P ++ (Y ++ (x :: Z))) := by
  intro Y
  induction Y with
  | nil =>
    intro k P Z hk hl
    obtain ⟨k, rfl⟩ : ∃ q, k = q + 1 := ⟨k - 1, by omega⟩
    have e : IntKind.i64.wrap (((P.length + ([] : List Int).length + 1 : Nat) : Int) - 1) = (P.length : Int) := by
      have := wr_sub (a := P.length + ([] : List Int).length + 1) (b := 1) (by omega) (by simp; omega)
      rw [show ((1 : Nat) : Int) = 1 from rfl] at this
      rw [this]; simp
    rw [slices_symMergeCmpFunc_int_cbuild_Limited_1.l3, e, if_neg (by omega)]
    rfl
  | cons y Y ih =>
    intro k P Z hk hl
    simp only [List.length_cons] at hk hl ⊢
    obtain ⟨k, rfl⟩ : ∃ q, k = q + 1 := ⟨k - 1, by omega⟩
    have e : IntKind.i64.wrap (((P.length + (Y.length + 1) + 1 : Nat) : Int) - 1) = ((P.length + (Y.length + 1) : Nat) : Int) := by
      have := wr_sub (a := P.length + (Y.length + 1) + 1) (b := 1) (by omega) (by omega)
      rw [show ((1 : Nat) : Int) = 1 from rfl] at this
      rw [this]; congr 1
    have r1 : rd (P ++ (x :: (y :: Y ++ Z))) ((P.length + 1 : Nat) : Int) = y := by
      rw [show P ++ (x :: (y :: Y ++ Z)) = (P ++ [x]) ++ y :: (Y ++ Z) by simp]
      exact rd_mid _ _ _ (by simp)
    have r2 : rd (P ++ (x :: (y :: Y ++ Z))) (P.length : Int) = x := rd_mid P (y :: Y ++ Z) x rfl
    have s1 : (P ++ (x :: (y :: Y ++ Z))).set P.length y = P ++ (y :: (y :: Y ++ Z)) := set_mid P _ x y rfl
    have s2 : (P ++ (y :: (y :: Y ++ Z))).set (P.length + 1) x = (P ++ [y]) ++ (x :: (Y ++ Z)) := by
      have := set_mid (P ++ [y]) (Y ++ Z) y x (i := P.length + 1) (by simp)
      rw [← this]; simp
    have key := ih k (P ++ [y]) Z (by omega) (by simp; omega)
    simp only [List.length_append, List.length_cons, List.length_nil, Nat.zero_add] at key
    rw [slices_symMergeCmpFunc_int_cbuild_Limited_1.l3, e, if_pos (by omega), inc_i (by omega), gd_pos (by simp; omega), gd_pos (by simp; omega), bnd_eq, r1, r2, Int.toNat_natCast, s1, gd_pos (by simp; omega), bnd_eq, Int.toNat_natCast, s2, bnd_eq]
    rw [show P.length + (Y.length + 1) + 1 = P.length + 1 + Y.length + 1 by omega]
    refine key.trans ?_
    simp
/-- One that moves to the left. -/
theorem left_loop (y : Int) (N : Nat) : ∀ (X : List Int) (k : Nat) (P Z : List Int), X.length ≤ N → N < k → P.length + X.length + Z.length ≤ 400000 →
    slices_symMergeCmpFunc_int_cbuild_Limited_1.l7 k (P ++ (X ++ (y :: Z))) ((P.length + X.length : Nat) : Int) (P.length : Int) = some (P ++ (y :: (X ++ Z))) := by
  induction N with
  | zero =>
    intro X k P Z hN hk hl
    obtain rfl := List.eq_nil_of_length_eq_zero (by omega : X.length = 0)
    obtain ⟨k, rfl⟩ : ∃ q, k = q + 1 := ⟨k - 1, by omega⟩
    rw [slices_symMergeCmpFunc_int_cbuild_Limited_1.l7, if_neg (by simp)]
    rfl
  | succ N ih =>
    intro X k P Z hN hk hl
    by_cases hX : X = []
    · subst hX
      obtain ⟨k, rfl⟩ : ∃ q, k = q + 1 := ⟨k - 1, by omega⟩
      rw [slices_symMergeCmpFunc_int_cbuild_Limited_1.l7, if_neg (by simp)]
      rfl
    · obtain ⟨W, x, rfl⟩ : ∃ W x, X = W ++ [x] := ⟨X.dropLast, X.getLast hX, (List.dropLast_concat_getLast hX).symm⟩
      simp only [List.length_append, List.length_cons, List.length_nil, Nat.zero_add] at hN hl ⊢
      obtain ⟨k, rfl⟩ : ∃ q, k = q + 1 := ⟨k - 1, by omega⟩
      have e : IntKind.i64.wrap (((P.length + (W.length + 1) : Nat) : Int) - 1) = ((P.length + W.length : Nat) : Int) := by
        have := wr_sub (a := P.length + (W.length + 1)) (b := 1) (by omega) (by omega)
        rw [show ((1 : Nat) : Int) = 1 from rfl] at this
        rw [this]; congr 1
      have r1 : rd (P ++ (W ++ [x] ++ (y :: Z))) ((P.length + W.length : Nat) : Int) = x := by
        rw [show P ++ (W ++ [x] ++ (y :: Z)) = (P ++ W) ++ x :: (y :: Z) by simp]
        exact rd_mid _ _ _ (by simp)
      have r2 : rd (P ++ (W ++ [x] ++ (y :: Z))) ((P.length + (W.length + 1) : Nat) : Int) = y := by
        rw [show P ++ (W ++ [x] ++ (y :: Z)) = (P ++ (W ++ [x])) ++ y :: Z by simp]
        exact rd_mid _ _ _ (by simp)
      have s1 : (P ++ (W ++ [x] ++ (y :: Z))).set (P.length + (W.length + 1)) x = P ++ (W ++ [x] ++ (x :: Z)) := by
        have := set_mid (P ++ (W ++ [x])) Z y x (i := P.length + (W.length + 1)) (by simp)
        rw [show P ++ (W ++ [x] ++ (y :: Z)) = (P ++ (W ++ [x])) ++ y :: Z by simp, this]; simp
      have s2 : (P ++ (W ++ [x] ++ (x :: Z))).set (P.length + W.length) y = P ++ (W ++ (y :: (x :: Z))) := by
        have := set_mid (P ++ W) (x :: Z) x y (i := P.length + W.length) (by simp)
        rw [show P ++ (W ++ [x] ++ (x :: Z)) = (P ++ W) ++ x :: (x :: Z) by simp, this]; simp
      have key := ih W k P (x :: Z) (by omega) (by omega) (by simp; omega)
      rw [slices_symMergeCmpFunc_int_cbuild_Limited_1.l7, if_pos (by omega), e, gd_pos (by simp; omega), gd_pos (by simp; omega), bnd_eq, r1, r2, Int.toNat_natCast, s1, gd_pos (by simp; omega), bnd_eq, Int.toNat_natCast, s2, bnd_eq]
      refine key.trans ?_
      simp

theorem rd_X (P X W : List Int) {q : Nat} (h : q < X.length) {i : Int} (hi : i = ((P.length + q : Nat) : Int)) : rd (P ++ (X ++ W)) i = X[q] := by
  subst hi
  exact rd_at (by rw [List.getElem?_append_right (by omega), Nat.add_sub_cancel_left, List.getElem?_append_left h, List.getElem?_eq_getElem h])
theorem rd_Y (P X Y W : List Int) {q : Nat} (h : q < Y.length) {i : Int} (hi : i = ((P.length + X.length + q : Nat) : Int)) : rd (P ++ (X ++ (Y ++ W))) i = Y[q] := by
  rw [← List.append_assoc]
  exact rd_X (P ++ X) Y W h (by rw [List.length_append]; exact hi)
theorem pre_le {fr Y : List Int} (hp : Y.Pairwise (kle fr)) {i : Nat} (hi : i < Y.length) {x : Int} (h : kle fr Y[i] x) : ∀ z ∈ Y.take (i + 1), kle fr z x := by
  intro z hz
  obtain ⟨j, hj, rfl⟩ := List.mem_iff_getElem.1 hz
  rw [List.length_take] at hj
  rw [List.getElem_take]
  by_cases e : j = i
  · subst e; exact h
  · exact kle_trans (List.pairwise_iff_getElem.1 hp j i (by omega) hi (by omega)) h
theorem suf_ge {fr Y : List Int} (hp : Y.Pairwise (kle fr)) {i : Nat} (hi : i < Y.length) {x : Int} (h : kle fr x Y[i]) : ∀ z ∈ Y.drop i, kle fr x z := by
  intro z hz
  obtain ⟨j, hj, rfl⟩ := List.mem_iff_getElem.1 hz
  rw [List.length_drop] at hj
  rw [List.getElem_drop]
  by_cases e : j = 0
  · subst e; exact h
  · exact kle_trans h (List.pairwise_iff_getElem.1 hp i (i + j) hi (by omega) (by omega))
theorem okL_mem {fr l : List Int} (h : okL fr l) {m : List Int} (hm : ∀ x ∈ m, x ∈ l) : okL fr m := fun x hx => h x (hm x hx)
theorem cross {fr X Y : List Int} (hX : X.Pairwise (kle fr)) (hY : Y.Pairwise (kle fr)) {i j : Nat} (hi : i < X.length) (hj : j < Y.length) (h : kle fr X[i] Y[j]) : ∀ x ∈ X.take (i + 1), ∀ y ∈ Y.drop j, kle fr x y :=
  fun x hx y hy => suf_ge hY hj (pre_le hX hi h x hx) y hy

theorem sym_spec (fr : List Int) (N : Nat) : ∀ (kf : Nat) (P X Y Z : List Int), X.length + Y.length ≤ N → N < kf → 1 ≤ X.length → 1 ≤ Y.length → P.length + X.length + Y.length + Z.length ≤ 400000 → okL fr X → okL fr Y →
    (∀ x ∈ X, ∀ y ∈ Y, x < y) → X.Pairwise (kle fr) → Y.Pairwise (kle fr) →
    ∃ M : List Int, slices_symMergeCmpFunc_int_cbuild_Limited_1.f kf (P ++ (X ++ (Y ++ Z))) (P.length : Int) ((P.length + X.length : Nat) : Int) ((P.length + X.length + Y.length : Nat) : Int) fr = some (P ++ (M ++ Z)) ∧ M.Perm (X ++ Y) ∧ M.Pairwise (kle fr) := by
  induction N with
  | zero => intro kf P X Y Z h1 h2 h3; omega
  | succ N ih =>
    intro kf P X Y Z hN hk hX1 hY1 hl oX oY hXY sX sY
    obtain ⟨kf, rfl⟩ : ∃ q, kf = q + 1 := ⟨kf - 1, by omega⟩
    have em : IntKind.i64.wrap (((P.length + X.length : Nat) : Int) - (P.length : Int)) = (X.length : Int) := by rw [wr_sub (by omega) (by omega)]; congr 1; omega
    have eb : IntKind.i64.wrap (((P.length + X.length + Y.length : Nat) : Int) - ((P.length + X.length : Nat) : Int)) = (Y.length : Int) := by rw [wr_sub (by omega) (by omega)]; congr 1; omega
    have len : (P ++ (X ++ (Y ++ Z))).length = P.length + X.length + Y.length + Z.length := by simp; omega
    rw [slices_symMergeCmpFunc_int_cbuild_Limited_1.f, em]
    by_cases cA : X.length = 1
    · obtain ⟨x, rfl⟩ := List.length_eq_one_iff.1 cA
      rw [if_pos (by simp)]
      have hx : okS fr x := oX x (by simp)
      obtain ⟨s, hs, s1, s2, s3, s4⟩ := halves (fun k i j => slices_symMergeCmpFunc_int_cbuild_Limited_1.l1 k i j (P ++ ([x] ++ (Y ++ Z))) (P.length : Int) fr) (fun h => ∃ hq : h - (P.length + 1) < Y.length, rd fr (Y[h - (P.length + 1)]) < rd fr x) (P.length + 1) (P.length + 1 + Y.length) (by omega)
        (fun k i => by show slices_symMergeCmpFunc_int_cbuild_Limited_1.l1 _ _ _ _ _ _ = _; rw [slices_symMergeCmpFunc_int_cbuild_Limited_1.l1, if_neg (by omega)])
        (fun k i j h1 h2 h3 => by
          have hq : (i + j) / 2 - (P.length + 1) < Y.length := by omega
          have ra : rd (P ++ ([x] ++ (Y ++ Z))) (P.length : Int) = x := rd_X P [x] (Y ++ Z) (q := 0) (by simp) (by simp)
          have rb : rd (P ++ ([x] ++ (Y ++ Z))) (((i + j) / 2 : Nat) : Int) = Y[(i + j) / 2 - (P.length + 1)] := rd_Y P [x] Y Z hq (by simp; omega)
          show slices_symMergeCmpFunc_int_cbuild_Limited_1.l1 _ _ _ _ _ _ = _
          rw [slices_symMergeCmpFunc_int_cbuild_Limited_1.l1, if_pos (by omega), bnd_eq, half i j (by omega), gd_pos (by rw [len]; simp; omega), gd_pos (by rw [len]; simp; omega), ra, rb, cmp_spec fr (oY _ (List.getElem_mem hq)) hx]
          simp only [Option.bind_some]
          by_cases t : rd fr (Y[(i + j) / 2 - (P.length + 1)]) < rd fr x
          · rw [if_pos t, if_pos (by decide), bnd_eq, inc_i (by omega), if_pos ⟨hq, t⟩]
            rfl
          · rw [if_neg t, if_neg (by split <;> decide), if_neg (fun f => t f.2)]
            rfl) Y.length FU (P.length + 1) (P.length + 1 + Y.length) (Nat.le_refl _) (by omega) (Nat.le_refl _) (by omega) (by rw [FU_eq]; omega) (.inl rfl) (.inl rfl)
      simp only [List.length_cons, List.length_nil, Nat.zero_add]
      have hs' : slices_symMergeCmpFunc_int_cbuild_Limited_1.l1 FU ((P.length + 1 : Nat) : Int) ((P.length + 1 + Y.length : Nat) : Int) (P ++ ([x] ++ (Y ++ Z))) (P.length : Int) fr = some (s : Int) := hs
      rw [hs']
      simp only [Option.bind_some]
      have hy1 : (Y.take (s - (P.length + 1))).length = s - (P.length + 1) := by rw [List.length_take]; omega
      have key := right_loop x (Y.take (s - (P.length + 1))) FU P (Y.drop (s - (P.length + 1)) ++ Z) (by rw [FU_eq]; omega) (by simp; omega)
      rw [← List.append_assoc (Y.take _), List.take_append_drop, hy1, show P.length + (s - (P.length + 1)) + 1 = s by omega] at key
      have key' : slices_symMergeCmpFunc_int_cbuild_Limited_1.l3 FU (P ++ ([x] ++ (Y ++ Z))) (P.length : Int) (s : Int) = _ := key
      rw [key']
      simp only [Option.bind_some]
      refine ⟨Y.take (s - (P.length + 1)) ++ x :: Y.drop (s - (P.length + 1)), ?_, ?_, ?_⟩
      · have e2 : (P ++ (Y.take (s - (P.length + 1)) ++ x :: (Y.drop (s - (P.length + 1)) ++ Z))).length = (P ++ ([x] ++ (Y ++ Z))).length := by simp; omega
        rw [gd_pos e2]
        simp
      · refine List.perm_middle.trans ?_
        rw [List.take_append_drop]
        exact List.Perm.refl _
      · refine List.pairwise_append.2 ⟨sY.sublist (List.take_sublist _ _), List.pairwise_cons.2 ⟨?_, sY.sublist (List.drop_sublist _ _)⟩, ?_⟩
        · intro z hz
          rcases s4 with e | e
          · rw [List.drop_of_length_le (by omega)] at hz; cases hz
          · have hq : s - (P.length + 1) < Y.length := by
              apply Classical.byContradiction
              intro hc
              rw [List.drop_of_length_le (by omega)] at hz; cases hz
            exact suf_ge sY hq ((kle_not (hXY x (by simp) _ (List.getElem_mem hq))).2 (fun f => e ⟨hq, f⟩)) z hz
        · intro z hz w hw
          have hzx : kle fr z x := by
            rcases s3 with e | ⟨e, hq, t⟩
            · rw [show s - (P.length + 1) = 0 by omega] at hz; simp at hz
            · have h2 := pre_le sY hq ((kle_before (hXY x (by simp) _ (List.getElem_mem hq))).2 t) z
              rw [show s - 1 - (P.length + 1) + 1 = s - (P.length + 1) by omega] at h2
              exact h2 hz
          rcases List.mem_cons.1 hw with rfl | hw
          · exact hzx
          · exact List.pairwise_append.1 (by rw [List.take_append_drop]; exact sY : (Y.take (s - (P.length + 1)) ++ Y.drop (s - (P.length + 1))).Pairwise (kle fr)) |>.2.2 z hz w hw
    · rw [if_neg (by omega), eb]
      by_cases cB : Y.length = 1
      · obtain ⟨y, rfl⟩ := List.length_eq_one_iff.1 cB
        rw [if_pos (by simp)]
        have hy : okS fr y := oY y (by simp)
        obtain ⟨s, hs, s1, s2, s3, s4⟩ := halves (fun k i j => slices_symMergeCmpFunc_int_cbuild_Limited_1.l5 k i j (P ++ (X ++ ([y] ++ Z))) ((P.length + X.length : Nat) : Int) fr) (fun h => ∃ hq : h - P.length < X.length, ¬ rd fr y < rd fr (X[h - P.length])) P.length (P.length + X.length) (by omega)
          (fun k i => by show slices_symMergeCmpFunc_int_cbuild_Limited_1.l5 _ _ _ _ _ _ = _; rw [slices_symMergeCmpFunc_int_cbuild_Limited_1.l5, if_neg (by omega)])
          (fun k i j h1 h2 h3 => by
            have hq : (i + j) / 2 - P.length < X.length := by omega
            have ra : rd (P ++ (X ++ ([y] ++ Z))) ((P.length + X.length : Nat) : Int) = y := rd_Y P X [y] Z (q := 0) (by simp) (by simp)
            have rb : rd (P ++ (X ++ ([y] ++ Z))) (((i + j) / 2 : Nat) : Int) = X[(i + j) / 2 - P.length] := rd_X P X ([y] ++ Z) hq (by simp; omega)
            show slices_symMergeCmpFunc_int_cbuild_Limited_1.l5 _ _ _ _ _ _ = _
            rw [slices_symMergeCmpFunc_int_cbuild_Limited_1.l5, if_pos (by omega), bnd_eq, half i j (by omega), gd_pos (by rw [len]; simp; omega), gd_pos (by rw [len]; omega), ra, rb, cmp_spec fr hy (oX _ (List.getElem_mem hq))]
            simp only [Option.bind_some]
            by_cases t : rd fr y < rd fr (X[(i + j) / 2 - P.length])
            · rw [if_pos t, if_neg (by decide), if_neg (fun f => f.2 t)]
              rfl
            · rw [if_neg t, if_pos (by split <;> decide), bnd_eq, inc_i (by omega), if_pos ⟨hq, t⟩]
              rfl) X.length FU P.length (P.length + X.length) (Nat.le_refl _) (by omega) (Nat.le_refl _) (by omega) (by rw [FU_eq]; omega) (.inl rfl) (.inl rfl)
        have hs' : slices_symMergeCmpFunc_int_cbuild_Limited_1.l5 FU (P.length : Int) ((P.length + X.length : Nat) : Int) (P ++ (X ++ ([y] ++ Z))) ((P.length + X.length : Nat) : Int) fr = some (s : Int) := hs
        rw [hs']
        simp only [Option.bind_some]
        have hx1 : (X.take (s - P.length)).length = s - P.length := by rw [List.length_take]; omega
        have hx2 : (X.drop (s - P.length)).length = X.length - (s - P.length) := List.length_drop ..
        have key := left_loop y X.length (X.drop (s - P.length)) FU (P ++ X.take (s - P.length)) Z (by omega) (by rw [FU_eq]; omega) (by simp; omega)
        rw [List.length_append, hx1, hx2, show P.length + (s - P.length) = s by omega, show s + (X.length - (s - P.length)) = P.length + X.length by omega, List.append_assoc, ← List.append_assoc (X.take _), List.take_append_drop] at key
        have key' : slices_symMergeCmpFunc_int_cbuild_Limited_1.l7 FU (P ++ (X ++ ([y] ++ Z))) ((P.length + X.length : Nat) : Int) (s : Int) = _ := key
        rw [key']
        simp only [Option.bind_some]
        refine ⟨X.take (s - P.length) ++ y :: X.drop (s - P.length), ?_, ?_, ?_⟩
        · rw [gd_pos (by simp; omega)]
          simp
        · refine List.perm_middle.trans ?_
          rw [List.take_append_drop]
          exact (List.perm_append_comm (l₁ := [y]) (l₂ := X))
        · refine List.pairwise_append.2 ⟨sX.sublist (List.take_sublist _ _), List.pairwise_cons.2 ⟨?_, sX.sublist (List.drop_sublist _ _)⟩, ?_⟩
          · intro z hz
            rcases s4 with e | e
            · rw [List.drop_of_length_le (by omega)] at hz; cases hz
            · have hq : s - P.length < X.length := by
                apply Classical.byContradiction
                intro hc
                rw [List.drop_of_length_le (by omega)] at hz; cases hz
              have t : rd fr y < rd fr (X[s - P.length]) := by
                apply Classical.byContradiction
                intro f; exact e ⟨hq, f⟩
              exact suf_ge sX hq ((kle_before (hXY _ (List.getElem_mem hq) y (by simp))).2 t) z hz
          · intro z hz w hw
            have hzx : kle fr z y := by
              rcases s3 with e | ⟨e, hq, t⟩
              · rw [show s - P.length = 0 by omega] at hz; simp at hz
              · have h2 := pre_le sX hq ((kle_not (hXY _ (List.getElem_mem hq) y (by simp))).2 t) z
                rw [show s - 1 - P.length + 1 = s - P.length by omega] at h2
                exact h2 hz
            rcases List.mem_cons.1 hw with rfl | hw
            · exact hzx
            · exact List.pairwise_append.1 (by rw [List.take_append_drop]; exact sX : (X.take (s - P.length) ++ X.drop (s - P.length)).Pairwise (kle fr)) |>.2.2 z hz w hw
      · rw [if_neg (by omega), half _ _ (by omega), bnd_eq]
        obtain ⟨h, hh⟩ : ∃ h, h = (X.length + Y.length) / 2 := ⟨_, rfl⟩
        rw [show (P.length + (P.length + X.length + Y.length)) / 2 = P.length + h by omega, wr_add (by omega), bnd_eq]
        -- where the search begins and ends
        obtain ⟨u0, u1, e01, a1, a2, a3, a4, a5, a6⟩ : ∃ u0 u1 : Nat, (if ((P.length + h : Nat) : Int) < ((P.length + X.length : Nat) : Int) then (bnd (IntKind.i64.wrap (((P.length + h + (P.length + X.length) : Nat) : Int) - ((P.length + X.length + Y.length : Nat) : Int))) fun x888 => some (x888, ((P.length + h : Nat) : Int))) else (some ((P.length : Int), ((P.length + X.length : Nat) : Int)))) = some (((P.length + u0 : Nat) : Int), ((P.length + u1 : Nat) : Int)) ∧ u0 ≤ u1 ∧ u1 ≤ h ∧ u1 ≤ X.length ∧ h ≤ u0 + Y.length ∧ (u0 = 0 ∨ u0 + Y.length = h) ∧ (u1 = h ∨ u1 = X.length) := by
          by_cases c : h < X.length
          · refine ⟨h - Y.length, h, ?_, by omega, by omega, by omega, by omega, by omega, by omega⟩
            rw [if_pos (by omega), bnd_eq, wr_sub (by omega) (by omega)]
            congr 3; omega
          · exact ⟨0, X.length, by rw [if_neg (by omega)]; rfl, by omega, by omega, by omega, by omega, by omega, by omega⟩
        rw [e01]
        simp only [Option.bind_some]
        have e1 : IntKind.i64.wrap (((P.length + h + (P.length + X.length) : Nat) : Int) - 1) = ((P.length + h + (P.length + X.length) - 1 : Nat) : Int) := by
          have := wr_sub (a := P.length + h + (P.length + X.length)) (b := 1) (by omega) (by omega)
          rwa [show ((1 : Nat) : Int) = 1 from rfl] at this
        rw [bnd_eq, e1]
        obtain ⟨s, hs, s1, s2, s3, s4⟩ := halves (fun k i j => slices_symMergeCmpFunc_int_cbuild_Limited_1.l9 k i j (P ++ (X ++ (Y ++ Z))) fr ((P.length + h + (P.length + X.length) - 1 : Nat) : Int)) (fun c => ∃ (hq : c - P.length < X.length) (hr : P.length + h - 1 - c < Y.length), ¬ rd fr (Y[P.length + h - 1 - c]) < rd fr (X[c - P.length])) (P.length + u0) (P.length + u1) (by omega)
          (fun k i => by show slices_symMergeCmpFunc_int_cbuild_Limited_1.l9 _ _ _ _ _ _ = _; rw [slices_symMergeCmpFunc_int_cbuild_Limited_1.l9, if_neg (by omega)])
          (fun k i j h1 h2 h3 => by
            have hq : (i + j) / 2 - P.length < X.length := by omega
            have hr : P.length + h - 1 - (i + j) / 2 < Y.length := by omega
            have ec : IntKind.i64.wrap (((P.length + h + (P.length + X.length) - 1 : Nat) : Int) - (((i + j) / 2 : Nat) : Int)) = ((P.length + X.length + (P.length + h - 1 - (i + j) / 2) : Nat) : Int) := by
              rw [wr_sub (by omega) (by omega)]; congr 1; omega
            have ra : rd (P ++ (X ++ (Y ++ Z))) ((P.length + X.length + (P.length + h - 1 - (i + j) / 2) : Nat) : Int) = Y[P.length + h - 1 - (i + j) / 2] := rd_Y P X Y Z hr rfl
            have rb : rd (P ++ (X ++ (Y ++ Z))) (((i + j) / 2 : Nat) : Int) = X[(i + j) / 2 - P.length] := rd_X P X (Y ++ Z) hq (by congr 1; omega)
            show slices_symMergeCmpFunc_int_cbuild_Limited_1.l9 _ _ _ _ _ _ = _
            rw [slices_symMergeCmpFunc_int_cbuild_Limited_1.l9, if_pos (by omega), bnd_eq, half i j (by omega), ec, gd_pos (by rw [len]; omega), gd_pos (by rw [len]; omega), ra, rb, cmp_spec fr (oY _ (List.getElem_mem hr)) (oX _ (List.getElem_mem hq))]
            simp only [Option.bind_some]
            by_cases t : rd fr (Y[P.length + h - 1 - (i + j) / 2]) < rd fr (X[(i + j) / 2 - P.length])
            · rw [if_pos t, if_neg (by decide), if_neg (fun f => f.2.2 t)]
              rfl
            · rw [if_neg t, if_pos (by split <;> decide), bnd_eq, inc_i (by omega), if_pos ⟨hq, hr, t⟩]
              rfl) (P.length + u1) FU (P.length + u0) (P.length + u1) (Nat.le_refl _) (by omega) (Nat.le_refl _) (by omega) (by rw [FU_eq]; omega) (.inl rfl) (.inl rfl)
        have hs' : slices_symMergeCmpFunc_int_cbuild_Limited_1.l9 FU ((P.length + u0 : Nat) : Int) ((P.length + u1 : Nat) : Int) (P ++ (X ++ (Y ++ Z))) fr ((P.length + h + (P.length + X.length) - 1 : Nat) : Int) = some (s : Int) := hs
        rw [hs']
        simp only [Option.bind_some]
        obtain ⟨u, rfl⟩ : ∃ u, s = P.length + u := ⟨s - P.length, by omega⟩
        have e2 : IntKind.i64.wrap (((P.length + h + (P.length + X.length) : Nat) : Int) - ((P.length + u : Nat) : Int)) = ((P.length + X.length + (h - u) : Nat) : Int) := by
          rw [wr_sub (by omega) (by omega)]; congr 1; omega
        rw [bnd_eq, e2]
        have k3 : u = u0 ∨ ∀ x ∈ X.take u, ∀ y ∈ Y.drop (h - u), kle fr x y := by
          rcases s3 with e | ⟨e, hq, hr, t⟩
          · exact .inl (by omega)
          · right
            have k := cross sX sY hq hr ((kle_not (hXY _ (List.getElem_mem hq) _ (List.getElem_mem hr))).2 t)
            rw [show P.length + u - 1 - P.length + 1 = u by omega, show P.length + h - 1 - (P.length + u - 1) = h - u by omega] at k
            exact k
        have k4 : u = u1 ∨ ∀ y ∈ Y.take (h - u), ∀ x ∈ X.drop u, kle fr y x := by
          by_cases eu : u = u1
          · exact .inl eu
          · right
            have hq : P.length + u - P.length < X.length := by omega
            have hr : P.length + h - 1 - (P.length + u) < Y.length := by omega
            have t : rd fr (Y[P.length + h - 1 - (P.length + u)]) < rd fr (X[P.length + u - P.length]) := by
              rcases s4 with e | e
              · omega
              · apply Classical.byContradiction
                intro f; exact e ⟨hq, hr, f⟩
            have k := cross sY sX hr hq ((kle_before (hXY _ (List.getElem_mem hq) _ (List.getElem_mem hr))).2 t)
            rw [show P.length + h - 1 - (P.length + u) + 1 = h - u by omega, show P.length + u - P.length = u by omega] at k
            exact k
        clear s3 s4 hs hs' e01
        -- the four parts
        obtain ⟨X1, X2, rfl, lx1⟩ : ∃ X1 X2, X = X1 ++ X2 ∧ X1.length = u := ⟨X.take u, X.drop u, (List.take_append_drop _ _).symm, by rw [List.length_take]; omega⟩
        obtain ⟨Y1, Y2, rfl, ly1⟩ : ∃ Y1 Y2, Y = Y1 ++ Y2 ∧ Y1.length = h - u := ⟨Y.take (h - u), Y.drop (h - u), (List.take_append_drop _ _).symm, by rw [List.length_take]; omega⟩
        obtain ⟨sX1, sX2, sX12⟩ := List.pairwise_append.1 sX
        obtain ⟨sY1, sY2, sY12⟩ := List.pairwise_append.1 sY
        rw [← ly1, List.drop_left, ← lx1, List.take_left] at k3
        rw [← ly1, List.take_left, ← lx1, List.drop_left] at k4
        simp only [List.length_append] at *
        have hA : ∀ x ∈ X1, ∀ y ∈ Y2, kle fr x y := by
          rcases k3 with e | k
          · rcases a5 with e5 | e5
            · obtain rfl : X1 = [] := List.eq_nil_of_length_eq_zero (by omega)
              intro x hx; cases hx
            · obtain rfl : Y2 = [] := List.eq_nil_of_length_eq_zero (by omega)
              intro x _ y hy; cases hy
          · exact k
        have hB : ∀ y ∈ Y1, ∀ x ∈ X2, kle fr y x := by
          rcases k4 with e | k
          · rcases a6 with e6 | e6
            · obtain rfl : Y1 = [] := List.eq_nil_of_length_eq_zero (by omega)
              intro x hx; cases hx
            · obtain rfl : X2 = [] := List.eq_nil_of_length_eq_zero (by omega)
              intro x _ y hy; cases hy
          · exact k
        -- the turn
        have rot : (if ((P.length + u : Nat) : Int) < ((P.length + (X1.length + X2.length) : Nat) : Int) ∧ ((P.length + (X1.length + X2.length) : Nat) : Int) < ((P.length + (X1.length + X2.length) + (h - u) : Nat) : Int) then ((slices_rotateCmpFunc_int_cbuild_Limited_1.f (P ++ (X1 ++ X2 ++ (Y1 ++ Y2 ++ Z))) ((P.length + u : Nat) : Int) ((P.length + (X1.length + X2.length) : Nat) : Int) ((P.length + (X1.length + X2.length) + (h - u) : Nat) : Int) fr).bind fun z1087 => some z1087) else (some (P ++ (X1 ++ X2 ++ (Y1 ++ Y2 ++ Z))))) = some (P ++ (X1 ++ (Y1 ++ (X2 ++ (Y2 ++ Z))))) := by
          by_cases c : 0 < X2.length ∧ 0 < Y1.length
          · rw [if_pos (by omega)]
            have key := rot_spec fr (P ++ X1) X2 Y1 (Y2 ++ Z) (by omega) (by omega) (by simp; omega)
            simp only [List.length_append, List.append_assoc] at key
            simp only [List.append_assoc]
            rw [show P.length + (X1.length + X2.length) = P.length + X1.length + X2.length by omega, ← lx1, show P.length + X1.length + X2.length + (h - X1.length) = P.length + X1.length + X2.length + Y1.length by omega, key]
            rfl
          · rw [if_neg (by omega)]
            rcases (by omega : X2.length = 0 ∨ Y1.length = 0) with e | e
            · obtain rfl := List.eq_nil_of_length_eq_zero e; simp
            · obtain rfl := List.eq_nil_of_length_eq_zero e; simp
        rw [rot]
        simp only [Option.bind_some]
        -- the two halves
        have sub : ∀ (P' A B W : List Int), A.length + B.length ≤ N → P'.length + A.length + B.length + W.length ≤ 400000 → okL fr A → okL fr B → (∀ x ∈ A, ∀ y ∈ B, x < y) → A.Pairwise (kle fr) → B.Pairwise (kle fr) →
            ∃ M : List Int, (if ((P'.length : Nat) : Int) < ((P'.length + A.length : Nat) : Int) ∧ ((P'.length + A.length : Nat) : Int) < ((P'.length + A.length + B.length : Nat) : Int) then ((slices_symMergeCmpFunc_int_cbuild_Limited_1.f kf (P' ++ (A ++ (B ++ W))) (P'.length : Int) ((P'.length + A.length : Nat) : Int) ((P'.length + A.length + B.length : Nat) : Int) fr).bind fun z => some z) else (some (P' ++ (A ++ (B ++ W))))) = some (P' ++ (M ++ W)) ∧ M.Perm (A ++ B) ∧ M.Pairwise (kle fr) := by
          intro P' A B W h1 h2 h3 h4 h5 h6 h7
          by_cases c : 0 < A.length ∧ 0 < B.length
          · obtain ⟨M, m1, m2, m3⟩ := ih kf P' A B W h1 (by omega) (by omega) (by omega) h2 h3 h4 h5 h6 h7
            exact ⟨M, by rw [if_pos (by omega), m1]; rfl, m2, m3⟩
          · refine ⟨A ++ B, by rw [if_neg (by omega)]; simp, List.Perm.refl _, ?_⟩
            rcases (by omega : A.length = 0 ∨ B.length = 0) with e | e
            · obtain rfl := List.eq_nil_of_length_eq_zero e; simpa using h7
            · obtain rfl := List.eq_nil_of_length_eq_zero e; simpa using h6
        obtain ⟨M1, m1, m2, m3⟩ := sub P X1 Y1 (X2 ++ (Y2 ++ Z)) (by omega) (by simp; omega) (okL_mem oX (by simp; intro x h; exact .inl h)) (okL_mem oY (by simp; intro x h; exact .inl h)) (fun x hx y hy => hXY x (by simp [hx]) y (by simp [hy])) sX1 sY1
        rw [show P.length + u = P.length + X1.length by omega, show P.length + h = P.length + X1.length + Y1.length by omega, m1]
        simp only [Option.bind_some]
        have lM1 : M1.length = X1.length + Y1.length := by have := m2.length_eq; simpa using this
        obtain ⟨M2, n1, n2, n3⟩ := sub (P ++ M1) X2 Y2 Z (by omega) (by simp; omega) (okL_mem oX (by simp; intro x h; exact .inr h)) (okL_mem oY (by simp; intro x h; exact .inr h)) (fun x hx y hy => hXY x (by simp [hx]) y (by simp [hy])) sX2 sY2
        simp only [List.length_append, List.append_assoc, lM1] at n1
        rw [show P.length + (X1.length + X2.length) + (h - u) = P.length + (X1.length + Y1.length) + X2.length by omega, show P.length + (X1.length + X2.length) + (Y1.length + Y2.length) = P.length + (X1.length + Y1.length) + X2.length + Y2.length by omega, show P.length + X1.length + Y1.length = P.length + (X1.length + Y1.length) by omega, n1]
        simp only [Option.bind_some]
        have lM2 : M2.length = X2.length + Y2.length := by have := n2.length_eq; simpa using this
        refine ⟨M1 ++ M2, ?_, ?_, ?_⟩
        · rw [gd_pos (by simp; omega)]
          simp
        · refine (m2.append n2).trans ?_
          simp only [List.append_assoc]
          refine List.Perm.append_left X1 ?_
          rw [← List.append_assoc, ← List.append_assoc]
          exact List.Perm.append_right Y2 List.perm_append_comm
        · refine List.pairwise_append.2 ⟨m3, n3, fun x hx y hy => ?_⟩
          have hx := m2.subset hx
          have hy := n2.subset hy
          rcases List.mem_append.1 hx with hx | hx <;> rcases List.mem_append.1 hy with hy | hy
          · exact sX12 x hx y hy
          · exact hA x hx y hy
          · exact hB x hx y hy
          · exact sY12 x hx y hy

theorem ins_inner (fr : List Int) (x : Int) (hx : okS fr x) (N : Nat) : ∀ (A : List Int) (k : Nat) (P B R : List Int), A.length ≤ N → N < k → P.length + A.length + B.length + R.length ≤ 400000 → okL fr A → (∀ z ∈ A, z < x) → (A ++ B).Pairwise (kle fr) → (∀ z ∈ B, kle fr x z) →
    ∃ S : List Int, slices_insertionSortCmpFunc_int_cbuild_Limited_1.l13 k (P ++ (A ++ (x :: (B ++ R)))) ((P.length + A.length : Nat) : Int) (P.length : Int) fr = some (P ++ (S ++ R)) ∧ S.Perm (x :: (A ++ B)) ∧ S.Pairwise (kle fr) := by
  induction N with
  | zero =>
    intro A k P B R hN hk hl oA hA hp hB
    obtain rfl := List.eq_nil_of_length_eq_zero (by omega : A.length = 0)
    obtain ⟨k, rfl⟩ : ∃ q, k = q + 1 := ⟨k - 1, by omega⟩
    refine ⟨x :: B, ?_, List.Perm.refl _, List.pairwise_cons.2 ⟨hB, by simpa using hp⟩⟩
    rw [slices_insertionSortCmpFunc_int_cbuild_Limited_1.l13, if_neg (by simp)]
    simp
  | succ N ih =>
    intro A k P B R hN hk hl oA hA hp hB
    by_cases hA0 : A = []
    · subst hA0
      obtain ⟨k, rfl⟩ : ∃ q, k = q + 1 := ⟨k - 1, by omega⟩
      refine ⟨x :: B, ?_, List.Perm.refl _, List.pairwise_cons.2 ⟨hB, by simpa using hp⟩⟩
      rw [slices_insertionSortCmpFunc_int_cbuild_Limited_1.l13, if_neg (by simp)]
      simp
    · obtain ⟨W, y, rfl⟩ : ∃ W y, A = W ++ [y] := ⟨A.dropLast, A.getLast hA0, (List.dropLast_concat_getLast hA0).symm⟩
      simp only [List.length_append, List.length_cons, List.length_nil, Nat.zero_add] at hN hl ⊢
      obtain ⟨k, rfl⟩ : ∃ q, k = q + 1 := ⟨k - 1, by omega⟩
      have hy : okS fr y := oA y (by simp)
      have hyx : y < x := hA y (by simp)
      have e : IntKind.i64.wrap (((P.length + (W.length + 1) : Nat) : Int) - 1) = ((P.length + W.length : Nat) : Int) := by
        have := wr_sub (a := P.length + (W.length + 1)) (b := 1) (by omega) (by omega)
        rw [show ((1 : Nat) : Int) = 1 from rfl] at this
        rw [this]; congr 1
      have r1 : rd (P ++ (W ++ [y] ++ (x :: (B ++ R)))) ((P.length + W.length : Nat) : Int) = y := by
        rw [show P ++ (W ++ [y] ++ (x :: (B ++ R))) = (P ++ W) ++ y :: (x :: (B ++ R)) by simp]
        exact rd_mid _ _ _ (by simp)
      have r2 : rd (P ++ (W ++ [y] ++ (x :: (B ++ R)))) ((P.length + (W.length + 1) : Nat) : Int) = x := by
        rw [show P ++ (W ++ [y] ++ (x :: (B ++ R))) = (P ++ (W ++ [y])) ++ x :: (B ++ R) by simp]
        exact rd_mid _ _ _ (by simp)
      rw [slices_insertionSortCmpFunc_int_cbuild_Limited_1.l13, if_pos (by omega), e, gd_pos (by simp; omega), gd_pos (by simp; omega), r1, r2, cmp_spec fr hx hy]
      simp only [Option.bind_some]
      by_cases t : rd fr x < rd fr y
      · have s1 : (P ++ (W ++ [y] ++ (x :: (B ++ R)))).set (P.length + (W.length + 1)) y = P ++ (W ++ [y] ++ (y :: (B ++ R))) := by
          have := set_mid (P ++ (W ++ [y])) (B ++ R) x y (i := P.length + (W.length + 1)) (by simp)
          rw [show P ++ (W ++ [y] ++ (x :: (B ++ R))) = (P ++ (W ++ [y])) ++ x :: (B ++ R) by simp, this]; simp
        have s2 : (P ++ (W ++ [y] ++ (y :: (B ++ R)))).set (P.length + W.length) x = P ++ (W ++ (x :: (y :: B ++ R))) := by
          have := set_mid (P ++ W) (y :: (B ++ R)) y x (i := P.length + W.length) (by simp)
          rw [show P ++ (W ++ [y] ++ (y :: (B ++ R))) = (P ++ W) ++ y :: (y :: (B ++ R)) by simp, this]; simp
        rw [if_pos t, decide_eq_true (by decide : (-1 : Int) < 0), if_pos rfl, gd_pos (by simp; omega), gd_pos (by simp; omega), bnd_eq, Int.toNat_natCast, s1, gd_pos (by simp; omega), bnd_eq, Int.toNat_natCast, s2, bnd_eq]
        obtain ⟨S, h1, h2, h3⟩ := ih W k P (y :: B) R (by omega) (by omega) (by simp; omega) (okL_mem oA (by simp; intro z hz; exact .inl hz)) (fun z hz => hA z (by simp [hz])) (by simpa using hp) (fun z hz => by
          rcases List.mem_cons.1 hz with rfl | hz
          · exact (kle_before hyx).2 t
          · exact hB z hz)
        refine ⟨S, h1, h2.trans ?_, h3⟩
        simp
      · rw [if_neg t, decide_eq_false (by split <;> decide), if_neg (by decide)]
        refine ⟨W ++ [y] ++ (x :: B), by simp, List.perm_middle, ?_⟩
        obtain ⟨p1, p2, p3⟩ := List.pairwise_append.1 hp
        have hyx' : kle fr y x := (kle_not hyx).2 t
        refine List.pairwise_append.2 ⟨p1, List.pairwise_cons.2 ⟨hB, p2⟩, fun z hz w hw => ?_⟩
        rcases List.mem_cons.1 hw with rfl | hw
        · rcases List.mem_append.1 hz with hz | hz
          · exact kle_trans ((List.pairwise_append.1 p1).2.2 z hz y (by simp)) hyx'
          · simp only [List.mem_singleton] at hz; subst hz; exact hyx'
        · exact p3 z hz w hw
theorem ins_outer (fr : List Int) : ∀ (Rm : List Int) (k : Nat) (P S B1 Z : List Int), Rm.length < k → P.length + S.length + Rm.length + Z.length ≤ 400000 → okL fr (B1 ++ Rm) → (B1 ++ Rm).Pairwise (· < ·) → S.Perm B1 → S.Pairwise (kle fr) →
    ∃ S' : List Int, slices_insertionSortCmpFunc_int_cbuild_Limited_1.l11 k (P ++ (S ++ (Rm ++ Z))) ((P.length + S.length : Nat) : Int) (P.length : Int) ((P.length + S.length + Rm.length : Nat) : Int) fr = some (P ++ (S' ++ Z)) ∧ S'.Perm (B1 ++ Rm) ∧ S'.Pairwise (kle fr) := by
  intro Rm
  induction Rm with
  | nil =>
    intro k P S B1 Z hk hl ok hs hp hS
    obtain ⟨k, rfl⟩ : ∃ q, k = q + 1 := ⟨k - 1, by omega⟩
    refine ⟨S, by rw [slices_insertionSortCmpFunc_int_cbuild_Limited_1.l11, if_neg (by simp)]; simp, by simpa using hp, hS⟩
  | cons x Rm ih =>
    intro k P S B1 Z hk hl ok hs hp hS
    simp only [List.length_cons] at hk hl ⊢
    obtain ⟨k, rfl⟩ : ∃ q, k = q + 1 := ⟨k - 1, by omega⟩
    have hlt : ∀ z ∈ S, z < x := fun z hz => (List.pairwise_append.1 hs).2.2 z (hp.subset hz) x (by simp)
    obtain ⟨S1, h1, h2, h3⟩ := ins_inner fr x (ok x (by simp)) S.length S FU P [] (Rm ++ Z) (Nat.le_refl _) (by rw [FU_eq]; omega) (by simp; omega) (fun z hz => ok z (by simp [hp.subset hz])) hlt (by simpa using hS) (by simp)
    simp only [List.nil_append, List.append_nil] at h1 h2
    have l1 : S1.length = S.length + 1 := by have := h2.length_eq; simpa using this
    have hb : S1.Perm (B1 ++ [x]) := h2.trans ((List.Perm.cons x hp).trans (List.perm_append_comm (l₁ := [x]) (l₂ := B1)))
    obtain ⟨S2, g1, g2, g3⟩ := ih k P S1 (B1 ++ [x]) Z (by omega) (by omega) (by simpa using ok) (by simpa using hs) hb h3
    refine ⟨S2, ?_, by simpa using g2, g3⟩
    rw [slices_insertionSortCmpFunc_int_cbuild_Limited_1.l11, if_pos (by omega), List.cons_append, h1]
    simp only [Option.bind_some]
    rw [bnd_eq, inc_i (by omega)]
    rw [l1] at g1
    rw [show P.length + S.length + (Rm.length + 1) = P.length + (S.length + 1) + Rm.length by omega, show P.length + S.length + 1 = P.length + (S.length + 1) by omega]
    exact g1
theorem ins_spec (fr P B Z : List Int) (hl : P.length + B.length + Z.length ≤ 300000) (ok : okL fr B) (hs : B.Pairwise (· < ·)) :
    ∃ S : List Int, slices_insertionSortCmpFunc_int_cbuild_Limited_1.f (P ++ (B ++ Z)) (P.length : Int) ((P.length + B.length : Nat) : Int) fr = some (P ++ (S ++ Z)) ∧ S.Perm B ∧ S.Pairwise (kle fr) := by
  cases B with
  | nil =>
    refine ⟨[], ?_, List.Perm.refl _, List.Pairwise.nil⟩
    obtain ⟨k, hk⟩ : ∃ k, FU = k + 1 := ⟨36893488147419103231, rfl⟩
    rw [slices_insertionSortCmpFunc_int_cbuild_Limited_1.f, inc_i (by omega), bnd_eq, hk, slices_insertionSortCmpFunc_int_cbuild_Limited_1.l11, if_neg (by simp; omega)]
    simp only [Option.bind_some]
    rw [gd_pos trivial]
  | cons x B =>
    obtain ⟨S, h1, h2, h3⟩ := ins_outer fr B FU P [x] [x] Z (by rw [FU_eq]; simp at hl; omega) (by simp at hl ⊢; omega) (by simpa using ok) (by simpa using hs) (List.Perm.refl _) (List.pairwise_singleton _ _)
    refine ⟨S, ?_, by simpa using h2, h3⟩
    have e1 : P ++ ([x] ++ (B ++ Z)) = P ++ (x :: B ++ Z) := by simp
    rw [e1] at h1
    simp only [List.length_cons, List.length_nil, Nat.zero_add] at h1 ⊢
    rw [slices_insertionSortCmpFunc_int_cbuild_Limited_1.f, inc_i (by simp at hl; omega), bnd_eq, show P.length + (B.length + 1) = P.length + 1 + B.length by omega, h1]
    simp only [Option.bind_some]
    have := h2.length_eq
    rw [gd_pos (by simp at this ⊢; omega)]

/-- Blocks of that size, each in its order. -/
inductive Bl (fr : List Int) (bs : Nat) : List Int → List Int → Prop where
  | last {B S : List Int} : B.length ≤ bs → S.Perm B → S.Pairwise (kle fr) → Bl fr bs B S
  | cons {B S l0 l : List Int} : B.length = bs → S.Perm B → S.Pairwise (kle fr) → Bl fr bs l0 l → Bl fr bs (B ++ l0) (S ++ l)
theorem Bl.perm {fr : List Int} {bs : Nat} {l0 l : List Int} (h : Bl fr bs l0 l) : l.Perm l0 := by
  induction h with
  | last _ h _ => exact h
  | cons _ h _ _ ih => exact h.append ih
theorem stable_ins (fr : List Int) (N : Nat) : ∀ (R : List Int) (k : Nat) (D : List Int), R.length ≤ N → N < k → D.length + R.length ≤ 200000 → okL fr R → R.Pairwise (· < ·) →
    ∃ S : List Int, ((slices_stableCmpFunc_int_cbuild_Limited_1.l1 k (D ++ R) (D.length : Int) ((D.length + 20 : Nat) : Int) ((D.length + R.length : Nat) : Int) fr).bind fun (l51, a_52) => slices_insertionSortCmpFunc_int_cbuild_Limited_1.f l51 a_52 ((D.length + R.length : Nat) : Int) fr) = some (D ++ S) ∧ Bl fr 20 R S := by
  induction N with
  | zero =>
    intro R k D hN hk hl ok hs
    obtain ⟨k, rfl⟩ : ∃ q, k = q + 1 := ⟨k - 1, by omega⟩
    obtain rfl := List.eq_nil_of_length_eq_zero (by omega : R.length = 0)
    obtain ⟨S, h1, h2, h3⟩ := ins_spec fr D [] [] (by simp; omega) ok hs
    refine ⟨S, ?_, .last (by simp) h2 h3⟩
    rw [slices_stableCmpFunc_int_cbuild_Limited_1.l1, if_neg (by simp; omega)]
    simpa using h1
  | succ N ih =>
    intro R k D hN hk hl ok hs
    obtain ⟨k, rfl⟩ : ∃ q, k = q + 1 := ⟨k - 1, by omega⟩
    by_cases c : 20 ≤ R.length
    · obtain ⟨B, R', rfl, hB⟩ : ∃ B R', R = B ++ R' ∧ B.length = 20 := ⟨R.take 20, R.drop 20, (List.take_append_drop _ _).symm, by rw [List.length_take]; omega⟩
      simp only [List.length_append] at *
      obtain ⟨s1, s2, _⟩ := List.pairwise_append.1 hs
      obtain ⟨S, h1, h2, h3⟩ := ins_spec fr D B R' (by omega) (okL_mem ok (by simp; intro z hz; exact .inl hz)) s1
      have lS : S.length = 20 := by rw [h2.length_eq, hB]
      obtain ⟨S', g1, g2⟩ := ih R' k (D ++ S) (by omega) (by omega) (by simp; omega) (okL_mem ok (by simp; intro z hz; exact .inr hz)) s2
      refine ⟨S ++ S', ?_, .cons hB h2 h3 g2⟩
      rw [slices_stableCmpFunc_int_cbuild_Limited_1.l1, if_pos (by omega)]
      rw [hB] at h1
      rw [h1]
      simp only [Option.bind_some]
      have e20 : IntKind.i64.wrap (((D.length + 20 : Nat) : Int) + 20) = ((D.length + 20 + 20 : Nat) : Int) := by
        have := wr_add (a := D.length + 20) (b := 20) (by omega)
        rwa [show ((20 : Nat) : Int) = 20 from rfl] at this
      rw [bnd_eq, e20, hB]
      simp only [List.length_append, lS, List.append_assoc] at g1
      rw [show D.length + (20 + R'.length) = D.length + 20 + R'.length by omega]
      exact g1
    · obtain ⟨S, h1, h2, h3⟩ := ins_spec fr D R [] (by simp; omega) ok hs
      refine ⟨S, ?_, .last (by omega) h2 h3⟩
      rw [slices_stableCmpFunc_int_cbuild_Limited_1.l1, if_neg (by omega)]
      simpa using h1
theorem stable_pass (fr : List Int) (bs : Nat) (hbs : 1 ≤ bs) (hbl : bs ≤ 200000) (N : Nat) : ∀ (L0 l : List Int) (k : Nat) (D : List Int), L0.length ≤ N → N < k → D.length + L0.length ≤ 200000 → okL fr L0 → L0.Pairwise (· < ·) → Bl fr bs L0 l →
    ∃ l' : List Int, ((slices_stableCmpFunc_int_cbuild_Limited_1.l15 k (D ++ l) (D.length : Int) ((D.length + 2 * bs : Nat) : Int) ((D.length + L0.length : Nat) : Int) fr (bs : Int)).bind fun (l860, a_861) => bnd (IntKind.i64.wrap (a_861 + (bs : Int))) fun x913 => (if x913 < ((D.length + L0.length : Nat) : Int) then ((slices_symMergeCmpFunc_int_cbuild_Limited_1.f FU l860 a_861 x913 ((D.length + L0.length : Nat) : Int) fr).bind fun z932 => some z932) else (some l860))) = some (D ++ l') ∧ Bl fr (2 * bs) L0 l' := by
  have done : ∀ (k : Nat) (D l L0 : List Int), D.length + L0.length ≤ 200000 → L0.length ≤ bs → (slices_stableCmpFunc_int_cbuild_Limited_1.l15 (k + 1) (D ++ l) (D.length : Int) ((D.length + 2 * bs : Nat) : Int) ((D.length + L0.length : Nat) : Int) fr (bs : Int)).bind (fun (l860, a_861) => bnd (IntKind.i64.wrap (a_861 + (bs : Int))) fun x913 => (if x913 < ((D.length + L0.length : Nat) : Int) then ((slices_symMergeCmpFunc_int_cbuild_Limited_1.f FU l860 a_861 x913 ((D.length + L0.length : Nat) : Int) fr).bind fun z932 => some z932) else (some l860))) = some (D ++ l) := by
    intro k D l L0 h1 h2
    rw [slices_stableCmpFunc_int_cbuild_Limited_1.l15, if_neg (by omega)]
    simp only [Option.bind_some]
    rw [bnd_eq, wr_add (by omega), if_neg (by omega)]
  induction N with
  | zero =>
    intro L0 l k D hN hk hl ok hs hb
    obtain ⟨k, rfl⟩ : ∃ q, k = q + 1 := ⟨k - 1, by omega⟩
    cases hb with
    | last h1 h2 h3 => exact ⟨l, done k D l L0 hl h1, .last (by omega) h2 h3⟩
    | cons h1 h2 h3 h4 => rw [List.length_append] at hN; omega
  | succ N ih =>
    intro L0 l k D hN hk hl ok hs hb
    obtain ⟨k, rfl⟩ : ∃ q, k = q + 1 := ⟨k - 1, by omega⟩
    cases hb with
    | last h1 h2 h3 => exact ⟨l, done k D l L0 hl h1, .last (by omega) h2 h3⟩
    | @cons B1 S1 r0 r h1 h2 h3 h4 =>
      simp only [List.length_append] at *
      obtain ⟨t1, t2, t3⟩ := List.pairwise_append.1 hs
      have lS1 : S1.length = bs := by rw [h2.length_eq, h1]
      have ok1 : okL fr S1 := fun z hz => ok z (by simp [h2.subset hz])
      have ea : IntKind.i64.wrap ((D.length : Int) + (bs : Int)) = ((D.length + bs : Nat) : Int) := wr_add (by omega)
      have e2 : IntKind.i64.wrap (((D.length + 2 * bs : Nat) : Int) + IntKind.i64.wrap (2 * (bs : Int))) = ((D.length + 2 * bs + 2 * bs : Nat) : Int) := by
        have : IntKind.i64.wrap (2 * (bs : Int)) = ((2 * bs : Nat) : Int) := by rw [wr_i64 (by omega)]; omega
        rw [this, wr_add (by omega)]
      -- a merge of two blocks
      have two : ∀ (B2 S2 W : List Int), S2.Perm B2 → S2.Pairwise (kle fr) → 1 ≤ B2.length → B2.length ≤ bs → D.length + bs + B2.length + W.length ≤ 400000 → okL fr B2 → (∀ x ∈ B1, ∀ y ∈ B2, x < y) → ∃ M : List Int, slices_symMergeCmpFunc_int_cbuild_Limited_1.f FU (D ++ (S1 ++ (S2 ++ W))) (D.length : Int) ((D.length + bs : Nat) : Int) ((D.length + bs + B2.length : Nat) : Int) fr = some (D ++ (M ++ W)) ∧ M.Perm (B1 ++ B2) ∧ M.Pairwise (kle fr) ∧ M.length = bs + B2.length := by
        intro B2 S2 W p2 s2 c1 c2 c3 ok2 lt
        have lS2 := p2.length_eq
        obtain ⟨M, m1, m2, m3⟩ := sym_spec fr (S1.length + S2.length) FU D S1 S2 W (Nat.le_refl _) (by rw [FU_eq]; omega) (by omega) (by omega) (by omega) ok1 (fun z hz => ok2 z (p2.subset hz)) (fun x hx y hy => lt x (h2.subset hx) y (p2.subset hy)) h3 s2
        rw [lS1, lS2] at m1
        have m4 := m2.trans (h2.append p2)
        exact ⟨M, m1, m4, m3, by rw [m4.length_eq]; simp [h1]⟩
      cases h4 with
      | @last B2 S2 g1 g2 g3 =>
        have okB2 : okL fr r0 := okL_mem ok (by simp; intro z hz; exact .inr hz)
        by_cases c : r0.length = bs
        · obtain ⟨M, m1, m2, m3, m4⟩ := two r0 r [] g2 g3 (by omega) (by omega) (by simp; omega) okB2 t3
          have d := done (k - 1) (D ++ M) [] [] (by simp; omega) (by simp)
          refine ⟨M, ?_, .last (by simp; omega) m2 m3⟩
          rw [slices_stableCmpFunc_int_cbuild_Limited_1.l15, if_pos (by omega), ea]
          simp only [List.append_nil] at m1
          rw [show D.length + 2 * bs = D.length + bs + r0.length by omega, m1]
          simp only [Option.bind_some]
          rw [show D.length + bs + r0.length = D.length + 2 * bs by omega, bnd_eq, e2]
          simp only [List.length_append, List.append_nil, List.length_nil, Nat.add_zero, m4] at d
          rw [show k - 1 + 1 = k by omega] at d
          rw [show D.length + 2 * bs = D.length + (bs + r0.length) by omega, show D.length + (B1.length + r0.length) = D.length + (bs + r0.length) by omega, show D.length + (bs + r0.length) + 2 * bs = D.length + (bs + r0.length) + 2 * bs from rfl]
          exact d
        · rw [slices_stableCmpFunc_int_cbuild_Limited_1.l15, if_neg (by omega)]
          simp only [Option.bind_some]
          rw [bnd_eq, ea]
          by_cases c0 : r0.length = 0
          · obtain rfl := List.eq_nil_of_length_eq_zero c0
            obtain rfl : r = [] := by simpa using g2
            exact ⟨S1 ++ [], by rw [if_neg (by simp; omega)], .last (by simp; omega) (by simpa using h2) (by simpa using h3)⟩
          · obtain ⟨M, m1, m2, m3, m4⟩ := two r0 r [] g2 g3 (by omega) (by omega) (by simp; omega) okB2 t3
            simp only [List.append_nil] at m1
            refine ⟨M, ?_, .last (by simp; omega) m2 m3⟩
            rw [if_pos (by omega), show D.length + (B1.length + r0.length) = D.length + bs + r0.length by omega, m1]
            rfl
      | @cons B2 S2 q0 q g1 g2 g3 g4 =>
        obtain ⟨v1, v2, v3⟩ := List.pairwise_append.1 t2
        simp only [List.length_append] at *
        have lq : q.length = q0.length := g4.perm.length_eq
        obtain ⟨M, m1, m2, m3, m4⟩ := two B2 S2 q g2 g3 (by omega) (by omega) (by omega) (okL_mem ok (by simp; intro z hz; exact .inr (.inl hz))) (fun x hx y hy => t3 x hx y (by simp [hy]))
        obtain ⟨l', n1, n2⟩ := ih q0 q k (D ++ M) (by omega) (by omega) (by simp; omega) (okL_mem ok (by simp; intro z hz; exact .inr (.inr hz))) v2 g4
        refine ⟨M ++ l', ?_, ?_⟩
        · rw [slices_stableCmpFunc_int_cbuild_Limited_1.l15, if_pos (by omega), ea, show D.length + 2 * bs = D.length + bs + B2.length by omega, m1]
          simp only [Option.bind_some]
          rw [show D.length + bs + B2.length = D.length + 2 * bs by omega, bnd_eq, e2]
          simp only [List.length_append, m4, List.append_assoc] at n1
          rw [show D.length + 2 * bs = D.length + (bs + B2.length) by omega, show D.length + (B1.length + (B2.length + q0.length)) = D.length + (bs + B2.length) + q0.length by omega]
          exact n1
        · have := Bl.cons (fr := fr) (bs := 2 * bs) (B := B1 ++ B2) (S := M) (by simp; omega) m2 m3 n2
          simpa using this
theorem stable_rest (fr : List Int) (L0 : List Int) (hl : L0.length ≤ 100000) (ok : okL fr L0) (hs : L0.Pairwise (· < ·)) (N : Nat) : ∀ (l : List Int) (k bs : Nat), L0.length - bs ≤ N → N < k → 1 ≤ bs → bs ≤ 200000 → Bl fr bs L0 l →
    ∃ S : List Int, slices_stableCmpFunc_int_cbuild_Limited_1.l13 k l (bs : Int) (L0.length : Int) fr = some S ∧ S.Perm L0 ∧ S.Pairwise (kle fr) := by
  have fin : ∀ (l : List Int) (k bs : Nat), 1 ≤ bs → L0.length ≤ bs → Bl fr bs L0 l → ∃ S : List Int, slices_stableCmpFunc_int_cbuild_Limited_1.l13 (k + 1) l (bs : Int) (L0.length : Int) fr = some S ∧ S.Perm L0 ∧ S.Pairwise (kle fr) := by
    intro l k bs h0 h hb
    refine ⟨l, by rw [slices_stableCmpFunc_int_cbuild_Limited_1.l13, if_neg (by omega)], hb.perm, ?_⟩
    cases hb with
    | last _ _ h3 => exact h3
    | @cons B1 S1 r0 r h1 h2 h3 h4 =>
      simp only [List.length_append] at h
      have := h4.perm.length_eq
      obtain rfl := List.eq_nil_of_length_eq_zero (by omega : r.length = 0)
      simpa using h3
  induction N with
  | zero =>
    intro l k bs hN hk hb hbl h
    obtain ⟨k, rfl⟩ : ∃ q, k = q + 1 := ⟨k - 1, by omega⟩
    exact fin l k bs hb (by omega) h
  | succ N ih =>
    intro l k bs hN hk hb hbl h
    obtain ⟨k, rfl⟩ : ∃ q, k = q + 1 := ⟨k - 1, by omega⟩
    by_cases c : L0.length ≤ bs
    · exact fin l k bs hb c h
    · obtain ⟨l', h1, h2⟩ := stable_pass fr bs hb hbl L0.length L0 l FU [] (Nat.le_refl _) (by rw [FU_eq]; omega) (by simp; omega) ok hs h
      obtain ⟨S, g1, g2, g3⟩ := ih l' k (2 * bs) (by omega) (by omega) (by omega) (by omega) h2
      refine ⟨S, ?_, g2, g3⟩
      have e2 : IntKind.i64.wrap (2 * (bs : Int)) = ((2 * bs : Nat) : Int) := by rw [wr_i64 (by omega)]; omega
      have e3 : IntKind.i64.wrap ((bs : Int) * 2) = ((2 * bs : Nat) : Int) := by rw [wr_i64 (by omega)]; omega
      rw [slices_stableCmpFunc_int_cbuild_Limited_1.l13, if_pos (by omega), bnd_eq, e2]
      simp only [List.nil_append, List.length_nil, Nat.zero_add] at h1
      obtain ⟨⟨l860, a861⟩, q1, q2⟩ := Option.bind_eq_some_iff.1 h1
      have q1' : slices_stableCmpFunc_int_cbuild_Limited_1.l15 FU l 0 ((2 * bs : Nat) : Int) (L0.length : Int) fr (bs : Int) = some (l860, a861) := q1
      rw [q1']
      simp only [Option.bind_some] at q2 ⊢
      rw [bnd_eq] at q2 ⊢
      rw [q2]
      simp only [Option.bind_some]
      rw [bnd_eq, e3]
      exact g1
/-- The stable sort. -/
theorem stable_spec (fr L0 : List Int) (hl : L0.length ≤ 100000) (ok : okL fr L0) (hs : L0.Pairwise (· < ·)) :
    ∃ S : List Int, slices_SortStableFunc_int_int_cbuild_Limited_1.f L0 fr = some S ∧ S.Perm L0 ∧ S.Pairwise (kle fr) := by
  obtain ⟨S0, h1, h2⟩ := stable_ins fr L0.length L0 FU [] (Nat.le_refl _) (by rw [FU_eq]; omega) (by simp; omega) ok hs
  obtain ⟨S, g1, g2, g3⟩ := stable_rest fr L0 hl ok hs L0.length S0 FU 20 (by omega) (by rw [FU_eq]; omega) (by omega) (by omega) h2
  refine ⟨S, ?_, g2, g3⟩
  simp only [List.nil_append, List.length_nil, Nat.zero_add] at h1
  obtain ⟨⟨l51, a52⟩, q1, q2⟩ := Option.bind_eq_some_iff.1 h1
  have q1' : slices_stableCmpFunc_int_cbuild_Limited_1.l1 FU L0 0 20 (L0.length : Int) fr = some (l51, a52) := q1
  have g1' : slices_stableCmpFunc_int_cbuild_Limited_1.l13 FU S0 20 (L0.length : Int) fr = some S := g1
  simp only at q2
  rw [slices_SortStableFunc_int_int_cbuild_Limited_1.f, slices_stableCmpFunc_int_cbuild_Limited_1.f, q1']
  simp only [Option.bind_some]
  rw [q2]
  simp only [Option.bind_some]
  rw [g1']
  simp only [Option.bind_some]
  rw [gd_pos g2.length_eq]
  simp only [Option.bind_some]
  rw [gd_pos g2.length_eq]

def okF (x : Int) : Prop := ¬ (x < 0 ∨ 4294967296 < x)
instance : DecidablePred okF := fun x => by unfold okF; exact inferInstance
/-- The error of a list of frequencies. -/
def badF (a : List Int) : Int := if 288 < a.length then 1 else if ∀ x ∈ a, okF x then 0 else 61
theorem build_used_loop (a : List Int) (hl : a.length ≤ 288) (m : Nat) : ∀ (k i : Nat), i + m = a.length → m < k → (∀ j, j < i → okF (rd a (j : Int))) →
    build_used.l1 k (upS a i) (i : Int) a = some (if ∀ x ∈ a, okF x then .inr (uS a) else .inl ([], 61)) := by
  induction m with
  | zero =>
    intro k i hi hk hok
    obtain ⟨k, rfl⟩ : ∃ q, k = q + 1 := ⟨k - 1, by omega⟩
    have all : ∀ x ∈ a, okF x := fun x hx => by
      obtain ⟨j, hj, rfl⟩ := List.mem_iff_getElem.1 hx
      have := hok j (by omega)
      rwa [rd_at (List.getElem?_eq_getElem hj)] at this
    rw [build_used.l1, if_neg (by omega), if_pos all, show i = a.length by omega]
    rfl
  | succ m ih =>
    intro k i hi hk hok
    obtain ⟨k, rfl⟩ : ∃ q, k = q + 1 := ⟨k - 1, by omega⟩
    have hu := upS_len a i
    rw [build_used.l1, if_pos (by omega), gd_pos (by omega), bnd_eq]
    by_cases c : okF (rd a (i : Int))
    · have key := ih k (i + 1) (by omega) (by omega) (fun j hj => by
        by_cases e : j = i
        · subst e; exact c
        · exact hok j (by omega))
      rw [upS_succ] at key
      unfold okF at c
      rw [if_neg c]
      by_cases p : 0 < rd a (i : Int)
      · rw [if_pos p] at key
        rw [if_pos p, bnd_eq, gd_pos (by simp; omega)]
        simp only [Option.bind_some]
        rw [inc_i (by omega)]
        exact key
      · rw [if_neg p, List.append_nil] at key
        rw [if_neg p]
        simp only [Option.bind_some]
        rw [inc_i (by omega)]
        exact key
    · have na : ¬ ∀ x ∈ a, okF x := fun h => c (by rw [rd_at (List.getElem?_eq_getElem (show i < a.length by omega))]; exact h _ (List.getElem_mem _))
      unfold okF at c
      rw [if_pos (Classical.byContradiction c), if_neg na]
theorem build_used_spec (a : List Int) : build_used.f a = some (if badF a = 0 then uS a else [], badF a) := by
  rw [build_used.f]
  unfold badF
  by_cases c : 288 < a.length
  · rw [if_pos (by omega), if_pos c, if_neg (by decide)]
  · have key := build_used_loop a (by omega) a.length FU 0 (by omega) (by rw [FU_eq]; omega) (fun j hj => by omega)
    have key' : build_used.l1 FU ([] : List Int) 0 a = _ := key
    rw [if_neg (by omega), if_neg c, key']
    by_cases h : ∀ x ∈ a, okF x
    · rw [if_pos h, if_pos h, if_pos rfl]; rfl
    · rw [if_neg h, if_neg h, if_neg (by decide)]; rfl
theorem badF_ok {a : List Int} (h : badF a = 0) : a.length ≤ 288 ∧ ∀ x ∈ a, okF x := by
  unfold badF at h
  by_cases c : 288 < a.length
  · rw [if_pos c] at h; cases h
  · rw [if_neg c] at h
    by_cases d : ∀ x ∈ a, okF x
    · exact ⟨by omega, d⟩
    · rw [if_neg d] at h; cases h
theorem build_few_loop (n : Nat) (hn : n ≤ 288) (S : List Int) : ∀ (R : List Int) (k : Nat) (D : List Int) (f : Nat → Nat), S = D ++ R → R.length < k → S.length ≤ 288 → (∀ x ∈ R, 0 ≤ x ∧ x < (n : Int)) →
    build_few.l1 k (lf n f) (D.length : Int) S = some (lf n (fun i => if (i : Int) ∈ R then 1 else f i)) := by
  intro R
  induction R with
  | nil =>
    intro k D f e hk hS hR
    obtain ⟨k, rfl⟩ : ∃ q, k = q + 1 := ⟨k - 1, by omega⟩
    subst e
    rw [build_few.l1, if_neg (by simp)]
    congr 1
  | cons x R ih =>
    intro k D f e hk hS hR
    obtain ⟨k, rfl⟩ : ∃ q, k = q + 1 := ⟨k - 1, by omega⟩
    simp only [List.length_cons] at hk
    have hx := hR x (by simp)
    obtain ⟨s, rfl⟩ : ∃ s : Nat, x = s := ⟨x.toNat, by omega⟩
    have hat : S[D.length]? = some (s : Int) := by rw [e, List.getElem?_append_right (Nat.le_refl _), Nat.sub_self]; rfl
    have hlt := lt_of_at hat
    have key := ih k (D ++ [(s : Int)]) (fun i => if i = s then 1 else f i) (by rw [e]; simp) (by omega) hS (fun y hy => hR y (by simp [hy]))
    rw [build_few.l1, if_pos (by omega), gd_pos (by omega), bnd_eq, rd_at hat, gd_pos (by rw [lf_length]; exact hx), bnd_eq, Int.toNat_natCast]
    rw [show (1 : Int) = ((1 : Nat) : Int) from rfl, lf_set, show ((1 : Nat) : Int) = 1 from rfl, inc_i (by omega)]
    simp only [List.length_append, List.length_cons, List.length_nil, Nat.zero_add] at key
    rw [key]
    congr 1
    refine lf_congr fun i _ => ?_
    by_cases c : (i : Int) ∈ R
    · rw [if_pos c, if_pos (by simp [c])]
    · rw [if_neg c]
      by_cases d : i = s
      · subst d; rw [if_pos rfl, if_pos (by simp)]
      · rw [if_neg d, if_neg (by simp [c]; omega)]
theorem build_few_spec (n : Nat) (hn : n ≤ 288) (S : List Int) (hS : S.length ≤ 288) (h : ∀ x ∈ S, 0 ≤ x ∧ x < (n : Int)) : build_few.f (n : Int) S = some (lf n (fun i => if (i : Int) ∈ S then 1 else 0)) := by
  have key := build_few_loop n hn S S FU [] (fun _ => 0) rfl (by rw [FU_eq]; omega) hS h
  rw [← lf_zero] at key
  have key' : build_few.l1 FU (List.replicate n (0 : Int)) 0 S = _ := key
  rw [build_few.f, gd_pos (by omega), bnd_eq, Int.toNat_natCast, key']
  rfl

theorem used_at {a : List Int} (ha : ∀ x ∈ a, okF x) {i : Nat} (hi : i < a.length) : 0 ≤ rd a (i : Int) ∧ rd a (i : Int) ≤ 4294967296 := by
  rw [rd_at (List.getElem?_eq_getElem hi)]
  have := ha _ (List.getElem_mem hi)
  unfold okF at this; omega

theorem rdp_at {α : Type} (z : α) {l : List α} {i : Nat} {x : α} (h : l[i]? = some x) : rdp z l (i : Int) = x := by
  unfold rdp; rw [Int.toNat_natCast, List.getD_eq_getElem?_getD, h]; rfl
theorem rdp_mid {α : Type} (z : α) (A B : List α) (x : α) {i : Int} (h : i = (A.length : Int)) : rdp z (A ++ x :: B) i = x := by
  subst h; exact rdp_at z (by rw [List.getElem?_append_right (Nat.le_refl _), Nat.sub_self]; rfl)

theorem build_packages_loop (N : Nat) : ∀ (l : List Coin) (k : Nat) (P : List Co) (acc : List Co), l.length ≤ N → N < k → P.length + l.length ≤ 1000000 → acc.length + l.length ≤ 1000000 → (∀ c ∈ l, c.wt ≤ 2305843009213693952) →
    build_packages.l1 k acc (P.length : Int) (P ++ l.map toCo) = some (acc ++ (packs l).map toCo) := by
  induction N with
  | zero =>
    intro l k P acc hN hk hl ha hw
    obtain ⟨k, rfl⟩ : ∃ q, k = q + 1 := ⟨k - 1, by omega⟩
    obtain rfl := List.eq_nil_of_length_eq_zero (by omega : l.length = 0)
    rw [build_packages.l1, inc_i (by omega), if_neg (by simp <;> omega), packs]
    · simp
    · intro a b l h; cases h
  | succ N ih =>
    intro l k P acc hN hk hl ha hw
    obtain ⟨k, rfl⟩ : ∃ q, k = q + 1 := ⟨k - 1, by omega⟩
    cases l with
    | nil =>
      rw [build_packages.l1, inc_i (by omega), if_neg (by simp <;> omega), packs]
      · simp
      · intro a b l h; cases h
    | cons a l =>
      cases l with
      | nil =>
        rw [build_packages.l1, inc_i (by omega), if_neg (by simp <;> omega), packs]
        · simp
        · intro a b l h; cases h
      | cons b l =>
        simp only [List.length_cons] at hN hl ha
        have ha1 := hw a (by simp <;> omega)
        have hb1 := hw b (by simp <;> omega)
        have r1 : rdp (Co.leaf 0 0) (P ++ (a :: b :: l).map toCo) (P.length : Int) = toCo a := rdp_mid _ P _ _ rfl
        have r2 : rdp (Co.leaf 0 0) (P ++ (a :: b :: l).map toCo) ((P.length + 1 : Nat) : Int) = toCo b := by
          have := rdp_mid (Co.leaf 0 0) (P ++ [toCo a]) (l.map toCo) (toCo b) (i := ((P.length + 1 : Nat) : Int)) (by simp <;> omega)
          rw [← this]; simp
        have e2 : IntKind.i64.wrap ((P.length : Int) + 2) = ((P.length + 2 : Nat) : Int) := by rw [wr_i64 (by omega)]; rfl
        have ew : IntKind.i64.wrap ((a.wt : Int) + (b.wt : Int)) = ((a.wt + b.wt : Nat) : Int) := by rw [wr_i64 (by omega)]; rfl
        have key := ih l k (P ++ [toCo a, toCo b]) (acc ++ [toCo (.pack a b)]) (by omega) (by omega) (by simp <;> omega) (by simp <;> omega) (fun c hc => hw c (by simp [hc]))
        rw [build_packages.l1, inc_i (by omega), if_pos (by simp <;> omega), gd_pos (by simp <;> omega), gd_pos (by simp <;> omega), r1, r2, toCo_w, toCo_w, ew, bnd_eq, gd_pos (by simp <;> omega), e2, bnd_eq]
        simp only [List.length_append, List.length_cons, List.length_nil, Nat.zero_add, List.append_assoc, List.cons_append, List.nil_append] at key
        rw [packs, List.map_cons, List.map_cons, List.map_cons]
        refine key.trans ?_
        simp
theorem build_packages_spec (l : List Coin) (hl : l.length ≤ 500000) (hw : ∀ c ∈ l, c.wt ≤ 2305843009213693952) : build_packages.f (l.map toCo) = some ((packs l).map toCo) := by
  have key := build_packages_loop l.length l FU [] [] (Nat.le_refl _) (by rw [FU_eq]; omega) (by simp <;> omega) (by simp <;> omega) hw
  have key' : build_packages.l1 FU ([] : List Co) 0 (l.map toCo) = _ := key
  rw [build_packages.f, key']
  rfl
theorem build_merged_loop (N : Nat) : ∀ (p q : List Coin) (k : Nat) (acc : List Co), p.length + q.length ≤ N → N < k → acc.length + p.length + q.length ≤ 1000000 →
    build_merged.l1 k (p.map toCo) (q.map toCo) acc = some (acc ++ (mrg p q).map toCo) := by
  induction N with
  | zero =>
    intro p q k acc hN hk hl
    obtain ⟨k, rfl⟩ : ∃ j, k = j + 1 := ⟨k - 1, by omega⟩
    obtain rfl := List.eq_nil_of_length_eq_zero (by omega : p.length = 0)
    obtain rfl := List.eq_nil_of_length_eq_zero (by omega : q.length = 0)
    rw [build_merged.l1, if_neg (by simp <;> omega), mrg_nil]
    simp
  | succ N ih =>
    intro p q k acc hN hk hl
    obtain ⟨k, rfl⟩ : ∃ j, k = j + 1 := ⟨k - 1, by omega⟩
    have left : ∀ (a : Coin) (p : List Coin), (a :: p).length + q.length ≤ N + 1 → acc.length + (a :: p).length + q.length ≤ 1000000 → (gd ((0 : Int) ≤ 0 ∧ 0 < (((a :: p).map toCo).length : Int)) (gd ((0 : Int) ≤ 1 ∧ 1 ≤ (((a :: p).map toCo).length : Int)) (bnd (acc ++ [toCo a]) fun l2521 => gd ((l2521.length : Int) * 24 ≤ 140737488355328) (some ((((a :: p).map toCo).drop (1 : Int).toNat), q.map toCo, l2521))))) = some (p.map toCo, q.map toCo, acc ++ [toCo a]) := by
      intro a p h1 h2
      simp only [List.length_cons] at h2
      rw [gd_pos (by simp <;> omega), gd_pos (by simp <;> omega), bnd_eq, gd_pos (by simp <;> omega)]
      rfl
    have right : ∀ (p : List Coin) (b : Coin) (q : List Coin), p.length + (b :: q).length ≤ N + 1 → acc.length + p.length + (b :: q).length ≤ 1000000 → (gd ((0 : Int) ≤ 0 ∧ 0 < (((b :: q).map toCo).length : Int)) (gd ((0 : Int) ≤ 1 ∧ 1 ≤ (((b :: q).map toCo).length : Int)) (bnd (acc ++ [toCo b]) fun l2578 => gd ((l2578.length : Int) * 24 ≤ 140737488355328) (some (p.map toCo, (((b :: q).map toCo).drop (1 : Int).toNat), l2578))))) = some (p.map toCo, q.map toCo, acc ++ [toCo b]) := by
      intro p b q h1 h2
      simp only [List.length_cons] at h2
      rw [gd_pos (by simp <;> omega), gd_pos (by simp <;> omega), bnd_eq, gd_pos (by simp <;> omega)]
      rfl
    cases q with
    | nil =>
      cases p with
      | nil => rw [build_merged.l1, if_neg (by simp <;> omega), mrg_nil]; simp
      | cons a p =>
        have ra : rdp (Co.leaf 0 0) ((a :: p).map toCo) 0 = toCo a := rdp_at _ (i := 0) rfl
        rw [build_merged.l1, if_pos (by simp <;> omega), if_pos (by simp <;> omega), ra]
        simp only [Option.bind_some]
        rw [if_pos trivial, left a p hN hl]
        simp only [Option.bind_some]
        simp only [List.length_cons, List.length_nil] at hN hl
        rw [ih p [] k (acc ++ [toCo a]) (by simp <;> omega) (by omega) (by simp <;> omega), mrg_nil', mrg_nil']
        simp
    | cons b q =>
      have ne : ¬ ((((b :: q).map toCo).length : Int) = 0) := by simp; omega
      cases p with
      | nil =>
        have rb : rdp (Co.leaf 0 0) ((b :: q).map toCo) 0 = toCo b := rdp_at _ (i := 0) rfl
        rw [build_merged.l1, if_pos (by simp <;> omega), if_neg ne, if_neg (by simp <;> omega), rb]
        simp only [Option.bind_some]
        rw [if_neg (by decide), right [] b q hN hl]
        simp only [Option.bind_some]
        simp only [List.length_cons, List.length_nil] at hN hl
        rw [ih [] q k (acc ++ [toCo b]) (by simp <;> omega) (by omega) (by simp <;> omega), mrg_nil, mrg_nil]
        simp
      | cons a p =>
        have ra : rdp (Co.leaf 0 0) ((a :: p).map toCo) 0 = toCo a := rdp_at _ (i := 0) rfl
        have rb : rdp (Co.leaf 0 0) ((b :: q).map toCo) 0 = toCo b := rdp_at _ (i := 0) rfl
        rw [build_merged.l1, if_pos (by simp <;> omega), if_neg ne, if_pos (by simp <;> omega), gd_pos (by simp <;> omega), gd_pos (by simp <;> omega), ra, rb, toCo_w, toCo_w]
        simp only [Option.bind_some]
        by_cases c : a.wt ≤ b.wt
        · rw [decide_eq_true (by omega), if_pos rfl, left a p hN hl]
          simp only [Option.bind_some]
          simp only [List.length_cons] at hN hl
          rw [ih p (b :: q) k (acc ++ [toCo a]) (by simp <;> omega) (by omega) (by simp <;> omega), mrg_cons, if_pos c]
          simp
        · rw [decide_eq_false (by omega), if_neg (by decide), right (a :: p) b q hN hl]
          simp only [Option.bind_some]
          simp only [List.length_cons] at hN hl
          rw [ih (a :: p) q k (acc ++ [toCo b]) (by simp <;> omega) (by omega) (by simp <;> omega), mrg_cons, if_neg c]
          simp
theorem build_merged_spec (p q : List Coin) (hl : p.length + q.length ≤ 500000) : build_merged.f (p.map toCo) (q.map toCo) = some ((mrg p q).map toCo) := by
  have key := build_merged_loop (p.length + q.length) p q FU [] (Nat.le_refl _) (by rw [FU_eq]; omega) (by simp <;> omega)
  rw [build_merged.f, key]
  rfl
theorem into_spec (n : Nat) (c : Coin) : ∀ f : Nat → Nat, c.inn n → (∀ i, f i + c.size ≤ 4611686018427387904) → build_coin_into.f (toCo c) (lf n f) = some (lf n fun i => f i + c.cnt i) := by
  induction c with
  | leaf w s =>
    intro f h hf
    have hs : s < n := h
    have := hf s
    simp only [Coin.size] at this
    rw [toCo, build_coin_into.f, gd_pos (by rw [lf_length]; omega), lf_rd hs, Int.toNat_natCast]
    have e : IntKind.i64.wrap ((f s : Int) + 1) = ((f s + 1 : Nat) : Int) := by rw [wr_i64 (by omega)]; rfl
    rw [e, lf_set]
    congr 1
    refine lf_congr fun i _ => ?_
    simp only [Coin.cnt]
    by_cases c : i = s
    · subst c; simp
    · rw [if_neg c, if_neg (fun e => c e.symm)]; rfl
  | pack a b iha ihb =>
    intro f h hf
    simp only [Coin.size] at hf
    rw [toCo, build_coin_into.f, iha f h.1 (fun i => by have := hf i; omega)]
    simp only [Option.bind_some]
    rw [ihb _ h.2 (fun i => by have := hf i; have := cnt_le i a; omega)]
    congr 1
    refine lf_congr fun i _ => ?_
    simp only [Coin.cnt]; omega

theorem lim_leaves (a : List Int) (ha : a.length ≤ 288) (hok : ∀ x ∈ a, okF x) (S : List Int) (hS : ∀ x ∈ S, ∃ i : Nat, x = i ∧ i < a.length ∧ 0 < rd a x) (hl : S.length ≤ 288) : ∀ (R : List Int) (k : Nat) (D : List Int), S = D ++ R → R.length < k →
    build_Limited.l1 k ((clS a D).map toCo) (D.length : Int) a S = some ((clS a S).map toCo) := by
  intro R
  induction R with
  | nil =>
    intro k D e hk
    obtain ⟨k, rfl⟩ : ∃ q, k = q + 1 := ⟨k - 1, by omega⟩
    subst e
    rw [build_Limited.l1, if_neg (by simp), List.append_nil]
  | cons x R ih =>
    intro k D e hk
    obtain ⟨k, rfl⟩ : ∃ q, k = q + 1 := ⟨k - 1, by omega⟩
    simp only [List.length_cons] at hk
    have hat : S[D.length]? = some x := by rw [e, List.getElem?_append_right (Nat.le_refl _), Nat.sub_self]; rfl
    have hlt := lt_of_at hat
    obtain ⟨i, rfl, hi, hp⟩ := hS x (List.mem_of_getElem? hat)
    have key := ih k (D ++ [(i : Int)]) (by rw [e]; simp) (by omega)
    have e1 : Co.leaf (rd a (i : Int)) (i : Int) = toCo (.leaf (rd a (i : Int)).toNat (Int.toNat (i : Int))) := by
      rw [toCo, Int.toNat_of_nonneg (by omega), Int.toNat_natCast]
    have e2 : (clS a D).map toCo ++ [Co.leaf (rd a (i : Int)) (i : Int)] = (clS a (D ++ [(i : Int)])).map toCo := by rw [e1]; simp [clS]
    have el : ((clS a (D ++ [(i : Int)])).map toCo).length = D.length + 1 := by simp [clS]
    rw [build_Limited.l1, if_pos (by omega), gd_pos (by omega), bnd_eq, rd_at hat, gd_pos (by omega), bnd_eq, e2, gd_pos (by rw [el]; omega), inc_i (by omega)]
    simp only [List.length_append, List.length_cons, List.length_nil, Nat.zero_add] at key
    exact key
theorem lim_rounds (n : Nat) (L : List Coin) (hL : L.length ≤ 288) (hf : ∀ c ∈ L, Fine n 4294967296 1 c) (lim : Nat) (hlim : lim ≤ 15) (m : Nat) : ∀ (k r : Nat), r + m + 1 = lim → m < k →
    build_Limited.l3 k ((prow L r).map toCo) (r : Int) (lim : Int) (L.map toCo) = some ((prow L (lim - 1)).map toCo) := by
  induction m with
  | zero =>
    intro k r hr hk
    obtain ⟨k, rfl⟩ : ∃ q, k = q + 1 := ⟨k - 1, by omega⟩
    have e : IntKind.i64.wrap ((lim : Int) - 1) = ((lim - 1 : Nat) : Int) := by
      have := wr_sub (a := lim) (b := 1) (by omega) (by omega)
      rwa [show ((1 : Nat) : Int) = 1 from rfl] at this
    rw [build_Limited.l3, e, if_neg (by omega), show r = lim - 1 by omega]
  | succ m ih =>
    intro k r hr hk
    obtain ⟨k, rfl⟩ : ∃ q, k = q + 1 := ⟨k - 1, by omega⟩
    have e : IntKind.i64.wrap ((lim : Int) - 1) = ((lim - 1 : Nat) : Int) := by
      have := wr_sub (a := lim) (b := 1) (by omega) (by omega)
      rwa [show ((1 : Nat) : Int) = 1 from rfl] at this
    have hs := prow_short (L := L) r
    have hw : ∀ c ∈ prow L r, c.wt ≤ 2305843009213693952 := fun c hc => by
      have h1 := (prow_fine hf r c hc).light
      have h2 : 2 ^ r ≤ 2 ^ 15 := Nat.pow_le_pow_right (by omega) (by omega)
      have h3 : 4294967296 * 2 ^ r ≤ 4294967296 * 2 ^ 15 := Nat.mul_le_mul_left _ h2
      omega
    rw [build_Limited.l3, e, if_pos (by omega), build_packages_spec _ (by omega) hw]
    simp only [Option.bind_some]
    rw [build_merged_spec _ _ (by rw [packs_length]; omega)]
    simp only [Option.bind_some]
    rw [inc_i (by omega)]
    exact ih k (r + 1) (by omega) (by omega)
theorem lim_into (n : Nat) (z16 : List Int) (u : Nat) (hz : z16.length = u) (hu : 1 ≤ u) (hu2 : u ≤ 288) (row : List Coin) (hr : 2 * u - 2 ≤ row.length) (hf : ∀ c ∈ row, c.inn n ∧ c.size ≤ 65536) : ∀ (R : List Coin) (k : Nat) (D : List Coin), row.take (2 * u - 2) = D ++ R → R.length < k →
    build_Limited.l5 k (lf n fun i => csum i D) (D.length : Int) z16 (row.map toCo) = some (lf n fun i => csum i (row.take (2 * u - 2))) := by
  have e : IntKind.i64.wrap (IntKind.i64.wrap (2 * (z16.length : Int)) - 2) = ((2 * u - 2 : Nat) : Int) := by
    rw [hz, wr_i64 (x := 2 * (u : Int)) (by omega), wr_i64 (by omega)]; omega
  have hlen : (row.take (2 * u - 2)).length = 2 * u - 2 := by rw [List.length_take]; omega
  intro R
  induction R with
  | nil =>
    intro k D h hk
    obtain ⟨k, rfl⟩ : ∃ q, k = q + 1 := ⟨k - 1, by omega⟩
    rw [List.append_nil] at h
    rw [build_Limited.l5, e, Int.toNat_natCast, ← List.map_take, h, if_neg (by simp)]
  | cons c R ih =>
    intro k D h hk
    obtain ⟨k, rfl⟩ : ∃ q, k = q + 1 := ⟨k - 1, by omega⟩
    simp only [List.length_cons] at hk
    have hD : D.length + (R.length + 1) = 2 * u - 2 := by rw [← hlen, h]; simp
    have key := ih k (D ++ [c]) (by rw [h]; simp) (by omega)
    have r : rdp (Co.leaf 0 0) ((row.take (2 * u - 2)).map toCo) (D.length : Int) = toCo c := by
      rw [h, List.map_append, List.map_cons]; exact rdp_mid _ _ _ _ (by simp)
    have hc : c ∈ row := List.mem_of_mem_take (i := 2 * u - 2) (by rw [h]; simp)
    have hb : ∀ i, csum i D + c.size ≤ 4611686018427387904 := fun i => by
      have h1 := csum_le i (m := 65536) (l := D) (fun d hd => (hf d (List.mem_of_mem_take (i := 2 * u - 2) (by rw [h]; simp [hd]))).2)
      have h2 := (hf c hc).2
      have h3 : D.length * 65536 ≤ 1000 * 65536 := Nat.mul_le_mul_right _ (by omega)
      omega
    rw [build_Limited.l5, e, Int.toNat_natCast, ← List.map_take, if_pos (by rw [h]; simp <;> omega), gd_pos (by rw [h]; simp <;> omega), r, into_spec n c _ (hf c hc).1 hb]
    simp only [Option.bind_some]
    rw [inc_i (by omega)]
    simp only [List.length_append, List.length_cons, List.length_nil, Nat.zero_add] at key
    refine Eq.trans ?_ key
    congr 1
    refine lf_congr fun i _ => ?_
    rw [csum_append, csum_cons, csum_nil]; omega
theorem shl1 (lim : Nat) (h : lim ≤ 15) : shl .i64 1 (IntKind.u64.wrap (lim : Int)) = ((2 ^ lim : Nat) : Int) := by
  rw [wr_u64 (by omega)]; exact shl_one lim (by omega)
theorem build_Limited_spec (a : List Int) (limit : Int) (hwl : -9223372036854775808 ≤ limit ∧ limit ≤ 9223372036854775807) : build_Limited.f a limit = some (if limit < 1 ∨ 15 < limit then ([], 1) else if badF a ≠ 0 then ([], badF a) else if 2 ^ limit.toNat < (uS a).length then ([], 60) else if (uS a).length < 2 then (fewL a, 0) else (limL a limit.toNat, 0)) := by
  rw [build_Limited.f]
  by_cases c1 : limit < 1 ∨ 15 < limit
  · rw [if_pos c1, if_pos c1]
  · obtain ⟨lim, rfl⟩ : ∃ m : Nat, limit = m := ⟨limit.toNat, by omega⟩
    rw [if_neg c1, if_neg c1, build_used_spec]
    simp only [Option.bind_some, Int.toNat_natCast]
    by_cases c2 : badF a = 0
    · obtain ⟨b1, b2⟩ := badF_ok c2
      have hu := uS_len a
      have c2' : ¬ (badF a ≠ 0) := fun f => f c2
      rw [if_pos c2, if_neg c2', if_neg c2', gd_pos (by rw [wr_u64 (by omega)]; omega), shl1 lim (by omega)]
      by_cases c3 : 2 ^ lim < (uS a).length
      · rw [if_pos (by omega), if_pos c3]
      · rw [if_neg (by omega), if_neg c3]
        by_cases c4 : (uS a).length < 2
        · rw [if_pos (by omega), if_pos c4, build_few_spec a.length b1 (uS a) (by omega) (fun x hx => by obtain ⟨i, rfl, hi, _⟩ := uS_mem hx; omega)]
          rfl
        · rw [if_neg (by omega), if_neg c4, slices_Clone_int_int.f, gd_pos (by omega)]
          simp only [Option.bind_some]
          obtain ⟨S, s1, s2, s3⟩ := stable_spec a (uS a) (by omega) (fun x hx => by obtain ⟨i, rfl, hi, _⟩ := uS_mem hx; exact ⟨by omega, by omega⟩) (uS_rising a)
          obtain rfl : S = srt a := kle_one (s2.trans (srt_perm a).symm) s3 (srt_sorted a)
          have hb : ∀ x ∈ a, 0 ≤ x ∧ x ≤ 4294967296 := fun x hx => by have := b2 x hx; unfold okF at this; omega
          have fine := clS_fine hb
          have len := srt_len a
          have k1 := lim_leaves a b1 b2 (srt a) (fun x hx => srt_mem hx) (by omega) (srt a) FU [] rfl (by rw [FU_eq]; omega)
          have k1' : build_Limited.l1 FU ([] : List Co) 0 a (srt a) = _ := k1
          have k2 := lim_rounds a.length (clS a (srt a)) (by rw [clS_length]; omega) fine lim (by omega) (lim - 1) FU 0 (by omega) (by rw [FU_eq]; omega)
          have k2' : build_Limited.l3 FU ((clS a (srt a)).map toCo) 0 (lim : Int) ((clS a (srt a)).map toCo) = some ((rowP a lim).map toCo) := k2
          rw [s1]
          simp only [Option.bind_some]
          rw [k1']
          simp only [Option.bind_some]
          rw [k2']
          simp only [Option.bind_some]
          have hrow : ∀ c ∈ rowP a lim, c.inn a.length ∧ c.size ≤ 65536 := fun c hc => by
            have h1 := prow_fine fine (lim - 1) c hc
            have h2 : 2 ^ (lim - 1) ≤ 2 ^ 15 := Nat.pow_le_pow_right (by omega) (by omega)
            exact ⟨h1.inn, Nat.le_trans h1.size (by omega)⟩
          have hlong : 2 * (uS a).length - 2 ≤ (rowP a lim).length := by
            have e : clS a (srt a) = lvs (fun j => (rd a ((srt a).getD j 0)).toNat) (fun j => ((srt a).getD j 0).toNat) (uS a).length := by
              unfold clS lvs
              rw [← len]
              refine List.ext_getElem (by simp) fun i h1 h2 => ?_
              simp at h1
              simp [h1]
            unfold rowP
            rw [e]
            exact prow_enough (by omega) (by rw [show lim - 1 + 1 = lim by omega]; omega)
          have e5 : IntKind.i64.wrap (IntKind.i64.wrap (2 * ((uS a).length : Int)) - 2) = ((2 * (uS a).length - 2 : Nat) : Int) := by
            rw [wr_i64 (x := 2 * ((uS a).length : Int)) (by omega), wr_i64 (by omega)]; omega
          have k3 := lim_into a.length (uS a) (uS a).length rfl (by omega) (by omega) (rowP a lim) hlong hrow ((rowP a lim).take (2 * (uS a).length - 2)) FU [] rfl (by rw [FU_eq, List.length_take]; omega)
          have k3' : build_Limited.l5 FU (lf a.length fun _ => 0) 0 (uS a) ((rowP a lim).map toCo) = _ := k3
          rw [gd_pos (by omega), bnd_eq, lf_zero, e5, gd_pos (by rw [List.length_map]; omega), k3']
          rfl
    · have c2' : badF a ≠ 0 := c2
      rw [if_neg c2, if_pos c2', if_pos c2']

theorem rdx_gT (l : List Ht) (i : Nat) : rdx E_heap_node_int l (i : Int) = gT l i := by unfold rdx gT; rw [Int.toNat_natCast]; rfl
theorem before_eq (x y : Ht) : heap_node_int_before.f x.1 x.2.1 x.2.2 y.1 y.2.1 y.2.2 = some (decide (bef x y)) := rfl
theorem half_i {i : Nat} (h0 : 0 < i) (h : i < 4611686018427387904) : IntKind.i64.wrap (Int.tdiv (IntKind.i64.wrap ((i : Int) - 1)) 2) = (((i - 1) / 2 : Nat) : Int) := by
  rw [wr_i64 (x := (i : Int) - 1) (by omega), Int.tdiv_eq_ediv_of_nonneg (by omega), wr_i64 (by omega)]; omega
theorem push_l1 (n : Nat) (hn : n ≤ 1000000) : ∀ (i k : Nat) (l : List Ht), l.length = n → i < n → i < k → UpI l i → ∃ l', heap_Heap_int_Push.l1 k l (i : Int) = some l' ∧ Heap l' ∧ l'.Perm l := by
  intro i
  induction i using Nat.strongRecOn with
  | _ i ih =>
    intro k l hl hi hk hu
    obtain ⟨k, rfl⟩ : ∃ q, k = q + 1 := ⟨k - 1, by omega⟩
    by_cases c : i = 0
    · subst c
      exact ⟨l, by rw [heap_Heap_int_Push.l1, if_neg (by omega)], up_stop hu (.inl rfl), List.Perm.refl _⟩
    · rw [heap_Heap_int_Push.l1, if_pos (by omega), half_i (by omega) (by omega), bnd_eq, gd_pos (by omega), gd_pos (by omega), rdx_gT, rdx_gT, before_eq]
      simp only [Option.bind_some]
      by_cases b : bef (gT l i) (gT l ((i - 1) / 2))
      · have hu2 := up_step hu (by omega) (by omega) b
        obtain ⟨l', e, h1, h2⟩ := ih ((i - 1) / 2) (by omega) k (swp l i ((i - 1) / 2)) (by rw [swp_length]; exact hl) (by omega) (by omega) hu2
        rw [decide_eq_true b, if_neg (by decide), Int.toNat_natCast, bnd_eq, gd_pos (by simp; omega), Int.toNat_natCast, bnd_eq]
        exact ⟨l', e, h1, h2.trans (swp_perm (by omega) (by omega))⟩
      · rw [decide_eq_false b, if_pos (by decide)]
        exact ⟨l, rfl, up_stop hu (.inr b), List.Perm.refl _⟩
theorem push_spec (l : List Ht) (h : Heap l) (hn : l.length < 1000000) (key : Int) (turn : Nat) (ht : turn < 1000000) (v : Int) : ∃ l', heap_Heap_int_Push.f l (turn : Int) key v = some (l', ((turn + 1 : Nat) : Int)) ∧ Heap l' ∧ l'.Perm ((key, (turn : Int), v) :: l) := by
  have el : (l ++ [(key, (turn : Int), v)]).length = l.length + 1 := by simp
  obtain ⟨l', e, h1, h2⟩ := push_l1 (l.length + 1) (by omega) l.length FU (l ++ [(key, (turn : Int), v)]) el (by omega) (by rw [FU_eq]; omega) (up_new h _)
  refine ⟨l', ?_, h1, h2.trans (List.perm_append_comm (l₁ := l) (l₂ := [_]))⟩
  have ew : IntKind.i64.wrap (((l.length + 1 : Nat) : Int) - 1) = (l.length : Int) := by rw [wr_i64 (by omega)]; omega
  rw [heap_Heap_int_Push.f, bnd_eq, el, gd_pos (by omega), ew, bnd_eq, e, inc_i (by omega)]
  rfl
theorem sift_l13 (l : List Ht) (i : Nat) (hi : i < l.length) (hn : l.length ≤ 1000000) : ∀ (m k d least : Nat), d + m = 2 * i + 3 → 2 * i + 1 ≤ d → m < k → least < l.length → (least = i ∨ ((least - 1) / 2 = i ∧ 0 < least ∧ bef (gT l least) (gT l i))) → (∀ j, 2 * i + 1 ≤ j → j < d → j < l.length → lexo (gT l least) (gT l j)) →
    ∃ c, heap_Heap_int_sift.l13 k (least : Int) (d : Int) l (i : Int) = some ((c : Nat) : Int) ∧ c < l.length ∧ (c = i ∨ ((c - 1) / 2 = i ∧ 0 < c ∧ bef (gT l c) (gT l i))) ∧ (∀ j, 0 < j → j < l.length → (j - 1) / 2 = i → lexo (gT l c) (gT l j)) := by
  intro m
  induction m with
  | zero =>
    intro k d least hd hd2 hk hle h1 h2
    obtain ⟨k, rfl⟩ : ∃ q, k = q + 1 := ⟨k - 1, by omega⟩
    have e2 : IntKind.i64.wrap (IntKind.i64.wrap (2 * (i : Int)) + 2) = ((2 * i + 2 : Nat) : Int) := by rw [wr_i64 (x := 2 * (i : Int)) (by omega), wr_i64 (by omega)]; omega
    refine ⟨least, ?_, hle, h1, fun j j0 hj hp => h2 j (by omega) (by omega) hj⟩
    rw [heap_Heap_int_sift.l13, e2, if_neg (by omega)]
  | succ m ih =>
    intro k d least hd hd2 hk hle h1 h2
    obtain ⟨k, rfl⟩ : ∃ q, k = q + 1 := ⟨k - 1, by omega⟩
    have e2 : IntKind.i64.wrap (IntKind.i64.wrap (2 * (i : Int)) + 2) = ((2 * i + 2 : Nat) : Int) := by rw [wr_i64 (x := 2 * (i : Int)) (by omega), wr_i64 (by omega)]; omega
    rw [heap_Heap_int_sift.l13, e2]
    by_cases c : d < l.length
    · rw [if_pos (by omega), gd_pos (by omega), gd_pos (by omega), rdx_gT, rdx_gT, before_eq]
      simp only [Option.bind_some]
      by_cases b : bef (gT l d) (gT l least)
      · rw [decide_eq_true b, if_pos rfl]
        simp only [Option.bind_some]
        rw [bnd_eq, inc_i (by omega)]
        refine ih k (d + 1) d (by omega) (by omega) (by omega) c (.inr ⟨by omega, by omega, ?_⟩) (fun j hj1 hj2 hj3 => ?_)
        · rcases h1 with h1 | h1
          · subst h1; exact b
          · have := h1.2.2; unfold bef at *; omega
        · by_cases e : j = d
          · subst e; exact lexo_refl _
          · exact lexo_trans (bef_lexo b) (h2 j hj1 (by omega) hj3)
      · rw [decide_eq_false b, if_neg (by decide)]
        simp only [Option.bind_some]
        rw [bnd_eq, inc_i (by omega)]
        refine ih k (d + 1) least (by omega) (by omega) (by omega) hle h1 (fun j hj1 hj2 hj3 => ?_)
        by_cases e : j = d
        · subst e; exact b
        · exact h2 j hj1 (by omega) hj3
    · rw [if_neg (by omega)]
      exact ⟨least, rfl, hle, h1, fun j j0 hj hp => h2 j (by omega) (by omega) hj⟩
theorem sift_l11 (n : Nat) (hn : n ≤ 1000000) (turn : Int) : ∀ (m k i : Nat) (l : List Ht), l.length = n → i + m = n → 0 < m → m < k → DnI l i → ∃ l', heap_Heap_int_sift.l11 k l (i : Int) turn = some (l', turn) ∧ Heap l' ∧ l'.Perm l := by
  intro m
  induction m using Nat.strongRecOn with
  | _ m ih =>
    intro k i l hl hi hm hk hd
    obtain ⟨k, rfl⟩ : ∃ q, k = q + 1 := ⟨k - 1, by omega⟩
    have e1 : IntKind.i64.wrap (IntKind.i64.wrap (2 * (i : Int)) + 1) = ((2 * i + 1 : Nat) : Int) := by rw [wr_i64 (x := 2 * (i : Int)) (by omega), wr_i64 (by omega)]; omega
    obtain ⟨c, ec, h1, h2, h3⟩ := sift_l13 l i (by omega) (by omega) 2 FU (2 * i + 1) i (by omega) (by omega) (by rw [FU_eq]; omega) (by omega) (.inl rfl) (fun j h1 h2 => by omega)
    rw [heap_Heap_int_sift.l11, e1, bnd_eq, ec]
    simp only [Option.bind_some]
    by_cases d : c = i
    · subst d
      rw [if_pos rfl]
      exact ⟨l, rfl, dn_stop hd h3, List.Perm.refl _⟩
    · rcases h2 with h2 | ⟨h2, h4, h5⟩
      · exact (d h2).elim
      · rw [if_neg (by omega), gd_pos (by omega), gd_pos (by omega), rdx_gT, rdx_gT, Int.toNat_natCast, bnd_eq, gd_pos (by simp; omega), Int.toNat_natCast, bnd_eq]
        obtain ⟨l', e, g1, g2⟩ := ih (n - c) (by omega) k c (swp l i c) (by rw [swp_length]; exact hl) (by omega) (by omega) (by omega) (dn_step hd h4 h1 h2 h3 h5)
        exact ⟨l', e, g1, g2.trans (swp_perm (by omega) h1)⟩
theorem pop_spec (l : List Ht) (h : Heap l) (h0 : 0 < l.length) (hn : l.length ≤ 1000000) (turn : Int) : ∃ l', heap_Heap_int_Pop.f l turn = some ((gT l 0).1, (gT l 0).2.2, true, l', turn) ∧ Heap l' ∧ l.Perm (gT l 0 :: l') ∧ (∀ y ∈ l, lexo (gT l 0) y) := by
  have ew : IntKind.i64.wrap ((l.length : Int) - 1) = ((l.length - 1 : Nat) : Int) := by rw [wr_i64 (by omega)]; omega
  have hmin : ∀ y ∈ l, lexo (gT l 0) y := fun y hy => by
    obtain ⟨j, hj, e⟩ := List.mem_iff_getElem.1 hy
    have := heap_min h j hj
    rw [gT_at hj, e] at this; exact this
  have z0 : rdx E_heap_node_int l 0 = gT l 0 := rdx_gT l 0
  have pk : heap_Heap_int_Peek.f l turn = some ((gT l 0).1, (gT l 0).2.2, true, l, turn) := by
    rw [heap_Heap_int_Peek.f, if_neg (by omega), gd_pos (by omega), z0]
  have tl : ∃ l', heap_Heap_int_sift.f (topped l) turn = some (l', turn) ∧ Heap l' ∧ l'.Perm (topped l) := by
    have tlen := topped_length (l := l)
    by_cases c : l.length = 1
    · have e : topped l = [] := List.eq_nil_of_length_eq_zero (by omega)
      rw [e]
      refine ⟨[], ?_, fun j _ hj => by simp at hj, List.Perm.refl _⟩
      rw [heap_Heap_int_sift.f, FU_eq, heap_Heap_int_sift.l11]
      have ec : heap_Heap_int_sift.l13 FU 0 1 ([] : List Ht) 0 = some 0 := by
        rw [FU_eq, heap_Heap_int_sift.l13, if_neg (by simp)]
      have e3 : IntKind.i64.wrap (IntKind.i64.wrap (2 * 0) + 1) = 1 := by decide
      rw [e3, bnd_eq, ec]
      rfl
    · exact sift_l11 (topped l).length (by omega) turn (topped l).length FU 0 (topped l) rfl (by omega) (by omega) (by rw [FU_eq]; omega) (topped_dn h)
  obtain ⟨l', e, h1, h2⟩ := tl
  refine ⟨l', ?_, h1, (topped_perm h0).trans ((h2.symm).cons _), hmin⟩
  rw [heap_Heap_int_Pop.f, pk]
  simp only [Option.bind_some]
  rw [if_neg (by decide), ew, bnd_eq, gd_pos (by omega), gd_pos (by omega), bnd_eq, rdx_gT, gd_pos (by simp; omega), Int.toNat_natCast, bnd_eq, gd_pos (by simp)]
  have e' : heap_Heap_int_sift.f (((l.set (0 : Int).toNat ((gT l (l.length - 1)).1, (gT l (l.length - 1)).2.1, (gT l (l.length - 1)).2.2)).set (l.length - 1) (0, 0, 0)).take (l.length - 1)) turn = some (l', turn) := e
  rw [e']
  rfl

theorem rd_setN {l : List Int} {i x : Nat} {v : Int} (h : i < l.length) : rd (l.set i v) (x : Int) = if x = i then v else rd l (x : Int) := by
  unfold rd
  rw [Int.toNat_natCast, List.getD_eq_getElem?_getD, List.getD_eq_getElem?_getD, List.getElem?_set]
  by_cases c : i = x
  · subst c; simp [h]
  · rw [if_neg c, if_neg (fun e => c e.symm)]
theorem rd_appN {l : List Int} {x : Nat} {v : Int} (h : x < l.length) : rd (l ++ [v]) (x : Int) = rd l (x : Int) := by
  unfold rd
  rw [Int.toNat_natCast, List.getD_eq_getElem?_getD, List.getD_eq_getElem?_getD, List.getElem?_append_left h]
theorem rd_appE {l : List Int} {v : Int} : rd (l ++ [v]) (l.length : Int) = v := rd_at (by simp)
def wU (a : List Int) (j : Nat) : Nat := (rd a ((uS a).getD j 0)).toNat
def sU (a : List Int) (j : Nat) : Nat := ((uS a).getD j 0).toNat
def lvN (a : List Int) (m : Nat) : List (Nat × Coin) := (List.range m).map fun j => (j, .leaf (wU a j) (sU a j))
theorem lvN_snd (a : List Int) (m : Nat) : (lvN a m).map Prod.snd = lvs (wU a) (sU a) m := by unfold lvN lvs; rw [List.map_map]; rfl
theorem lvN_fst (a : List Int) (m : Nat) : (lvN a m).map Prod.fst = List.range m := by
  unfold lvN
  rw [List.map_map]
  exact (List.map_congr_left fun _ _ => rfl).trans (List.map_id _)
theorem sU_at {a : List Int} {j : Nat} (h : j < (uS a).length) : (uS a).getD j 0 = (sU a j : Int) ∧ used a (sU a j) := by
  have hm : (uS a).getD j 0 ∈ uS a := by rw [getD_at h]; exact List.getElem_mem h
  obtain ⟨i, hi, h1, h2⟩ := uS_mem hm
  have e : sU a j = i := by unfold sU; rw [hi, Int.toNat_natCast]
  rw [e]
  rw [hi] at h2
  exact ⟨hi, h1, h2⟩
theorem sU_one {a : List Int} {i j : Nat} (hi : i < (uS a).length) (hj : j < (uS a).length) (h : sU a i = sU a j) : i = j := by
  have h1 := (sU_at hi).1
  have h2 := (sU_at hj).1
  rw [h, ← h2, getD_at hi, getD_at hj] at h1
  have hs := uS_rising a
  rcases Nat.lt_trichotomy i j with c | c | c
  · have := List.pairwise_iff_getElem.1 hs i j hi hj c; omega
  · exact c
  · have := List.pairwise_iff_getElem.1 hs j i hj hi c; omega
theorem sU_of {a : List Int} {i : Nat} (h : used a i) : ∃ j, j < (uS a).length ∧ sU a j = i := by
  obtain ⟨j, hj, e⟩ := List.mem_iff_getElem.1 (uS_of h.1 h.2)
  refine ⟨j, hj, ?_⟩
  unfold sU
  rw [getD_at hj, e, Int.toNat_natCast]
theorem dep_l1 (a : List Int) (ha : a.length ≤ 288) : ∀ (m k t : Nat) (nodes : List Ht), t + m = (uS a).length → m < k → Heap nodes → nodes.Perm ((lvN a t).map ndH) →
    ∃ nodes', build_Depths.l1 k nodes (t : Int) (t : Int) a (uS a) = some (nodes', ((uS a).length : Int)) ∧ Heap nodes' ∧ nodes'.Perm ((lvN a (uS a).length).map ndH) := by
  have hu := uS_len a
  intro m
  induction m with
  | zero =>
    intro k t nodes ht hk hh hp
    obtain ⟨k, rfl⟩ : ∃ q, k = q + 1 := ⟨k - 1, by omega⟩
    obtain rfl : t = (uS a).length := by omega
    exact ⟨nodes, by rw [build_Depths.l1, if_neg (by omega)], hh, hp⟩
  | succ m ih =>
    intro k t nodes ht hk hh hp
    obtain ⟨k, rfl⟩ : ∃ q, k = q + 1 := ⟨k - 1, by omega⟩
    have hlt : t < (uS a).length := by omega
    obtain ⟨e1, e2, e3⟩ := sU_at hlt
    have er : rd (uS a) (t : Int) = (sU a t : Int) := by rw [← e1]; exact rd_at (by rw [List.getElem?_eq_getElem hlt, getD_at hlt])
    have nl : nodes.length = t := by rw [hp.length_eq]; simp [lvN]
    obtain ⟨n2, p1, p2, p3⟩ := push_spec nodes hh (by omega) (rd a (sU a t : Int)) t (by omega) (t : Int)
    have hx : (rd a (sU a t : Int), (t : Int), (t : Int)) = ndH (t, .leaf (wU a t) (sU a t)) := by
      unfold ndH wU
      simp only [Coin.wt]
      rw [e1, Int.toNat_of_nonneg (by omega)]
    have hl : lvN a (t + 1) = lvN a t ++ [(t, .leaf (wU a t) (sU a t))] := by unfold lvN; rw [List.range_succ, List.map_append]; rfl
    have pp : n2.Perm ((lvN a (t + 1)).map ndH) := by
      rw [hl, List.map_append]
      refine p3.trans ?_
      rw [hx]
      exact (hp.cons _).trans (List.perm_append_comm (l₁ := [_]) (l₂ := (lvN a t).map ndH))
    rw [build_Depths.l1, if_pos (by omega), gd_pos (by omega), er, bnd_eq, gd_pos (by omega), p1]
    simp only [Option.bind_some]
    rw [inc_i (by omega)]
    exact ih k (t + 1) n2 (by omega) (by omega) p2 pp
def wtsum (L : List (Nat × Coin)) : Nat := ((L.map Prod.snd).map Coin.wt).sum
theorem dep_l3 (u : Nat) (sy : Nat → Nat) : ∀ (n k : Nat) (L : List (Nat × Coin)) (nodes : List Ht) (P : List Int), L.length = n + 1 → n < k → (L.map Prod.fst).Pairwise (· < ·) → (∀ p ∈ L, p.1 < P.length) → Heap nodes → nodes.Perm (L.map ndH) → P.length + n ≤ 1000 →
    (∀ p ∈ L, TreeIn P (L.map Prod.fst) u sy p.1 p.2) → (∀ p ∈ L, (∃ a b, p.2 = .pack a b) → rd P (p.1 : Int) = (p.1 : Int)) → wtsum L ≤ 1000000000000000 →
    ∃ t W P' root, Joined (L.map Prod.snd) t W ∧ build_Depths.l3 k nodes P (P.length : Int) = some P' ∧ root < P'.length ∧ P'.length ≤ 1000 ∧ P.length ≤ P'.length ∧ TreeIn P' [root] u sy root t ∧ ((∃ a b, t = .pack a b) → rd P' (root : Int) = (root : Int)) := by
  intro n
  induction n with
  | zero =>
    intro k L nodes P hL hk hr hlt hh hp hm ht hpk hw
    obtain ⟨k, rfl⟩ : ∃ q, k = q + 1 := ⟨k - 1, by omega⟩
    obtain ⟨p, rfl⟩ : ∃ p, L = [p] := by
      cases L with
      | nil => cases hL
      | cons p L => cases L with
        | nil => exact ⟨p, rfl⟩
        | cons q L => simp at hL
    have nl : nodes.length = 1 := by rw [hp.length_eq]; rfl
    refine ⟨p.2, 0, P, p.1, .one _, ?_, hlt p (by simp), by omega, Nat.le_refl _, ht p (by simp), hpk p (by simp)⟩
    rw [build_Depths.l3, heap_Heap_int_Len.f]
    simp only [Option.bind_some]
    rw [nl, if_neg (by decide)]
  | succ n ih =>
    intro k L nodes P hL hk hr hlt hh hp hm ht hpk hw
    obtain ⟨k, rfl⟩ : ∃ q, k = q + 1 := ⟨k - 1, by omega⟩
    have nl : nodes.length = n + 2 := by rw [hp.length_eq]; simpa using hL
    -- the first one
    obtain ⟨n1, a1, a2, a3, a4⟩ := pop_spec nodes hh (by omega) (by omega) (P.length : Int)
    have m0 : gT nodes 0 ∈ L.map ndH := hp.subset (by rw [gT_at (by omega)]; exact List.getElem_mem _)
    obtain ⟨i, p, b1, b2, b3⟩ := best_of hr m0 (fun y hy => a4 y (hp.symm.subset hy))
    have q1 : n1.Perm ((L.eraseIdx i).map ndH) := by
      have h1 := (erase_perm b1).map ndH
      rw [List.map_cons, b2] at h1
      exact (List.perm_cons _).1 (a3.symm.trans (hp.trans h1))
    -- the second one
    have el1 : (L.eraseIdx i).length = n + 1 := by
      have := (erase_perm b1).length_eq
      simp only [List.length_cons] at this; omega
    have nl1 : n1.length = n + 1 := by rw [q1.length_eq]; simpa using el1
    have hr1 : ((L.eraseIdx i).map Prod.fst).Pairwise (· < ·) := List.Pairwise.sublist ((List.eraseIdx_sublist L i).map _) hr
    obtain ⟨n2, c1, c2, c3, c4⟩ := pop_spec n1 a2 (by omega) (by omega) (P.length : Int)
    have m1 : gT n1 0 ∈ (L.eraseIdx i).map ndH := q1.subset (by rw [gT_at (by omega)]; exact List.getElem_mem _)
    obtain ⟨j, q, d1, d2, d3⟩ := best_of hr1 m1 (fun y hy => c4 y (q1.symm.subset hy))
    have q2 : n2.Perm (((L.eraseIdx i).eraseIdx j).map ndH) := by
      have h1 := (erase_perm d1).map ndH
      rw [List.map_cons, d2] at h1
      exact (List.perm_cons _).1 (c3.symm.trans (q1.trans h1))
    have el2 : ((L.eraseIdx i).eraseIdx j).length = n := by
      have := (erase_perm d1).length_eq
      simp only [List.length_cons] at this; omega
    have pl : L.Perm (p :: q :: (L.eraseIdx i).eraseIdx j) := (erase_perm b1).trans ((erase_perm d1).cons _)
    have hpm : p ∈ L := pl.symm.subset (by simp)
    have hqm : q ∈ L := pl.symm.subset (by simp)
    have hpl := hlt p hpm
    have hql := hlt q hqm
    generalize hR : (L.eraseIdx i).eraseIdx j = R at *
    have nd : (L.map Prod.fst).Nodup := hr.imp (fun h => by omega)
    have nd2 : (p.1 :: q.1 :: R.map Prod.fst).Nodup := ((pl.map Prod.fst).nodup_iff).1 nd
    have memL : ∀ x, x ∈ L.map Prod.fst ↔ x = p.1 ∨ x = q.1 ∨ x ∈ R.map Prod.fst := fun x => by
      have := (pl.map Prod.fst).mem_iff (a := x)
      simp only [List.map_cons, List.mem_cons] at this
      exact this
    obtain ⟨nd3, nd4⟩ := List.nodup_cons.1 nd2
    obtain ⟨nd5, nd6⟩ := List.nodup_cons.1 nd4
    have npq : p.1 ≠ q.1 := fun e => nd3 (by rw [e]; simp)
    have npR : p.1 ∉ R.map Prod.fst := fun h => nd3 (by simp only [List.mem_cons]; exact .inr h)
    -- what is pushed
    have hws : wtsum L = p.2.wt + (q.2.wt + wtsum R) := by
      unfold wtsum
      rw [((pl.map Prod.snd).map Coin.wt).sum_nat]
      rfl
    have x1 : (gT nodes 0).1 = (p.2.wt : Int) ∧ (gT nodes 0).2.2 = (p.1 : Int) := by rw [← b2]; exact ⟨rfl, rfl⟩
    have x2 : (gT n1 0).1 = (q.2.wt : Int) ∧ (gT n1 0).2.2 = (q.1 : Int) := by rw [← d2]; exact ⟨rfl, rfl⟩
    have ew : IntKind.i64.wrap ((p.2.wt : Int) + (q.2.wt : Int)) = ((p.2.wt + q.2.wt : Nat) : Int) := by rw [wr_i64 (by omega)]; rfl
    have nl2 : n2.length = n := by rw [q2.length_eq]; simpa using el2
    obtain ⟨n3, e1, e2, e3⟩ := push_spec n2 c2 (by omega) ((p.2.wt + q.2.wt : Nat) : Int) P.length (by omega) (P.length : Int)
    have lenP : (((P.set p.1 (P.length : Int)).set q.1 (P.length : Int)) ++ [(P.length : Int)]).length = P.length + 1 := by simp
    have rdP : ∀ x, x < P.length → rd (((P.set p.1 (P.length : Int)).set q.1 (P.length : Int)) ++ [(P.length : Int)]) (x : Int) = if x = q.1 then (P.length : Int) else if x = p.1 then (P.length : Int) else rd P (x : Int) := fun x hx => by
      rw [rd_appN (by simpa using hx), rd_setN (by simpa using hql), rd_setN hpl]
    have fsts : (R ++ [(P.length, Coin.pack p.2 q.2)]).map Prod.fst = R.map Prod.fst ++ [P.length] := by simp
    have hRm : ∀ r ∈ R, r ∈ L := fun r hr => pl.symm.subset (by simp [hr])
    have keep : ∀ r ∈ L, TreeIn (((P.set p.1 (P.length : Int)).set q.1 (P.length : Int)) ++ [(P.length : Int)]) (R.map Prod.fst ++ [P.length]) u sy r.1 r.2 := fun r hr => by
      refine tree_keep (ht r hr) (fun x hx hn hm => ?_) (fun x hx hn => ?_)
      · rcases List.mem_append.1 hm with h | h
        · exact hn ((memL x).2 (.inr (.inr h)))
        · have := hlt r hr
          rw [List.mem_singleton] at h; omega
      · have := hlt r hr
        rw [rdP x (by omega), if_neg (fun e => hn ((memL x).2 (.inr (.inl e)))), if_neg (fun e => hn ((memL x).2 (.inl e)))]
    obtain ⟨t, W, P', root, g1, g2, g3, g4, g5, g6, g7⟩ := ih k (R ++ [(P.length, .pack p.2 q.2)]) n3 (((P.set p.1 (P.length : Int)).set q.1 (P.length : Int)) ++ [(P.length : Int)]) (by simp [el2]) (by omega)
      (by
        rw [fsts]
        refine List.pairwise_append.2 ⟨?_, List.pairwise_singleton _ _, fun x hx y hy => ?_⟩
        · rw [← hR]; exact List.Pairwise.sublist ((List.eraseIdx_sublist _ j).map _) hr1
        · rw [List.mem_singleton] at hy
          obtain ⟨r, hr, rfl⟩ := List.mem_map.1 hx
          have := hlt r (hRm r hr); omega)
      (fun r hr => by
        rw [lenP]
        rcases List.mem_append.1 hr with h | h
        · have := hlt r (hRm r h); omega
        · rw [List.mem_singleton] at h; subst h; show P.length < _; omega)
      e2
      (by
        rw [List.map_append]
        exact e3.trans ((q2.cons _).trans (List.perm_append_comm (l₁ := [_]) (l₂ := R.map ndH))))
      (by rw [lenP]; omega)
      (fun r hr => by
        rw [fsts]
        rcases List.mem_append.1 hr with h | h
        · exact keep r (hRm r h)
        · rw [List.mem_singleton] at h; subst h
          refine .pack hpl hql (fun hm => ?_) (fun hm => ?_) ?_ ?_ (keep p hpm) (keep q hqm)
          · rcases List.mem_append.1 hm with h | h
            · exact npR h
            · rw [List.mem_singleton] at h; omega
          · rcases List.mem_append.1 hm with h | h
            · exact nd5 h
            · rw [List.mem_singleton] at h; omega
          · rw [rdP p.1 hpl, if_neg npq, if_pos rfl]
          · rw [rdP q.1 hql, if_pos rfl])
      (fun r hr hpack => by
        rcases List.mem_append.1 hr with h | h
        · have hrl := hlt r (hRm r h)
          have hmem : r.1 ∈ R.map Prod.fst := List.mem_map.2 ⟨r, h, rfl⟩
          have hn1 : r.1 ≠ q.1 := fun e => nd5 (by rw [← e]; exact hmem)
          have hn2 : r.1 ≠ p.1 := fun e => npR (by rw [← e]; exact hmem)
          rw [rdP r.1 hrl, if_neg hn1, if_neg hn2]
          exact hpk r (hRm r h) hpack
        · rw [List.mem_singleton] at h; subst h
          show rd _ (P.length : Int) = _
          have := rd_appE (l := (P.set p.1 (P.length : Int)).set q.1 (P.length : Int)) (v := (P.length : Int))
          rw [List.length_set, List.length_set] at this
          exact this)
      (by
        have : wtsum (R ++ [(P.length, .pack p.2 q.2)]) = wtsum R + (p.2.wt + q.2.wt) := by unfold wtsum; simp [Coin.wt]
        omega)
    rw [lenP] at g2 g5
    have jn : Joined (L.map Prod.snd) t (p.2.wt + q.2.wt + W) := by
      refine .two b3 (j := j) (d := q.2) (by rw [← erase_map]; exact d3) ?_
      rw [← erase_map, ← erase_map, hR]
      rw [List.map_append] at g1
      exact g1
    refine ⟨t, _, P', root, jn, ?_, g3, g4, by omega, g6, g7⟩
    rw [build_Depths.l3, heap_Heap_int_Len.f]
    simp only [Option.bind_some]
    rw [if_pos (by omega), a1]
    simp only [Option.bind_some]
    rw [c1]
    simp only [Option.bind_some]
    rw [x1.1, x1.2, x2.1, x2.2, ew, bnd_eq, gd_pos (by omega), Int.toNat_natCast, bnd_eq, gd_pos (by simp; omega), Int.toNat_natCast, bnd_eq, bnd_eq, lenP, gd_pos (by omega), e1]
    simp only [Option.bind_some]
    exact g2
theorem dep_l17 (P : List Int) (n s : Nat) (hs : s < n) : ∀ (d k x : Nat) (f : Nat → Nat), StepsTo P x d → d < k → f s + d ≤ 1000000 → build_Depths.l17 k (lf n f) (x : Int) P (s : Int) = some (lf n fun i => if i = s then f s + d else f i) := by
  intro d
  induction d with
  | zero =>
    intro k x f h hk hf
    obtain ⟨k, rfl⟩ : ∃ q, k = q + 1 := ⟨k - 1, by omega⟩
    cases h with
    | stop h e =>
      rw [build_Depths.l17, gd_pos (by omega), e, if_neg (fun c => c rfl)]
      congr 1
      refine lf_congr fun i _ => ?_
      by_cases c : i = s
      · subst c; rw [if_pos rfl]; rfl
      · rw [if_neg c]
  | succ d ih =>
    intro k x f h hk hf
    obtain ⟨k, rfl⟩ : ∃ q, k = q + 1 := ⟨k - 1, by omega⟩
    cases h with
    | @go x y d h e ne st =>
      have key := ih k y (fun i => if i = s then f s + 1 else f i) st (by omega) (by simp; omega)
      rw [build_Depths.l17, gd_pos (by omega), e, if_pos (by omega), lf_length, gd_pos (by omega), lf_rd hs, inc_i (by omega), Int.toNat_natCast, lf_set, bnd_eq, bnd_eq, key]
      congr 1
      refine lf_congr fun i _ => ?_
      by_cases c : i = s
      · subst c; simp; omega
      · simp [c]
def depL (a : List Int) (t : Coin) : List Int := lf a.length fun i => if (i : Int) ∈ uS a then depth i t else 0
theorem dep_l15 (a : List Int) (ha : a.length ≤ 288) (P : List Int) (t : Coin) (hst : ∀ j, j < (uS a).length → StepsTo P j (depth (sU a j) t)) (hd : ∀ j, j < (uS a).length → depth (sU a j) t ≤ 1000) : ∀ (R : List Int) (k : Nat) (D : List Int), uS a = D ++ R → R.length < k →
    build_Depths.l15 k (lf a.length fun i => if (i : Int) ∈ D then depth i t else 0) (D.length : Int) (uS a) P = some (depL a t) := by
  have hu := uS_len a
  intro R
  induction R with
  | nil =>
    intro k D e hk
    obtain ⟨k, rfl⟩ : ∃ q, k = q + 1 := ⟨k - 1, by omega⟩
    rw [List.append_nil] at e
    rw [build_Depths.l15, e, if_neg (by omega)]
    unfold depL
    rw [e]
  | cons x R ih =>
    intro k D e hk
    obtain ⟨k, rfl⟩ : ∃ q, k = q + 1 := ⟨k - 1, by omega⟩
    simp only [List.length_cons] at hk
    have hat : (uS a)[D.length]? = some x := by rw [e, List.getElem?_append_right (Nat.le_refl _), Nat.sub_self]; rfl
    have hlt := lt_of_at hat
    obtain ⟨e1, e2⟩ := sU_at hlt
    have ex : x = (sU a D.length : Int) := by
      rw [← e1, getD_at hlt]
      rw [List.getElem?_eq_getElem hlt] at hat
      exact (Option.some.inj hat).symm
    have nx : (sU a D.length : Int) ∉ D := fun hm => by
      have hs := uS_rising a
      rw [e, ← ex] at *
      have := (List.pairwise_append.1 hs).2.2 x hm x (by simp)
      omega
    have hdd := hd _ hlt
    have t17 := dep_l17 P a.length (sU a D.length) e2.1 (depth (sU a D.length) t) FU D.length (fun i => if (i : Int) ∈ D then depth i t else 0) (hst _ hlt) (by rw [FU_eq]; omega) (by rw [if_neg nx]; omega)
    have ec : (lf a.length fun i => if i = sU a D.length then (if (sU a D.length : Int) ∈ D then depth (sU a D.length) t else 0) + depth (sU a D.length) t else if (i : Int) ∈ D then depth i t else 0) = lf a.length fun i => if (i : Int) ∈ D ++ [x] then depth i t else 0 := lf_congr fun i _ => by
      by_cases c : i = sU a D.length
      · subst c
        rw [if_pos rfl, if_neg nx, if_pos (by rw [ex]; simp)]; omega
      · have c2 : ¬ ((i : Int) = x) := by rw [ex]; omega
        rw [if_neg c]
        by_cases d : (i : Int) ∈ D
        · rw [if_pos d, if_pos (by simp [d])]
        · rw [if_neg d, if_neg (by simp [d, c2])]
    rw [ec] at t17
    have key := ih k (D ++ [x]) (by rw [e]; simp) (by omega)
    have er : rd (uS a) (D.length : Int) = (sU a D.length : Int) := by rw [← ex]; exact rd_at hat
    rw [build_Depths.l15, if_pos (by omega), gd_pos (by omega), er, bnd_eq, t17]
    simp only [Option.bind_some]
    rw [inc_i (by omega)]
    simp only [List.length_append, List.length_cons, List.length_nil, Nat.zero_add] at key
    exact key
theorem sumN_bound {n c : Nat} {f : Nat → Nat} (h : ∀ j, j < n → f j ≤ c) : sumN n f ≤ n * c := by rw [← sumN_const]; exact sumN_le h
theorem build_Depths_spec (a : List Int) : (badF a ≠ 0 ∧ build_Depths.f a = some ([], badF a)) ∨ (badF a = 0 ∧ (uS a).length < 2 ∧ build_Depths.f a = some (fewL a, 0)) ∨
    (badF a = 0 ∧ 2 ≤ (uS a).length ∧ ∃ t W, Joined (lvs (wU a) (sU a) (uS a).length) t W ∧ build_Depths.f a = some (depL a t, 0)) := by
  rw [build_Depths.f, build_used_spec]
  simp only [Option.bind_some]
  by_cases c2 : badF a = 0
  · obtain ⟨b1, b2⟩ := badF_ok c2
    have hu := uS_len a
    rw [if_pos c2, if_neg (fun f => f c2)]
    by_cases c4 : (uS a).length < 2
    · refine .inr (.inl ⟨c2, c4, ?_⟩)
      rw [if_pos (by omega), build_few_spec a.length b1 (uS a) (by omega) (fun x hx => by obtain ⟨i, rfl, hi, _⟩ := uS_mem hx; omega)]
      rfl
    · refine .inr (.inr ⟨c2, by omega, ?_⟩)
      obtain ⟨n1, p1, p2, p3⟩ := dep_l1 a b1 (uS a).length FU 0 [] (by omega) (by rw [FU_eq]; omega) (fun j _ hj => by simp at hj) (List.Perm.refl _)
      have p1' : build_Depths.l1 FU ([] : List Ht) 0 0 a (uS a) = _ := p1
      have hw : ∀ j, j < (uS a).length → wU a j ≤ 4294967296 ∧ 0 < wU a j := fun j hj => by
        obtain ⟨e1, e2, e3⟩ := sU_at hj
        have := used_at b2 e2
        unfold wU
        rw [e1]; omega
      have htot : sumN (uS a).length (wU a) ≤ (uS a).length * 4294967296 := sumN_bound fun j hj => (hw j hj).1
      have hwt : wtsum (lvN a (uS a).length) = sumN (uS a).length (wU a) := by
        unfold wtsum
        rw [lvN_snd]
        exact lvs_wsum _ _ _
      have frp := lvN_fst a (uS a).length
      obtain ⟨t, W, P', root, g1, g2, g3, g4, g5, g6, g7⟩ := dep_l3 (uS a).length (sU a) ((uS a).length - 1) FU (lvN a (uS a).length) n1 (List.replicate (uS a).length 0) (by simp [lvN]; omega) (by rw [FU_eq]; omega)
        (by rw [frp]; exact List.pairwise_lt_range) (fun p hp => by
          obtain ⟨j, hj, rfl⟩ := List.mem_map.1 hp
          simpa using hj) p2 p3 (by simp; omega) (fun p hp => by
          obtain ⟨j, hj, rfl⟩ := List.mem_map.1 hp
          exact .leaf (List.mem_range.1 hj)) (fun p hp hk => by
          obtain ⟨j, hj, rfl⟩ := List.mem_map.1 hp
          obtain ⟨x, y, e⟩ := hk
          cases e) (by rw [hwt]; omega)
      rw [lvN_snd] at g1
      rw [List.length_replicate] at g2 g5
      have hroot := g7 (joined_pack g1 (by rw [lvs_length]; omega))
      have hst0 := tree_steps g6 0 g3 (.stop g3 hroot)
      have hf := huffman (fun i j hi hj h => sU_one hi hj h) (by omega) (fun j hj => (hw j hj).2) (by omega) g1
      have hlv := joined_lv g1
      have elv : (lvs (wU a) (sU a) (uS a).length).flatMap Coin.lv = (List.range (uS a).length).map fun j => (wU a j, sU a j) := by
        unfold lvs
        rw [List.flatMap_map]
        simp only [Coin.lv]
        generalize List.range (uS a).length = R
        induction R with
        | nil => rfl
        | cons a R ih => simp [List.flatMap_cons, ih]
      rw [elv] at hlv
      have pe := ents_places (fun i j hi hj h => sU_one hi hj h) hlv.symm
      have hst : ∀ j, j < (uS a).length → StepsTo P' j (depth (sU a j) t) := fun j hj => by
        obtain ⟨j', h1, h2, h3⟩ := hst0 _ (pe.symm.subset (List.mem_map.2 ⟨j, List.mem_range.2 hj, rfl⟩))
        have := sU_one h1 hj h2
        subst this; exact h3
      have k15 := dep_l15 a b1 P' t hst (fun j hj => by have := hf.1 j hj; omega) (uS a) FU [] rfl (by rw [FU_eq]; omega)
      have e0 : (lf a.length fun i => if (i : Int) ∈ ([] : List Int) then depth i t else 0) = lf a.length fun _ => 0 := lf_congr fun i _ => by simp
      rw [e0] at k15
      have k15' : build_Depths.l15 FU (lf a.length fun _ => 0) 0 (uS a) P' = _ := k15
      have e2 : IntKind.i64.wrap (2 * ((uS a).length : Int)) = ((2 * (uS a).length : Nat) : Int) := by rw [wr_i64 (by omega)]; omega
      refine ⟨t, W, g1, ?_⟩
      rw [if_neg (by omega), heap_New_int.f]
      simp only [Option.bind_some]
      rw [p1']
      simp only [Option.bind_some]
      rw [e2, gd_pos (by omega), gd_pos (by omega), bnd_eq, Int.toNat_natCast, g2]
      simp only [Option.bind_some]
      rw [gd_pos (by omega), bnd_eq, Int.toNat_natCast, lf_zero, k15']
      rfl
  · refine .inl ⟨c2, ?_⟩
    rw [if_neg c2, if_pos c2]

theorem law6_sound_spec (a : List Int) : valiselaw6_sound.f a = some (decide (badF a = 0)) := by
  unfold badF
  rw [valiselaw6_sound.f]
  by_cases c : 288 < a.length
  · rw [if_pos (by omega), if_pos c]; rfl
  · rw [if_neg (by omega), if_neg c]
    have loop : ∀ (m k i : Nat), i + m = a.length → m < k → (∀ j, j < i → okF (rd a (j : Int))) → valiselaw6_sound.l1 k (i : Int) a = some (if ∀ x ∈ a, okF x then .inr () else .inl false) := by
      intro m
      induction m with
      | zero =>
        intro k i hi hk hok
        obtain ⟨k, rfl⟩ : ∃ q, k = q + 1 := ⟨k - 1, by omega⟩
        have all : ∀ x ∈ a, okF x := fun x hx => by
          obtain ⟨j, hj, rfl⟩ := List.mem_iff_getElem.1 hx
          have := hok j (by omega)
          rwa [rd_at (List.getElem?_eq_getElem hj)] at this
        rw [valiselaw6_sound.l1, if_neg (by omega), if_pos all]
      | succ m ih =>
        intro k i hi hk hok
        obtain ⟨k, rfl⟩ : ∃ q, k = q + 1 := ⟨k - 1, by omega⟩
        rw [valiselaw6_sound.l1, if_pos (by omega), gd_pos (by omega)]
        by_cases c : okF (rd a (i : Int))
        · have key := ih k (i + 1) (by omega) (by omega) (fun j hj => by
            by_cases e : j = i
            · subst e; exact c
            · exact hok j (by omega))
          unfold okF at c
          rw [if_neg c, bnd_eq, inc_i (by omega)]
          exact key
        · have na : ¬ ∀ x ∈ a, okF x := fun h => c (by rw [rd_at (List.getElem?_eq_getElem (show i < a.length by omega))]; exact h _ (List.getElem_mem _))
          unfold okF at c
          rw [if_pos (Classical.byContradiction c), if_neg na]
    have key := loop a.length FU 0 (by omega) (by rw [FU_eq]; omega) (fun j hj => by omega)
    have key' : valiselaw6_sound.l1 FU 0 a = _ := key
    rw [key']
    by_cases d : ∀ x ∈ a, okF x
    · rw [if_pos d, if_pos d]; rfl
    · rw [if_neg d, if_neg d]; rfl
theorem law6_uses_spec (a : List Int) (h : a.length ≤ 288) : valiselaw6_uses.f a = some ((uS a).length : Int) := by
  have loop : ∀ (m k i : Nat), i + m = a.length → m < k → valiselaw6_uses.l1 k ((upS a i).length : Int) (i : Int) a = some ((uS a).length : Int) := by
    intro m
    induction m with
    | zero =>
      intro k i hi hk
      obtain ⟨k, rfl⟩ : ∃ q, k = q + 1 := ⟨k - 1, by omega⟩
      rw [valiselaw6_uses.l1, if_neg (by omega), show i = a.length by omega]
      rfl
    | succ m ih =>
      intro k i hi hk
      obtain ⟨k, rfl⟩ : ∃ q, k = q + 1 := ⟨k - 1, by omega⟩
      have hu := upS_len a i
      have key := ih k (i + 1) (by omega) (by omega)
      rw [upS_succ] at key
      rw [valiselaw6_uses.l1, if_pos (by omega), gd_pos (by omega)]
      by_cases p : 0 < rd a (i : Int)
      · rw [if_pos p] at key
        rw [if_pos p, bnd_eq, inc_i (by omega)]
        simp only [Option.bind_some]
        rw [bnd_eq, inc_i (by omega)]
        simp only [List.length_append, List.length_cons, List.length_nil, Nat.zero_add] at key
        exact key
      · rw [if_neg p, List.append_nil] at key
        rw [if_neg p]
        simp only [Option.bind_some]
        rw [bnd_eq, inc_i (by omega)]
        exact key
  have key := loop a.length FU 0 (by omega) (by rw [FU_eq]; omega)
  have key' : valiselaw6_uses.l1 FU 0 0 a = _ := key
  rw [valiselaw6_uses.f, key']
  rfl
def lenN (b : List Int) (i : Nat) : Nat := (rd b (i : Int)).toNat
def keeps (a b : List Int) (limit : Int) : Prop := b.length = a.length ∧ (∀ i, used a i → 1 ≤ rd b (i : Int) ∧ rd b (i : Int) ≤ limit ∧ rd b (i : Int) ≤ 60) ∧ sumU a (fun i => 2 ^ (60 - lenN b i)) ≤ 2 ^ 60
def upTo (a : List Int) (F : Nat → Nat) (m : Nat) : Nat := sumN m fun i => if 0 < rd a (i : Int) then F i else 0
theorem upTo_mono (a : List Int) (F : Nat → Nat) {m n : Nat} (h : m ≤ n) : upTo a F m ≤ upTo a F n := by
  induction n with
  | zero => rw [show m = 0 by omega]; exact Nat.le_refl _
  | succ n ih =>
    by_cases e : m = n + 1
    · subst e; exact Nat.le_refl _
    · have := ih (by omega)
      unfold upTo at *
      simp only [sumN]; omega
theorem law6_kraft_spec (a b : List Int) (h : a.length ≤ 288) (hok : ∀ x ∈ a, okF x) (limit : Int) (hb : ∀ x ∈ b, -9223372036854775808 ≤ x ∧ x ≤ 9223372036854775807) :
    (keeps a b limit ∧ valiselaw6_kraft.f a b limit = some ((sumU a (fun i => 2 ^ (60 - lenN b i)) : Nat) : Int)) ∨ (¬ keeps a b limit ∧ valiselaw6_kraft.f a b limit = some (-1)) := by
  by_cases hl : b.length = a.length
  · have loop : ∀ (m k i : Nat), i + m = a.length → m < k → (∀ j, j < i → 0 < rd a (j : Int) → 1 ≤ rd b (j : Int) ∧ rd b (j : Int) ≤ limit ∧ rd b (j : Int) ≤ 60) → upTo a (fun i => 2 ^ (60 - lenN b i)) i ≤ 2 ^ 60 →
        (keeps a b limit ∧ valiselaw6_kraft.l1 k (upTo a (fun i => 2 ^ (60 - lenN b i)) i : Nat) (i : Int) a b limit = some (.inr ((sumU a (fun i => 2 ^ (60 - lenN b i)) : Nat) : Int))) ∨ (¬ keeps a b limit ∧ valiselaw6_kraft.l1 k (upTo a (fun i => 2 ^ (60 - lenN b i)) i : Nat) (i : Int) a b limit = some (.inl (-1))) := by
      intro m
      induction m with
      | zero =>
        intro k i hi hk h1 h2
        obtain ⟨k, rfl⟩ : ∃ q, k = q + 1 := ⟨k - 1, by omega⟩
        obtain rfl : i = a.length := by omega
        refine .inl ⟨⟨hl, fun j hj => h1 j hj.1 hj.2, h2⟩, ?_⟩
        rw [valiselaw6_kraft.l1, if_neg (by omega)]
        rfl
      | succ m ih =>
        intro k i hi hk h1 h2
        obtain ⟨k, rfl⟩ : ∃ q, k = q + 1 := ⟨k - 1, by omega⟩
        have hr := used_at hok (show i < a.length by omega)
        rw [valiselaw6_kraft.l1, if_pos (by omega), gd_pos (by omega)]
        by_cases c0 : rd a (i : Int) = 0
        · have es : upTo a (fun i => 2 ^ (60 - lenN b i)) (i + 1) = upTo a (fun i => 2 ^ (60 - lenN b i)) i := by
            unfold upTo; simp only [sumN]; rw [if_neg (by omega)]; rfl
          rw [if_pos c0, bnd_eq, inc_i (by omega)]
          have key := ih k (i + 1) (by omega) (by omega) (fun j hj hp => by
            by_cases e : j = i
            · subst e; omega
            · exact h1 j (by omega) hp) (by rw [es]; exact h2)
          rw [es] at key
          exact key
        · rw [if_neg c0, gd_pos (by omega)]
          by_cases c1 : (rd b (i : Int) < 1 ∨ limit < rd b (i : Int)) ∨ 60 < rd b (i : Int)
          · rw [if_pos c1]
            refine .inr ⟨fun hk => ?_, rfl⟩
            have := hk.2.1 i ⟨by omega, by omega⟩
            omega
          · have e1 : rd b (i : Int) = (lenN b i : Int) := by unfold lenN; omega
            have hn : 1 ≤ lenN b i ∧ lenN b i ≤ 60 := by omega
            have ew : IntKind.i64.wrap (60 - rd b (i : Int)) = ((60 - lenN b i : Nat) : Int) := by rw [wr_i64 (by omega)]; omega
            have hp : (2 : Nat) ^ (60 - lenN b i) ≤ 2 ^ 59 := Nat.pow_le_pow_right (by omega) (by omega)
            have es : upTo a (fun i => 2 ^ (60 - lenN b i)) (i + 1) = upTo a (fun i => 2 ^ (60 - lenN b i)) i + 2 ^ (60 - lenN b i) := by
              unfold upTo; simp only [sumN]; rw [if_pos (by omega)]
            have ev : IntKind.i64.wrap ((upTo a (fun i => 2 ^ (60 - lenN b i)) i : Nat) + ((2 ^ (60 - lenN b i) : Nat) : Int)) = ((upTo a (fun i => 2 ^ (60 - lenN b i)) (i + 1) : Nat) : Int) := by
              rw [wr_i64 (by omega), es]; omega
            rw [if_neg c1, ew, wr_u64 (by omega), gd_pos (by omega), shl_one _ (by omega), ev, bnd_eq]
            by_cases c2 : 2 ^ 60 < upTo a (fun i => 2 ^ (60 - lenN b i)) (i + 1)
            · rw [if_pos (by omega)]
              refine .inr ⟨fun hk => ?_, rfl⟩
              have h3 := hk.2.2
              have h4 := upTo_mono a (fun i => 2 ^ (60 - lenN b i)) (show i + 1 ≤ a.length by omega)
              have h5 : upTo a (fun i => 2 ^ (60 - lenN b i)) a.length = sumU a (fun i => 2 ^ (60 - lenN b i)) := rfl
              omega
            · rw [if_neg (by omega), bnd_eq, inc_i (by omega)]
              exact ih k (i + 1) (by omega) (by omega) (fun j hj hp => by
                by_cases e : j = i
                · subst e; omega
                · exact h1 j (by omega) hp) (by omega)
    have key := loop a.length FU 0 (by omega) (by rw [FU_eq]; omega) (fun j hj => by omega) (Nat.zero_le _)
    have e0 : ((upTo a (fun i => 2 ^ (60 - lenN b i)) 0 : Nat) : Int) = 0 := rfl
    rw [e0] at key
    rw [valiselaw6_kraft.f, if_neg (by omega)]
    rcases key with ⟨h1, h2⟩ | ⟨h1, h2⟩
    · have h2' : valiselaw6_kraft.l1 FU 0 0 a b limit = _ := h2
      rw [h2']; exact .inl ⟨h1, rfl⟩
    · have h2' : valiselaw6_kraft.l1 FU 0 0 a b limit = _ := h2
      rw [h2']; exact .inr ⟨h1, rfl⟩
  · rw [valiselaw6_kraft.f, if_pos (by omega)]
    exact .inr ⟨fun h => hl h.1, rfl⟩
theorem law6_good_spec (a b : List Int) (h : a.length ≤ 288) (hok : ∀ x ∈ a, okF x) (limit : Int) (hb : ∀ x ∈ b, -9223372036854775808 ≤ x ∧ x ≤ 9223372036854775807) (hl : b.length = a.length) (h0 : ∀ i, i < a.length → ¬ 0 < rd a (i : Int) → rd b (i : Int) = 0)
    (h1 : (uS a).length = 1 → ∀ i, used a i → rd b (i : Int) = 1) (h2 : 2 ≤ (uS a).length → keeps a b limit ∧ sumU a (fun i => 2 ^ (60 - lenN b i)) = 2 ^ 60) : valiselaw6_good.f a b limit = some true := by
  have hu := uS_len a
  have loop : ∀ (m k i : Nat), i + m = a.length → m < k → valiselaw6_good.l1 k (i : Int) a b ((uS a).length : Int) = some (.inr ()) := by
    intro m
    induction m with
    | zero =>
      intro k i hi hk
      obtain ⟨k, rfl⟩ : ∃ q, k = q + 1 := ⟨k - 1, by omega⟩
      rw [valiselaw6_good.l1, if_neg (by omega)]
    | succ m ih =>
      intro k i hi hk
      obtain ⟨k, rfl⟩ : ∃ q, k = q + 1 := ⟨k - 1, by omega⟩
      have hr := used_at hok (show i < a.length by omega)
      have t1 : (if rd a (i : Int) = 0 then (gd ((0 : Int) ≤ (i : Int) ∧ (i : Int) < (b.length : Int)) (some (decide (rd b (i : Int) ≠ 0)))) else (some false)) = some false := by
        by_cases c : rd a (i : Int) = 0
        · rw [if_pos c, gd_pos (by omega), h0 i (by omega) (by omega)]; rfl
        · rw [if_neg c]
      have t2 : (if (0 < rd a (i : Int)) ∧ (((uS a).length : Int) = 1) then (gd ((0 : Int) ≤ (i : Int) ∧ (i : Int) < (b.length : Int)) (some (decide (rd b (i : Int) ≠ 1)))) else (some false)) = some false := by
        by_cases c : (0 < rd a (i : Int)) ∧ (((uS a).length : Int) = 1)
        · rw [if_pos c, gd_pos (by omega), h1 (by omega) i ⟨by omega, c.1⟩]; rfl
        · rw [if_neg c]
      rw [valiselaw6_good.l1, if_pos (by omega), gd_pos (by omega), t1]
      simp only [Option.bind_some]
      rw [if_neg (by decide), t2]
      simp only [Option.bind_some]
      rw [if_neg (by decide), bnd_eq, inc_i (by omega)]
      exact ih k (i + 1) (by omega) (by omega)
  have key := loop a.length FU 0 (by omega) (by rw [FU_eq]; omega)
  have key' : valiselaw6_good.l1 FU 0 a b ((uS a).length : Int) = _ := key
  rw [valiselaw6_good.f, if_neg (by omega), law6_uses_spec a h]
  simp only [Option.bind_some]
  rw [key']
  simp only [Option.bind_some, onR]
  by_cases c : (uS a).length < 2
  · rw [if_pos (by omega)]; rfl
  · obtain ⟨k1, k2⟩ := h2 (by omega)
    rw [if_neg (by omega)]
    rcases law6_kraft_spec a b h hok limit hb with ⟨_, e⟩ | ⟨n, _⟩
    · rw [e, k2]; rfl
    · exact (n k1).elim

/-- What Limited answers, where it answers. -/
theorem lf_in {n : Nat} {f : Nat → Nat} (h : ∀ i, i < n → f i ≤ 1000) : ∀ x ∈ lf n f, -9223372036854775808 ≤ x ∧ x ≤ 9223372036854775807 := fun x hx => by
  obtain ⟨i, hi, rfl⟩ := List.mem_map.1 hx
  have := h i (List.mem_range.1 hi); omega
theorem lenN_lf {n : Nat} {f : Nat → Nat} {i : Nat} (h : i < n) : lenN (lf n f) i = f i := by unfold lenN; rw [lf_rd h, Int.toNat_natCast]
/-- A list that is best is good. -/
theorem best_good (a : List Int) (h : a.length ≤ 288) (hok : ∀ x ∈ a, okF x) (lim : Nat) (hlim : lim ≤ 60) (hu : 2 ≤ (uS a).length) {L : Nat → Nat} (B : BestCode a lim L) : valiselaw6_good.f a (lf a.length L) (lim : Int) = some true ∧ keeps a (lf a.length L) (lim : Int) := by
  have el := lf_length a.length L
  have hL : ∀ i, i < a.length → L i ≤ 1000 := fun i hi => by
    by_cases c : 0 < rd a (i : Int)
    · have := B.high i ⟨hi, c⟩; omega
    · rw [B.zero i hi c]; omega
  have es : sumU a (fun i => 2 ^ (60 - lenN (lf a.length L) i)) = 2 ^ 60 := by
    rw [← B.full]
    exact sumU_eq fun i hi => by rw [lenN_lf hi.1]
  have hk : keeps a (lf a.length L) (lim : Int) := ⟨el, fun i hi => by
    have h1 := B.low i hi
    have h2 := B.high i hi
    rw [lf_rd hi.1]; omega, Nat.le_of_eq es⟩
  exact ⟨law6_good_spec a _ h hok lim (lf_in hL) el (fun i hi hn => by rw [lf_rd hi, B.zero i hi hn]; rfl) (fun e => by omega) (fun _ => ⟨hk, es⟩), hk⟩
theorem few_good (a : List Int) (h : a.length ≤ 288) (hok : ∀ x ∈ a, okF x) (limit : Int) (hu : (uS a).length < 2) : valiselaw6_good.f a (fewL a) limit = some true := by
  refine law6_good_spec a _ h hok limit (lf_in fun i hi => by split <;> omega) (lf_length _ _) (fun i hi hn => ?_) (fun _ i hi => ?_) (fun e => by omega)
  · rw [fewL, lf_rd hi, if_neg (fun hm => by obtain ⟨j, e, _, hp⟩ := uS_mem hm; exact hn hp)]; rfl
  · rw [fewL, lf_rd hi.1, if_pos (uS_of hi.1 hi.2)]; rfl
theorem few_cost (a : List Int) : costU a (lenN (fewL a)) = costU a (fun _ => 1) := sumU_eq fun i hi => by
  rw [show lenN (fewL a) i = 1 from by rw [fewL, lenN_lf hi.1, if_pos (uS_of hi.1 hi.2)]]
theorem best_cost (a : List Int) (L : Nat → Nat) : costU a (lenN (lf a.length L)) = costU a L := sumU_eq fun i hi => by rw [lenN_lf hi.1]

theorem sumU_sU (a : List Int) (F : Nat → Nat) : sumU a F = sumN (uS a).length fun j => F (sU a j) := by
  show _ = sumN (uS a).length (fun j => F ((uS a).getD j 0).toNat)
  rw [sum_list, ← sumU_us]
def depF (a : List Int) (t : Coin) (i : Nat) : Nat := if (i : Int) ∈ uS a then depth i t else 0
theorem depL_eq (a : List Int) (t : Coin) : depL a t = lf a.length (depF a t) := rfl
theorem wU_at {a : List Int} (hok : ∀ x ∈ a, okF x) {j : Nat} (hj : j < (uS a).length) : wU a j = (rd a (sU a j : Int)).toNat ∧ wU a j ≤ 4294967296 ∧ 0 < wU a j := by
  obtain ⟨e1, e2, e3⟩ := sU_at hj
  have := used_at hok e2
  unfold wU
  rw [e1]; omega
theorem dep_core (a : List Int) (h : a.length ≤ 288) (hok : ∀ x ∈ a, okF x) (hu : 2 ≤ (uS a).length) {t : Coin} {W : Nat} (J : Joined (lvs (wU a) (sU a) (uS a).length) t W) : BestCode a 60 (depF a t) ∧ ∀ i, used a i → depF a t i ≤ 57 := by
  have hul := uS_len a
  have htot : sumN (uS a).length (wU a) ≤ (uS a).length * 4294967296 := sumN_bound fun j hj => (wU_at hok hj).2.1
  obtain ⟨h1, h2, h3⟩ := huffman (fun i j hi hj h => sU_one hi hj h) hu (fun j hj => (wU_at hok hj).2.2) (by omega) J
  have eL : ∀ j, j < (uS a).length → depF a t (sU a j) = depth (sU a j) t := fun j hj => by
    obtain ⟨_, e⟩ := sU_at hj
    unfold depF
    rw [if_pos (uS_of e.1 e.2)]
  have hc : ∀ l : Nat → Nat, costU a l = sumN (uS a).length (fun j => wU a j * l (sU a j)) := fun l => by
    unfold costU
    rw [sumU_sU]
    exact sumN_eq fun j hj => by rw [(wU_at hok hj).1]
  refine ⟨⟨fun i hi hn => ?_, fun i hi => ?_, fun i hi => ?_, ?_, fun l hl hk => ?_⟩, fun i hi => ?_⟩
  · unfold depF
    rw [if_neg (fun hm => by obtain ⟨k, e, _, hp⟩ := uS_mem hm; exact hn hp)]
  · obtain ⟨j, hj, rfl⟩ := sU_of hi
    rw [eL j hj]; exact (h1 j hj).1
  · obtain ⟨j, hj, rfl⟩ := sU_of hi
    rw [eL j hj]; have := h1 j hj; omega
  · rw [← h2 60 (by omega), sumU_sU]
    unfold kraftN
    exact sumN_eq fun j hj => by rw [eL j hj]
  · rw [hc, hc]
    rw [sumU_sU] at hk
    have := h3 60 (fun j => l (sU a j)) (fun j hj => hl _ (sU_at hj).2) hk
    refine Nat.le_trans (Nat.le_of_eq (sumN_eq fun j hj => by rw [eL j hj])) this
  · obtain ⟨j, hj, rfl⟩ := sU_of hi
    rw [eL j hj]; exact (h1 j hj).2
/-- What Depths answers, where the frequencies may be. -/
theorem depths_good (a : List Int) (h : badF a = 0) : ∃ L : Nat → Nat, build_Depths.f a = some (lf a.length L, 0) ∧ valiselaw6_good.f a (lf a.length L) 60 = some true ∧ (∀ i, used a i → 1 ≤ L i ∧ L i ≤ 60) ∧ ((uS a).length < 2 → lf a.length L = fewL a) ∧ (2 ≤ (uS a).length → BestCode a 60 L) ∧ (∀ i, i < a.length → L i ≤ 60) ∧
    (2 ≤ (uS a).length → ∃ t W, Joined (lvs (wU a) (sU a) (uS a).length) t W ∧ L = depF a t) ∧ costU a (lenN (lf a.length L)) = costU a L := by
  obtain ⟨b1, b2⟩ := badF_ok h
  rcases build_Depths_spec a with ⟨h1, h2⟩ | ⟨h1, h2, h3⟩ | ⟨h1, h2, t, W, h3, h4⟩
  · exact (h1 h).elim
  · refine ⟨_, h3, few_good a b1 b2 60 h2, fun i hi => ?_, fun _ => rfl, fun c => by omega, fun i hi => ?_, fun c => by omega, best_cost _ _⟩
    · rw [if_pos (uS_of hi.1 hi.2)]; omega
    · show (if (i : Int) ∈ uS a then 1 else 0) ≤ 60
      split <;> omega
  · obtain ⟨B, h5⟩ := dep_core a b1 b2 h2 h3
    have e60 : ((60 : Nat) : Int) = 60 := rfl
    refine ⟨depF a t, h4, (best_good a b1 b2 60 (by omega) h2 B).1, fun i hi => ⟨B.low i hi, B.high i hi⟩, fun c => by omega, fun _ => B, fun i hi => ?_, fun _ => ⟨t, W, h3, rfl⟩, best_cost _ _⟩
    by_cases c : 0 < rd a (i : Int)
    · exact B.high i ⟨hi, c⟩
    · rw [B.zero i hi c]; omega

/-- What Limited answers, where the frequencies may be. -/
theorem limited_good (a : List Int) (h : badF a = 0) (lim : Nat) (h1 : 1 ≤ lim) (h2 : lim ≤ 15) (hl : (uS a).length ≤ 2 ^ lim) : ∃ L : Nat → Nat, build_Limited.f a (lim : Int) = some (lf a.length L, 0) ∧ valiselaw6_good.f a (lf a.length L) (lim : Int) = some true ∧ (∀ i, used a i → 1 ≤ L i ∧ L i ≤ lim) ∧ ((uS a).length < 2 → lf a.length L = fewL a) ∧ (2 ≤ (uS a).length → BestCode a lim L) ∧ (∀ i, i < a.length → L i ≤ 60) ∧
    (2 ≤ (uS a).length → L = limF a lim) ∧ costU a (lenN (lf a.length L)) = costU a L := by
  obtain ⟨b1, b2⟩ := badF_ok h
  have e := build_Limited_spec a (lim : Int) (by omega)
  rw [if_neg (by omega), if_neg (fun f => f h), Int.toNat_natCast, if_neg (by omega)] at e
  by_cases c : (uS a).length < 2
  · rw [if_pos c] at e
    refine ⟨_, e, few_good a b1 b2 lim c, fun i hi => ?_, fun _ => rfl, fun c => by omega, fun i hi => ?_, fun c => by omega, best_cost _ _⟩
    · rw [if_pos (uS_of hi.1 hi.2)]; omega
    · show (if (i : Int) ∈ uS a then 1 else 0) ≤ 60
      split <;> omega
  · rw [if_neg c, limL_eq] at e
    obtain ⟨B, _⟩ := lim_core a lim h1 (by omega) (by omega) (by omega)
    refine ⟨limF a lim, e, (best_good a b1 b2 lim (by omega) (by omega) B).1, fun i hi => ⟨B.low i hi, B.high i hi⟩, fun c => by omega, fun _ => B, fun i hi => ?_, fun _ => rfl, best_cost _ _⟩
    by_cases d : 0 < rd a (i : Int)
    · have := B.high i ⟨hi, d⟩; omega
    · rw [B.zero i hi d]; omega

theorem sumU_swap (a : List Int) {s t : Nat} (hs : used a s) (ht : used a t) (hst : s ≠ t) (F G : Nat → Nat) (h : ∀ i, i ≠ s → i ≠ t → G i = F i) : sumU a G + F s + F t = sumU a F + G s + G t := by
  have h1 := sumN_turn (n := a.length) (f := fun i => if 0 < rd a (i : Int) then F i else 0) (g := fun i => if 0 < rd a (i : Int) then (if i = s then G s else F i) else 0) (i := s) hs.1 (fun j _ hj => by simp only [if_neg hj])
  have h2 := sumN_turn (n := a.length) (f := fun i => if 0 < rd a (i : Int) then (if i = s then G s else F i) else 0) (g := fun i => if 0 < rd a (i : Int) then G i else 0) (i := t) ht.1 (fun j _ hj => by
    by_cases c : j = s
    · subst c; simp
    · simp only [if_neg c]; rw [h j c hj])
  simp only [if_pos hs.2, eq_self, if_true] at h1
  simp only [if_pos ht.2, if_neg (fun e : t = s => hst e.symm)] at h2
  unfold sumU
  omega
theorem best_order {a : List Int} {lim : Nat} {L : Nat → Nat} (B : BestCode a lim L) {s t : Nat} (hs : used a s) (ht : used a t) (hw : rd a (t : Int) < rd a (s : Int)) : L s ≤ L t := by
  apply Nat.le_of_not_lt
  intro hlt
  have hst : s ≠ t := fun e => by subst e; omega
  have k := sumU_swap a hs ht hst (fun i => 2 ^ (60 - L i)) (fun i => 2 ^ (60 - (if i = s then L t else if i = t then L s else L i))) (fun i h1 h2 => by simp only [if_neg h1, if_neg h2])
  have c := sumU_swap a hs ht hst (fun i => (rd a (i : Int)).toNat * L i) (fun i => (rd a (i : Int)).toNat * (if i = s then L t else if i = t then L s else L i)) (fun i h1 h2 => by simp only [if_neg h1, if_neg h2])
  simp only [if_pos, if_neg (fun e : t = s => hst e.symm)] at k c
  have hb := B.best (fun i => if i = s then L t else if i = t then L s else L i) (fun i hi => by
    show (if i = s then L t else if i = t then L s else L i) ≤ lim
    have := B.high s hs
    have := B.high t ht
    have := B.high i hi
    split
    · omega
    · split <;> omega) (by have := B.full; omega)
  have hb : sumU a (fun i => (rd a (i : Int)).toNat * L i) ≤ sumU a (fun i => (rd a (i : Int)).toNat * (if i = s then L t else if i = t then L s else L i)) := hb
  have hwp := hs.2
  have hwt := ht.2
  obtain ⟨p, hp⟩ : ∃ p, (rd a (s : Int)).toNat = (rd a (t : Int)).toNat + (p + 1) := ⟨(rd a (s : Int)).toNat - (rd a (t : Int)).toNat - 1, by omega⟩
  obtain ⟨q, hq⟩ : ∃ q, L s = L t + (q + 1) := ⟨L s - L t - 1, by omega⟩
  rw [hp, hq] at c
  simp only [Nat.add_mul, Nat.mul_add, Nat.mul_one, Nat.one_mul] at c
  rw [hq] at hb
  omega
theorem few_one {a : List Int} {L : Nat → Nat} (h : lf a.length L = fewL a) {i : Nat} (hi : used a i) : L i = 1 := by
  have h1 : rd (lf a.length L) (i : Int) = (L i : Int) := lf_rd hi.1
  rw [h] at h1
  have h2 : rd (fewL a) (i : Int) = ((if (i : Int) ∈ uS a then 1 else 0 : Nat) : Int) := lf_rd hi.1
  rw [if_pos (uS_of hi.1 hi.2)] at h2
  omega
theorem lim_tie {a : List Int} {lim : Nat} (h1 : 1 ≤ lim) (h2 : lim ≤ 60) (hu : 2 ≤ (uS a).length) (hl : (uS a).length ≤ 2 ^ lim) {s t : Nat} (hs : used a s) (ht : used a t) (hw : rd a (s : Int) = rd a (t : Int)) (hst : s < t) : limF a lim t ≤ limF a lim s := by
  obtain ⟨i, hi, rfl⟩ := syS_of hs
  obtain ⟨j, hj, rfl⟩ := syS_of ht
  refine (lim_core a lim h1 h2 hu hl).2 i j ?_ hj
  apply Nat.le_of_not_lt
  intro hji
  have := syS_kle hi hji
  unfold kle at this
  omega

theorem joined_uniq {l : List Coin} {t t' : Coin} {w w' : Nat} (h : Joined l t w) (k : Joined l t' w') : t = t' := by
  induction h generalizing t' w' with
  | one t =>
    cases k with
    | one => rfl
    | two h1 h2 _ =>
      have a1 := h1.lt
      have a2 := h2.lt
      rw [List.length_eraseIdx_of_lt a1] at a2
      exact absurd a2 (by simp)
  | @two l i j c d t w h1 h2 h ih =>
    cases k with
    | one =>
      have a1 := h1.lt
      have a2 := h2.lt
      rw [List.length_eraseIdx_of_lt a1] at a2
      exact absurd a2 (by simp)
    | two g1 g2 g =>
      obtain ⟨rfl, rfl⟩ := h1.uniq g1
      obtain ⟨rfl, rfl⟩ := h2.uniq g2
      exact ih g
theorem clS_uS (a : List Int) : clS a (uS a) = lvs (wU a) (sU a) (uS a).length := by
  unfold clS lvs
  refine List.ext_getElem (by simp) fun i h1 h2 => ?_
  simp at h1
  simp [wU, sU, h1]

theorem alike_used {a b : List Int} {c : Nat} {φ : Nat → Nat} (A : Alike a b c φ) {i : Nat} (hi : used a i) : used b (φ i) := by
  have hm : ((φ i : Nat) : Int) ∈ uS b := by
    rw [A.syms]
    exact List.mem_map.2 ⟨(i : Int), uS_of hi.1 hi.2, by rw [Int.toNat_natCast]⟩
  have := (uS_used _ hm).1
  rwa [Int.toNat_natCast] at this
theorem alike_dep {a b : List Int} {c : Nat} {φ : Nat → Nat} (A : Alike a b c φ) {L K : Nat → Nat} (l1 : (uS a).length < 2 → lf a.length L = fewL a) (l2 : 2 ≤ (uS a).length → ∃ t W, Joined (lvs (wU a) (sU a) (uS a).length) t W ∧ L = depF a t)
    (k1 : (uS b).length < 2 → lf b.length K = fewL b) (k2 : 2 ≤ (uS b).length → ∃ t W, Joined (lvs (wU b) (sU b) (uS b).length) t W ∧ K = depF b t) : (∀ i, used a i → K (φ i) = L i) := by
  intro i hi
  have hl := A.len
  have hj := alike_used A hi
  by_cases c : (uS a).length < 2
  · rw [few_one (l1 c) hi, few_one (k1 (by omega)) hj]
  · obtain ⟨t, W, j1, rfl⟩ := l2 (by omega)
    obtain ⟨t', W', j2, rfl⟩ := k2 (by omega)
    rw [← clS_uS] at j1 j2
    have := A.dep j1 j2 (fun h k => joined_uniq h k) hi
    unfold depF
    rw [if_pos (uS_of hi.1 hi.2), if_pos (uS_of hj.1 hj.2), this]
theorem alike_lim {a b : List Int} {c : Nat} {φ : Nat → Nat} (A : Alike a b c φ) {lim : Nat} {L K : Nat → Nat} (l1 : (uS a).length < 2 → lf a.length L = fewL a) (l2 : 2 ≤ (uS a).length → L = limF a lim)
    (k1 : (uS b).length < 2 → lf b.length K = fewL b) (k2 : 2 ≤ (uS b).length → K = limF b lim) : (∀ i, used a i → K (φ i) = L i) := by
  intro i hi
  have hl := A.len
  have hj := alike_used A hi
  by_cases c : (uS a).length < 2
  · rw [few_one (l1 c) hi, few_one (k1 (by omega)) hj]
  · rw [l2 (by omega), k2 (by omega)]
    exact A.lim lim hi
theorem zero_of {a : List Int} {lim : Nat} {L : Nat → Nat} (l1 : (uS a).length < 2 → lf a.length L = fewL a) (l2 : 2 ≤ (uS a).length → BestCode a lim L) {i : Nat} (hi : i < a.length) (hn : ¬ 0 < rd a (i : Int)) : L i = 0 := by
  by_cases c : (uS a).length < 2
  · have h1 : rd (lf a.length L) (i : Int) = (L i : Int) := lf_rd hi
    rw [l1 c] at h1
    have h2 : rd (fewL a) (i : Int) = ((if (i : Int) ∈ uS a then 1 else 0 : Nat) : Int) := lf_rd hi
    rw [if_neg (fun hm => by obtain ⟨k, e, _, hp⟩ := uS_mem hm; exact hn hp)] at h2
    omega
  · exact (l2 (by omega)).zero i hi hn

theorem rd_appG {l r : List Int} {x : Nat} (h : x < l.length) : rd (l ++ r) (x : Int) = rd l (x : Int) := by
  unfold rd
  rw [Int.toNat_natCast, List.getD_eq_getElem?_getD, List.getD_eq_getElem?_getD, List.getElem?_append_left h]
theorem upS_app {l r : List Int} {m : Nat} (h : m ≤ l.length) : upS (l ++ r) m = upS l m := by
  unfold upS
  congr 1
  refine List.filter_congr fun i hi => ?_
  rw [rd_appG (by have := List.mem_range.1 hi; omega)]
theorem uS_app (l : List Int) (x : Int) : uS (l ++ [x]) = uS l ++ if 0 < x then [(l.length : Int)] else [] := by
  have e1 : uS (l ++ [x]) = upS (l ++ [x]) (l.length + 1) := by unfold uS upS; rw [List.length_append]; rfl
  rw [e1, upS_succ, upS_app (Nat.le_refl _), rd_appE]
  rfl
/-- What is kept while the symbols are spread. -/
structure Spr (a : List Int) (s : Nat) (w f : List Int) (φ : Nat → Nat) : Prop where
  len : f.length = w.length
  put : ∀ j, j < s → φ j < w.length ∧ rd w (φ j : Int) = rd a (j : Int)
  syms : uS w = (upS a s).map fun x => ((φ x.toNat : Nat) : Int)
  each : ∀ i, i < w.length → (rd f (i : Int) = -1 ∧ rd w (i : Int) = 0) ∨ ∃ j, j < s ∧ rd f (i : Int) = (j : Int) ∧ φ j = i
theorem Spr.zero {a : List Int} {s : Nat} {w f : List Int} {φ : Nat → Nat} (S : Spr a s w f φ) : Spr a s (w ++ [0]) (f ++ [-1]) φ := by
  refine ⟨by simp [S.len], fun j hj => ?_, ?_, fun i hi => ?_⟩
  · obtain ⟨h1, h2⟩ := S.put j hj
    exact ⟨by simp; omega, by rw [rd_appG h1]; exact h2⟩
  · rw [uS_app, if_neg (by omega), List.append_nil]; exact S.syms
  · simp only [List.length_append, List.length_cons, List.length_nil] at hi
    by_cases c : i < w.length
    · rw [rd_appG c, rd_appG (by rw [S.len]; exact c)]; exact S.each i c
    · obtain rfl : i = w.length := by omega
      refine .inl ⟨?_, rd_appE⟩
      rw [← S.len]; exact rd_appE
theorem Spr.next {a : List Int} {s : Nat} {w f : List Int} {φ : Nat → Nat} (S : Spr a s w f φ) (hs : s < a.length) : Spr a (s + 1) (w ++ [rd a (s : Int)]) (f ++ [(s : Int)]) (fun i => if i = s then w.length else φ i) := by
  refine ⟨by simp [S.len], fun j hj => ?_, ?_, fun i hi => ?_⟩
  · by_cases c : j = s
    · subst c
      rw [if_pos rfl]
      exact ⟨by simp, rd_appE⟩
    · obtain ⟨h1, h2⟩ := S.put j (by omega)
      rw [if_neg c]
      exact ⟨by simp; omega, by rw [rd_appG h1]; exact h2⟩
  · rw [uS_app, upS_succ, S.syms, List.map_append]
    congr 1
    · refine List.map_congr_left fun x hx => ?_
      obtain ⟨i, hi, rfl⟩ := List.mem_map.1 hx
      have := List.mem_range.1 (List.mem_filter.1 hi).1
      rw [Int.toNat_natCast, if_neg (by omega)]
    · by_cases c : 0 < rd a (s : Int)
      · rw [if_pos c, if_pos c, List.map_cons, Int.toNat_natCast, if_pos rfl]; rfl
      · rw [if_neg c, if_neg c]; rfl
  · simp only [List.length_append, List.length_cons, List.length_nil] at hi
    by_cases c : i < w.length
    · rw [rd_appG c, rd_appG (by rw [S.len]; exact c)]
      rcases S.each i c with h | ⟨j, h1, h2, h3⟩
      · exact .inl h
      · exact .inr ⟨j, by omega, h2, by rw [if_neg (by omega)]; exact h3⟩
    · obtain rfl : i = w.length := by omega
      refine .inr ⟨s, by omega, ?_, by rw [if_pos rfl]⟩
      rw [← S.len]; exact rd_appE
theorem spread_l25 (a : List Int) (s : Nat) (φ : Nat → Nat) : ∀ (m k : Nat) (w f : List Int) (x : Int), 288 ≤ w.length + m → m < k → w.length ≤ 600 → -9223372036854775808 ≤ x ∧ x ≤ 9223372036854775807 → Spr a s w f φ →
    ∃ w' f', valiselaw6_BuildSpread.l25 k w f x = some (w', f') ∧ Spr a s w' f' φ ∧ (w'.length ≤ 288 ∨ w'.length ≤ w.length) := by
  intro m
  induction m with
  | zero =>
    intro k w f x hm hk hl hx S
    obtain ⟨k, rfl⟩ : ∃ q, k = q + 1 := ⟨k - 1, by omega⟩
    exact ⟨w, f, by rw [valiselaw6_BuildSpread.l25, if_neg (by omega)], S, .inr (Nat.le_refl _)⟩
  | succ m ih =>
    intro k w f x hm hk hl hx S
    obtain ⟨k, rfl⟩ : ∃ q, k = q + 1 := ⟨k - 1, by omega⟩
    have hlen := S.len
    rw [valiselaw6_BuildSpread.l25]
    by_cases c : 0 < x ∧ (w.length : Int) < 288
    · obtain ⟨w', f', e, S', h⟩ := ih k (w ++ [0]) (f ++ [-1]) (x - 1) (by simp; omega) (by omega) (by simp; omega) (by omega) S.zero
      rw [if_pos c, bnd_eq, gd_pos (by simp; omega), bnd_eq, gd_pos (by simp; omega), wr_i64 (by omega), bnd_eq]
      refine ⟨w', f', e, S', ?_⟩
      simp only [List.length_append, List.length_cons, List.length_nil] at h
      omega
    · rw [if_neg c]
      exact ⟨w, f, rfl, S, .inr (Nat.le_refl _)⟩
theorem spread_l21 (a : List Int) (h : a.length ≤ 288) (sp : List Int) (hsp : ∀ x ∈ sp, -9223372036854775808 ≤ x ∧ x ≤ 9223372036854775807) (wsp : sp.length * 8 ≤ 140737488351232) : ∀ (m k s : Nat) (w f : List Int) (φ : Nat → Nat), s + m = a.length → m < k → w.length ≤ 288 + s → Spr a s w f φ →
    ∃ w' f' φ', valiselaw6_BuildSpread.l21 k w f (s : Int) a sp = some (w', f') ∧ Spr a a.length w' f' φ' ∧ w'.length ≤ 600 := by
  intro m
  induction m with
  | zero =>
    intro k s w f φ hs hk hw S
    obtain ⟨k, rfl⟩ : ∃ q, k = q + 1 := ⟨k - 1, by omega⟩
    obtain rfl : s = a.length := by omega
    exact ⟨w, f, φ, by rw [valiselaw6_BuildSpread.l21, if_neg (by omega)], S, by omega⟩
  | succ m ih =>
    intro k s w f φ hs hk hw S
    obtain ⟨k, rfl⟩ : ∃ q, k = q + 1 := ⟨k - 1, by omega⟩
    have mid : ∃ w1 f1, (if (s : Int) < (sp.length : Int) then (gd ((0 : Int) ≤ (s : Int) ∧ (s : Int) < (sp.length : Int)) (bnd (rd sp (s : Int)) fun x3022 => (valiselaw6_BuildSpread.l25 FU w f x3022 ).bind fun (l3144, l3147) => some (l3144, l3147))) else (some (w, f))) = some (w1, f1) ∧ Spr a s w1 f1 φ ∧ w1.length ≤ 288 + s := by
      by_cases c : s < sp.length
      · obtain ⟨w1, f1, e, S1, h1⟩ := spread_l25 a s φ 288 FU w f (rd sp (s : Int)) (by omega) (by rw [FU_eq]; omega) (by omega) (by rw [rd_at (List.getElem?_eq_getElem c)]; exact hsp _ (List.getElem_mem c)) S
        refine ⟨w1, f1, ?_, S1, by omega⟩
        rw [if_pos (by omega), gd_pos (by omega), bnd_eq, e]
        rfl
      · exact ⟨w, f, by rw [if_neg (by omega)], S, hw⟩
    obtain ⟨w1, f1, e1, S1, h1⟩ := mid
    have l1 := S1.len
    obtain ⟨w', f', φ', e2, S2, h2⟩ := ih k (s + 1) (w1 ++ [rd a (s : Int)]) (f1 ++ [(s : Int)]) _ (by omega) (by omega) (by simp; omega) (S1.next (by omega))
    refine ⟨w', f', φ', ?_, S2, h2⟩
    rw [valiselaw6_BuildSpread.l21, if_pos (by omega), e1]
    simp only [Option.bind_some]
    rw [gd_pos (by omega), bnd_eq, gd_pos (by simp; omega), bnd_eq, gd_pos (by simp; omega), bnd_eq, inc_i (by omega)]
    exact e2
theorem spread_l27 (n : Nat) (w f : List Int) (hf : f.length = w.length) (hw : w.length ≤ 288) (D M K N : Nat → Nat)
    (h : ∀ i, i < w.length → (rd f (i : Int) = -1 ∧ K i = 0 ∧ N i = 0) ∨ ∃ j, j < n ∧ rd f (i : Int) = (j : Int) ∧ K i = D j ∧ N i = M j) : ∀ (m k i : Nat), i + m = w.length → m < k →
    valiselaw6_BuildSpread.l27 k (i : Int) w f (lf n D) (lf n M) (lf w.length K) (lf w.length N) = some (.inr ()) := by
  have lD := lf_length n D
  have lM := lf_length n M
  have lK := lf_length w.length K
  have lN := lf_length w.length N
  intro m
  induction m with
  | zero =>
    intro k i hi hk
    obtain ⟨k, rfl⟩ : ∃ q, k = q + 1 := ⟨k - 1, by omega⟩
    rw [valiselaw6_BuildSpread.l27, if_neg (by omega)]
  | succ m ih =>
    intro k i hi hk
    obtain ⟨k, rfl⟩ : ∃ q, k = q + 1 := ⟨k - 1, by omega⟩
    have key := ih k (i + 1) (by omega) (by omega)
    have hil : i < w.length := by omega
    rw [valiselaw6_BuildSpread.l27, if_pos (by omega), gd_pos (by omega)]
    rcases h i hil with ⟨h1, h2, h3⟩ | ⟨j, hj, h1, h2, h3⟩
    · rw [h1, if_pos (by decide), gd_pos (by omega), lf_rd hil, lf_rd hil, h2, h3, if_neg (by decide), gd_pos (by omega)]
      simp only [Option.bind_some]
      rw [if_neg (by decide), if_neg (by decide)]
      simp only [Option.bind_some]
      rw [if_neg (by decide), bnd_eq, inc_i (by omega)]
      exact key
    · rw [h1, if_neg (by omega)]
      simp only [Option.bind_some]
      rw [if_neg (by decide), if_pos (by omega), gd_pos (by omega), gd_pos (by omega), lf_rd hil, lf_rd hil, lf_rd hj, lf_rd hj, h2, h3, if_neg (fun e => e rfl), gd_pos (by omega), gd_pos (by omega), decide_eq_false (fun e => e rfl)]
      simp only [Option.bind_some]
      rw [if_neg (by decide), bnd_eq, inc_i (by omega)]
      exact key
theorem valiselaw6_BuildSpread_true (a : List Int) (limit : Int) (sp : List Int) (ha : ∀ x ∈ a, (Lit.int .i64 x).wf = true) (wa : a.length * 8 ≤ 140737488351232) (hl : (Lit.int .i64 limit).wf = true) (hb : ∀ x ∈ sp, (Lit.int .i64 x).wf = true) (wb : sp.length * 8 ≤ 140737488351232) : valiselaw6_BuildSpread.f a limit sp = some true := by
  have hw := wf_i64 hl
  rw [valiselaw6_BuildSpread.f, law6_sound_spec]
  simp only [Option.bind_some]
  by_cases c1 : badF a = 0
  · obtain ⟨b1, b2⟩ := badF_ok c1
    rw [decide_eq_true c1]
    by_cases c2 : limit < 1 ∨ 15 < limit
    · rw [if_pos (by rcases c2 with c | c <;> simp [c])]; rfl
    · obtain ⟨lim, rfl⟩ : ∃ m : Nat, limit = m := ⟨limit.toNat, by omega⟩
      rw [if_neg (by simp; omega), law6_uses_spec a b1]
      simp only [Option.bind_some]
      rw [wr_u64 (by omega), gd_pos (by omega), shl_one lim (by omega)]
      simp only [Option.bind_some]
      by_cases c3 : 2 ^ lim < (uS a).length
      · rw [decide_eq_true (by omega), if_pos rfl]
      · rw [decide_eq_false (by omega), if_neg (by decide)]
        obtain ⟨w, f, φ, g1, S, g2⟩ := spread_l21 a b1 sp (fun x hx => wf_i64 (hb x hx)) wb a.length FU 0 [] [] id (by omega) (by rw [FU_eq]; omega) (by simp) ⟨rfl, fun j hj => by omega, rfl, fun i hi => by simp at hi⟩
        have g1' : valiselaw6_BuildSpread.l21 FU ([] : List Int) ([] : List Int) 0 a sp = _ := g1
        rw [g1']
        simp only [Option.bind_some]
        by_cases c4 : 288 < w.length
        · rw [if_pos (by omega)]
        · have hok : ∀ x ∈ w, okF x := fun x hx => by
            obtain ⟨i, hi, e⟩ := List.mem_iff_getElem.1 hx
            have hr : rd w (i : Int) = x := by rw [rd_at (List.getElem?_eq_getElem hi), e]
            rcases S.each i hi with ⟨_, h⟩ | ⟨j, h1, h2, h3⟩
            · unfold okF; omega
            · have h4 := (S.put j h1).2
              rw [h3, hr] at h4
              have := used_at b2 h1
              unfold okF; omega
          have cB : badF w = 0 := by unfold badF; rw [if_neg c4, if_pos hok]
          have A : Alike a w 1 φ := ⟨by omega, S.syms, fun i hi => by rw [(S.put i hi.1).2]; omega⟩
          have lenA := A.len
          obtain ⟨D, d1, d2, d3, d4, d5, d6, d8, d7⟩ := depths_good a c1
          obtain ⟨M, e1, e2, e3, e4, e5, e6, e7, e8⟩ := limited_good a c1 lim (by omega) (by omega) (by omega)
          obtain ⟨K, p1, p2, p3, p4, p5, p6, p8, p7⟩ := depths_good w cB
          obtain ⟨N, q1, q2, q3, q4, q5, q6, q7, q8⟩ := limited_good w cB lim (by omega) (by omega) (by omega)
          have t27 := spread_l27 a.length w f S.len (by omega) D M K N (fun i hi => by
            rcases S.each i hi with ⟨h1, h2⟩ | ⟨j, h1, h2, h3⟩
            · exact .inl ⟨h1, zero_of p4 p5 hi (by omega), zero_of q4 q5 hi (by omega)⟩
            · refine .inr ⟨j, h1, h2, ?_⟩
              by_cases u : 0 < rd a (j : Int)
              · rw [← h3]
                exact ⟨alike_dep A d4 d8 p4 p8 j ⟨h1, u⟩, alike_lim A e4 e7 q4 q7 j ⟨h1, u⟩⟩
              · have h4 := (S.put j h1).2
                rw [h3] at h4
                rw [zero_of d4 d5 h1 u, zero_of e4 e5 h1 u, zero_of p4 p5 hi (by omega), zero_of q4 q5 hi (by omega)]
                exact ⟨rfl, rfl⟩) w.length FU 0 (by omega) (by rw [FU_eq]; omega)
          have t27' : valiselaw6_BuildSpread.l27 FU 0 w f (lf a.length D) (lf a.length M) (lf w.length K) (lf w.length N) = _ := t27
          have lK := lf_length w.length K
          have lN := lf_length w.length N
          rw [if_neg (by omega), valiselaw6_copied_spec a (by omega)]
          simp only [Option.bind_some]
          rw [d1]
          simp only [Option.bind_some]
          rw [e1]
          simp only [Option.bind_some]
          rw [if_neg (by decide), d2]
          simp only [Option.bind_some]
          rw [if_neg (by decide), e2]
          simp only [Option.bind_some]
          rw [if_neg (by decide), valiselaw6_copied_spec w (by omega)]
          simp only [Option.bind_some]
          rw [p1]
          simp only [Option.bind_some]
          rw [q1]
          simp only [Option.bind_some]
          rw [if_neg (by omega), t27']
          rfl
  · rw [decide_eq_false c1, if_pos (by simp)]; rfl
end Go.V.Pu
