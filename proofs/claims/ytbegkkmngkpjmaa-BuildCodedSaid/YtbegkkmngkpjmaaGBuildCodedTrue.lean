/- The plain law: the stage's theorem. -/
import Derived.Test.YtbegkkmngkpjmaaGBuildCodedPure
import Derived.Test.YtbegkkmngkpjmaaQ9
import Derived.Test.YtbegkkmngkpjmaaQ12
set_option linter.unusedVariables false
set_option linter.unusedSimpArgs false
namespace Go.V.Pu
open Go Go.V
theorem flat_one {β : Type} (l : List β) : (l.mapIdx fun _ x => [x]).flatten = l := by
  induction l with
  | nil => rfl
  | cons x l ih => rw [List.mapIdx_cons, List.flatten_cons]; exact congrArg (x :: ·) ih
theorem valiselaw6_copied_spec (a : List Int) (h : (a.length : Int) * 8 ≤ 140737488355328) : valiselaw6_copied.f a = some a := by
  unfold valiselaw6_copied.f
  have key := list_loop0 a (by omega) (fun k i s => valiselaw6_copied.l1 k s i a) (fun i x s => .inr (s ++ [x])) (fun s => s) (fun i s => s.length = i)
    (fun k s _ => by rw [valiselaw6_copied.l1, if_neg (by omega)])
    (fun k i x s hx hi hs => by
      have e1 : rd a (i : Int) = x := rd_at hx
      have e2 : (s ++ [x]).length = i + 1 := by simp [hs]
      rw [valiselaw6_copied.l1, if_pos (by omega), gd_pos (by omega), e1, bnd_eq, gd_pos (by rw [e2]; omega), bnd_eq, inc_i (by omega)])
    (fun i x s s' hx hi hs hg => by cases hg; simp [hs]) [] rfl
  have key' : valiselaw6_copied.l1 FU [] 0 a = _ := key
  rw [key', foldE_app (f := fun _ x => [x])]
  simp [flat_one]

theorem rd_mid (A B : List Int) (x : Int) {i : Int} (h : i = (A.length : Int)) : rd (A ++ x :: B) i = x := by
  subst h; exact rd_at (by rw [List.getElem?_append_right (Nat.le_refl _), Nat.sub_self]; rfl)
theorem set_mid {α : Type} (A B : List α) (x y : α) {i : Nat} (h : i = A.length) : (A ++ x :: B).set i y = A ++ y :: B := by
  subst h; rw [List.set_append_right _ _ (Nat.le_refl _), Nat.sub_self]; rfl
theorem wr_add {a b : Nat} (h : a + b < 9223372036854775807) : IntKind.i64.wrap ((a : Int) + (b : Int)) = ((a + b : Nat) : Int) := by rw [wr_i64 (by omega)]; rfl
theorem wr_sub {a b : Nat} (h : b ≤ a) (h2 : a < 9223372036854775807) : IntKind.i64.wrap ((a : Int) - (b : Int)) = ((a - b : Nat) : Int) := by rw [wr_i64 (by omega)]; omega

theorem swap_loop (fr : List Int) (P Q R : List Int) (hl : P.length + Q.length + R.length ≤ 1000000) : ∀ (U2 V2 : List Int) (k : Nat) (U1 V1 : List Int), U2.length = V2.length → U1.length = V1.length → U1.length + U2.length ≤ 1000000 → U2.length < k →
    slices_swapRangeCmpFunc_int_cbuild_Limited_1.l1 k (P ++ (V1 ++ (U2 ++ (Q ++ (U1 ++ (V2 ++ R)))))) (V1.length : Int) (P.length : Int) ((P.length + (U1.length + U2.length) + Q.length : Nat) : Int) ((U1.length + U2.length : Nat) : Int) = some (P ++ (V1 ++ (V2 ++ (Q ++ (U1 ++ (U2 ++ R)))))) := by
  intro U2
  induction U2 with
  | nil =>
    intro V2 k U1 V1 h2 h1 hn hk
    obtain ⟨k, rfl⟩ : ∃ j, k = j + 1 := ⟨k - 1, by omega⟩
    obtain rfl : V2 = [] := List.eq_nil_of_length_eq_zero h2.symm
    rw [slices_swapRangeCmpFunc_int_cbuild_Limited_1.l1, if_neg (by simp only [List.length_nil]; omega)]
  | cons u U2 ih =>
    intro V2 k U1 V1 h2 h1 hn hk
    obtain ⟨k, rfl⟩ : ∃ j, k = j + 1 := ⟨k - 1, by omega⟩
    obtain ⟨v, V2, rfl⟩ : ∃ v W, V2 = v :: W := by cases V2 with | nil => simp at h2 | cons v W => exact ⟨v, W, rfl⟩
    simp only [List.length_cons] at h2 hn hk ⊢
    have ea : IntKind.i64.wrap ((P.length : Int) + (V1.length : Int)) = ((P.length + V1.length : Nat) : Int) := wr_add (by omega)
    have eb : IntKind.i64.wrap (((P.length + (U1.length + (U2.length + 1)) + Q.length : Nat) : Int) + (V1.length : Int)) = ((P.length + (U1.length + (U2.length + 1)) + Q.length + V1.length : Nat) : Int) := wr_add (by omega)
    have s1 : P ++ (V1 ++ (u :: U2 ++ (Q ++ (U1 ++ (v :: V2 ++ R))))) = (P ++ V1) ++ u :: (U2 ++ (Q ++ (U1 ++ (v :: V2 ++ R)))) := by simp
    have s2 : P ++ (V1 ++ (u :: U2 ++ (Q ++ (U1 ++ (v :: V2 ++ R))))) = (P ++ (V1 ++ (u :: U2 ++ (Q ++ U1)))) ++ v :: (V2 ++ R) := by simp
    have s3 : (P ++ V1) ++ v :: (U2 ++ (Q ++ (U1 ++ (v :: V2 ++ R)))) = (P ++ (V1 ++ (v :: U2 ++ (Q ++ U1)))) ++ v :: (V2 ++ R) := by simp
    have s4 : (P ++ (V1 ++ (v :: U2 ++ (Q ++ U1)))) ++ u :: (V2 ++ R) = P ++ ((V1 ++ [v]) ++ (U2 ++ (Q ++ ((U1 ++ [u]) ++ (V2 ++ R))))) := by simp
    have ra := rd_mid (P ++ V1) (U2 ++ (Q ++ (U1 ++ (v :: V2 ++ R)))) u (i := ((P.length + V1.length : Nat) : Int)) (by simp)
    have rb := rd_mid (P ++ (V1 ++ (u :: U2 ++ (Q ++ U1)))) (V2 ++ R) v (i := ((P.length + (U1.length + (U2.length + 1)) + Q.length + V1.length : Nat) : Int)) (by simp; omega)
    rw [← s1] at ra
    rw [← s2] at rb
    have len : (P ++ (V1 ++ (u :: U2 ++ (Q ++ (U1 ++ (v :: V2 ++ R)))))).length = P.length + V1.length + U2.length + 1 + Q.length + U1.length + V2.length + 1 + R.length := by simp; omega
    have key := ih V2 k (U1 ++ [u]) (V1 ++ [v]) (by omega) (by simp; omega) (by simp; omega) (by omega)
    simp only [List.length_append, List.length_cons, List.length_nil] at key
    rw [slices_swapRangeCmpFunc_int_cbuild_Limited_1.l1, if_pos (by omega), ea, eb, gd_pos (by omega), gd_pos (by omega), bnd_eq, rb, ra, Int.toNat_natCast, s1, set_mid _ _ _ _ (by simp), s3, gd_pos (by simp; omega), Int.toNat_natCast, bnd_eq, set_mid _ _ _ _ (by simp; omega), bnd_eq, inc_i (by omega), s4]
    rw [show U1.length + (U2.length + 1) = U1.length + (0 + 1) + U2.length by omega, show V1.length + 1 = V1.length + (0 + 1) by omega]
    refine key.trans ?_
    simp
theorem swap_spec (fr : List Int) (P U Q V R : List Int) (h : U.length = V.length) (hl : P.length + U.length + Q.length + R.length ≤ 500000) :
    slices_swapRangeCmpFunc_int_cbuild_Limited_1.f (P ++ (U ++ (Q ++ (V ++ R)))) (P.length : Int) ((P.length + U.length + Q.length : Nat) : Int) (U.length : Int) fr = some (P ++ (V ++ (Q ++ (U ++ R)))) := by
  have key := swap_loop fr P Q R (by omega) U V FU [] [] h rfl (by simp; omega) (by rw [FU_eq]; omega)
  simp only [List.length_nil, Nat.zero_add, List.nil_append] at key
  have key' : slices_swapRangeCmpFunc_int_cbuild_Limited_1.l1 FU (P ++ (U ++ (Q ++ (V ++ R)))) 0 (P.length : Int) ((P.length + U.length + Q.length : Nat) : Int) (U.length : Int) = _ := key
  rw [slices_swapRangeCmpFunc_int_cbuild_Limited_1.f, key']
  simp only [Option.bind_some]
  rw [gd_pos (by simp; omega)]
theorem rot_loop (fr : List Int) (N : Nat) : ∀ (k : Nat) (P X Y Z : List Int), X.length + Y.length ≤ N → N < k → 1 ≤ X.length → 1 ≤ Y.length → P.length + X.length + Y.length + Z.length ≤ 400000 →
    (slices_rotateCmpFunc_int_cbuild_Limited_1.l1 k (P ++ (X ++ (Y ++ Z))) (X.length : Int) (Y.length : Int) ((P.length + X.length : Nat) : Int) fr).bind (fun (l178, i_179) => (slices_swapRangeCmpFunc_int_cbuild_Limited_1.f l178 (IntKind.i64.wrap (((P.length + X.length : Nat) : Int) - i_179)) ((P.length + X.length : Nat) : Int) i_179 fr)) = some (P ++ (Y ++ (X ++ Z))) := by
  induction N with
  | zero => intro k P X Y Z h1 h2 h3; omega
  | succ N ih =>
    intro k P X Y Z hN hk hX hY hl
    obtain ⟨k, rfl⟩ : ∃ j, k = j + 1 := ⟨k - 1, by omega⟩
    have ei : IntKind.i64.wrap (((P.length + X.length : Nat) : Int) - (X.length : Int)) = (P.length : Int) := by rw [wr_sub (by omega) (by omega)]; congr 1; omega
    by_cases e : X.length = Y.length
    · rw [slices_rotateCmpFunc_int_cbuild_Limited_1.l1, if_neg (by omega)]
      simp only [Option.bind_some]
      have key := swap_spec fr P X [] Y Z e (by simp; omega)
      simp only [List.length_nil, Nat.add_zero, List.nil_append] at key
      rw [ei, key]
    · rw [slices_rotateCmpFunc_int_cbuild_Limited_1.l1, if_pos (by omega)]
      by_cases c : Y.length < X.length
      · rw [if_pos (by omega)]
        -- X = Xa ++ Xb
        obtain ⟨Xa, Xb, rfl, hXa⟩ : ∃ Xa Xb, X = Xa ++ Xb ∧ Xa.length = Y.length := ⟨X.take Y.length, X.drop Y.length, (List.take_append_drop _ _).symm, by rw [List.length_take]; omega⟩
        simp only [List.length_append] at *
        have key := swap_spec fr P Xa Xb Y Z hXa (by omega)
        have e1 : ((P.length + Xa.length + Xb.length : Nat) : Int) = ((P.length + (Xa.length + Xb.length) : Nat) : Int) := by congr 1; omega
        have e2 : IntKind.i64.wrap (((Y.length + Xb.length : Nat) : Int) - (Y.length : Int)) = (Xb.length : Int) := by rw [wr_sub (by omega) (by omega)]; congr 1; omega
        rw [ei, ← hXa, ← e1, List.append_assoc, key]
        simp only [Option.bind_some]
        rw [bnd_eq, hXa, e2]
        simp only [Option.bind_some]
        have k2 := ih k (P ++ Y) Xb Xa Z (by omega) (by omega) (by omega) (by omega) (by simp; omega)
        simp only [List.length_append, List.append_assoc] at k2
        rw [hXa] at k2 e1
        rw [show P.length + Y.length + Xb.length = P.length + (Y.length + Xb.length) by omega] at k2
        rw [show P.length + Y.length + Xb.length = P.length + (Y.length + Xb.length) by omega]
        refine k2.trans ?_
        simp
      · rw [if_neg (by omega)]
        obtain ⟨Ya, Yb, rfl, hYb⟩ : ∃ Ya Yb, Y = Ya ++ Yb ∧ Yb.length = X.length := ⟨Y.take (Y.length - X.length), Y.drop (Y.length - X.length), (List.take_append_drop _ _).symm, by rw [List.length_drop]; omega⟩
        simp only [List.length_append] at *
        have key := swap_spec fr P X Ya Yb Z hYb.symm (by omega)
        have e1 : IntKind.i64.wrap (IntKind.i64.wrap (((P.length + X.length : Nat) : Int) + ((Ya.length + Yb.length : Nat) : Int)) - (X.length : Int)) = ((P.length + X.length + Ya.length : Nat) : Int) := by
          rw [wr_add (by omega), wr_sub (by omega) (by omega)]; congr 1; omega
        have e2 : IntKind.i64.wrap (((Ya.length + Yb.length : Nat) : Int) - (X.length : Int)) = (Ya.length : Int) := by rw [wr_sub (by omega) (by omega)]; congr 1; omega
        rw [ei, e1, List.append_assoc Ya, key]
        simp only [Option.bind_some]
        rw [bnd_eq, e2]
        simp only [Option.bind_some]
        have k2 := ih k P Yb Ya (X ++ Z) (by omega) (by omega) (by omega) (by omega) (by simp; omega)
        rw [hYb] at k2
        rw [k2, List.append_assoc]
theorem rot_spec (fr : List Int) (P X Y Z : List Int) (hX : 1 ≤ X.length) (hY : 1 ≤ Y.length) (hl : P.length + X.length + Y.length + Z.length ≤ 400000) :
    slices_rotateCmpFunc_int_cbuild_Limited_1.f (P ++ (X ++ (Y ++ Z))) (P.length : Int) ((P.length + X.length : Nat) : Int) ((P.length + X.length + Y.length : Nat) : Int) fr = some (P ++ (Y ++ (X ++ Z))) := by
  have key := rot_loop fr (X.length + Y.length) FU P X Y Z (Nat.le_refl _) (by rw [FU_eq]; omega) hX hY hl
  have e1 : IntKind.i64.wrap (((P.length + X.length : Nat) : Int) - (P.length : Int)) = (X.length : Int) := by rw [wr_sub (by omega) (by omega)]; congr 1; omega
  have e2 : IntKind.i64.wrap (((P.length + X.length + Y.length : Nat) : Int) - ((P.length + X.length : Nat) : Int)) = (Y.length : Int) := by rw [wr_sub (by omega) (by omega)]; congr 1; omega
  rw [slices_rotateCmpFunc_int_cbuild_Limited_1.f, bnd_eq, bnd_eq, e1, e2]
  obtain ⟨⟨l, i⟩, h1, h2⟩ := Option.bind_eq_some_iff.1 key
  rw [h1]
  simp only [Option.bind_some] at h2 ⊢
  rw [h2]
  simp only [Option.bind_some]
  rw [gd_pos (by simp; omega)]

theorem cmp_spec (fr : List Int) {x y : Int} (hx : okS fr x) (hy : okS fr y) : build_Limited_1.f x y fr = some (if rd fr x < rd fr y then -1 else if rd fr y < rd fr x then 1 else 0) := by
  rw [build_Limited_1.f, gd_pos (show 0 ≤ x ∧ x < (fr.length : Int) from hx), gd_pos (show 0 ≤ y ∧ y < (fr.length : Int) from hy), cmp_Compare_int.f, cmp_isNaN_int.f, cmp_isNaN_int.f]
  simp only [ne_eq, not_true_eq_false, decide_false, Option.bind_some, Bool.false_eq_true, if_false]
  split
  · rfl
  · split <;> rfl
/-- A search by halves. -/
theorem halves (L : Nat → Int → Int → Option Int) (T : Nat → Prop) [DecidablePred T] (lo hi : Nat) (hhi : hi ≤ 1000000)
    (stop : ∀ (k i : Nat), L (k + 1) (i : Int) (i : Int) = some (i : Int))
    (step : ∀ (k i j : Nat), lo ≤ i → i < j → j ≤ hi → L (k + 1) (i : Int) (j : Int) = if T ((i + j) / 2) then L k (((i + j) / 2 + 1 : Nat) : Int) (j : Int) else L k (i : Int) (((i + j) / 2 : Nat) : Int)) :
    ∀ (N k i j : Nat), lo ≤ i → i ≤ j → j ≤ hi → j - i ≤ N → N < k → (i = lo ∨ (lo < i ∧ T (i - 1))) → (j = hi ∨ ¬ T j) → ∃ s : Nat, L k (i : Int) (j : Int) = some (s : Int) ∧ lo ≤ s ∧ s ≤ hi ∧ (s = lo ∨ (lo < s ∧ T (s - 1))) ∧ (s = hi ∨ ¬ T s) := by
  intro N
  induction N with
  | zero =>
    intro k i j h1 h2 h3 h4 h5 h6 h7
    obtain ⟨k, rfl⟩ : ∃ q, k = q + 1 := ⟨k - 1, by omega⟩
    obtain rfl : i = j := by omega
    exact ⟨i, stop k i, h1, h3, h6, h7⟩
  | succ N ih =>
    intro k i j h1 h2 h3 h4 h5 h6 h7
    obtain ⟨k, rfl⟩ : ∃ q, k = q + 1 := ⟨k - 1, by omega⟩
    by_cases e : i = j
    · subst e; exact ⟨i, stop k i, h1, h3, h6, h7⟩
    · rw [step k i j h1 (by omega) h3]
      by_cases t : T ((i + j) / 2)
      · rw [if_pos t]
        exact ih k _ _ (by omega) (by omega) h3 (by omega) (by omega) (.inr ⟨by omega, by rw [Nat.add_sub_cancel]; exact t⟩) h7
      · rw [if_neg t]
        exact ih k _ _ h1 (by omega) (by omega) (by omega) (by omega) h6 (.inr t)
theorem half (i j : Nat) (h : i + j ≤ 4000000) : IntKind.i64.wrap (shr .u64 (IntKind.u64.wrap (IntKind.i64.wrap ((i : Int) + (j : Int)))) 1) = (((i + j) / 2 : Nat) : Int) := by
  rw [wr_add (by omega), wr_u64 (by omega)]
  have := shr_nat (k := .u64) (a := i + j) (n := 1) (by simp only [IntKind.bits]; omega)
  rw [show ((1 : Nat) : Int) = 1 from rfl] at this
  rw [this, Nat.pow_one, wr_i64 (by omega)]

theorem rd_ok {fr l : List Int} (h : okL fr l) {i : Nat} (hi : i < l.length) : okS fr (rd l (i : Int)) := by
  rw [rd_at (List.getElem?_eq_getElem hi)]; exact h _ (List.getElem_mem hi)
theorem rd_get {l : List Int} {i : Nat} (hi : i < l.length) : rd l (i : Int) = l[i] := rd_at (List.getElem?_eq_getElem hi)

/-- One that moves to the right. -/
theorem right_loop (x : Int) : ∀ (Y : List Int) (k : Nat) (P Z : List Int), Y.length < k → P.length + Y.length + Z.length ≤ 400000 →
    slices_symMergeCmpFunc_int_cbuild_Limited_1.l3 k (P ++ (x :: (Y ++ Z))) (P.length : Int) ((P.length + Y.length + 1 : Nat) : Int) = some (P ++ (Y ++ (x :: Z))) := by
  intro Y
  induction Y with
  | nil =>
    intro k P Z hk hl
    obtain ⟨k, rfl⟩ : ∃ q, k = q + 1 := ⟨k - 1, by omega⟩
    have e : IntKind.i64.wrap (((P.length + ([] : List Int).length + 1 : Nat) : Int) - 1) = (P.length : Int) := by
      have := wr_sub (a := P.length + ([] : List Int).length + 1) (b := 1) (by omega) (by simp; omega)
      rw [show ((1 : Nat) : Int) = 1 from rfl] at this
      rw [this]; simp
    rw [slices_symMergeCmpFunc_int_cbuild_Limited_1.l3, e, if_neg (by omega)]
    rfl
  | cons y Y ih =>
    intro k P Z hk hl
    simp only [List.length_cons] at hk hl ⊢
    obtain ⟨k, rfl⟩ : ∃ q, k = q + 1 := ⟨k - 1, by omega⟩
    have e : IntKind.i64.wrap (((P.length + (Y.length + 1) + 1 : Nat) : Int) - 1) = ((P.length + (Y.length + 1) : Nat) : Int) := by
      have := wr_sub (a := P.length + (Y.length + 1) + 1) (b := 1) (by omega) (by omega)
      rw [show ((1 : Nat) : Int) = 1 from rfl] at this
      rw [this]; congr 1
    have r1 : rd (P ++ (x :: (y :: Y ++ Z))) ((P.length + 1 : Nat) : Int) = y := by
      rw [show P ++ (x :: (y :: Y ++ Z)) = (P ++ [x]) ++ y :: (Y ++ Z) by simp]
      exact rd_mid _ _ _ (by simp)
    have r2 : rd (P ++ (x :: (y :: Y ++ Z))) (P.length : Int) = x := rd_mid P (y :: Y ++ Z) x rfl
    have s1 : (P ++ (x :: (y :: Y ++ Z))).set P.length y = P ++ (y :: (y :: Y ++ Z)) := set_mid P _ x y rfl
    have s2 : (P ++ (y :: (y :: Y ++ Z))).set (P.length + 1) x = (P ++ [y]) ++ (x :: (Y ++ Z)) := by
      have := set_mid (P ++ [y]) (Y ++ Z) y x (i := P.length + 1) (by simp)
      rw [← this]; simp
    have key := ih k (P ++ [y]) Z (by omega) (by simp; omega)
    simp only [List.length_append, List.length_cons, List.length_nil, Nat.zero_add] at key
    rw [slices_symMergeCmpFunc_int_cbuild_Limited_1.l3, e, if_pos (by omega), inc_i (by omega), gd_pos (by simp; omega), gd_pos (by simp; omega), bnd_eq, r1, r2, Int.toNat_natCast, s1, gd_pos (by simp; omega), bnd_eq, Int.toNat_natCast, s2, bnd_eq]
    rw [show P.length + (Y.length + 1) + 1 = P.length + 1 + Y.length + 1 by omega]
    refine key.trans ?_
    simp
/-- One that moves to the left. -/
theorem left_loop (y : Int) (N : Nat) : ∀ (X : List Int) (k : Nat) (P Z : List Int), X.length ≤ N → N < k → P.length + X.length + Z.length ≤ 400000 →
    slices_symMergeCmpFunc_int_cbuild_Limited_1.l7 k (P ++ (X ++ (y :: Z))) ((P.length + X.length : Nat) : Int) (P.length : Int) = some (P ++ (y :: (X ++ Z))) := by
  induction N with
  | zero =>
    intro X k P Z hN hk hl
    obtain rfl := List.eq_nil_of_length_eq_zero (by omega : X.length = 0)
    obtain ⟨k, rfl⟩ : ∃ q, k = q + 1 := ⟨k - 1, by omega⟩
    rw [slices_symMergeCmpFunc_int_cbuild_Limited_1.l7, if_neg (by simp)]
    rfl
  | succ N ih =>
    intro X k P Z hN hk hl
    by_cases hX : X = []
    · subst hX
      obtain ⟨k, rfl⟩ : ∃ q, k = q + 1 := ⟨k - 1, by omega⟩
      rw [slices_symMergeCmpFunc_int_cbuild_Limited_1.l7, if_neg (by simp)]
      rfl
    · obtain ⟨W, x, rfl⟩ : ∃ W x, X = W ++ [x] := ⟨X.dropLast, X.getLast hX, (List.dropLast_concat_getLast hX).symm⟩
      simp only [List.length_append, List.length_cons, List.length_nil, Nat.zero_add] at hN hl ⊢
      obtain ⟨k, rfl⟩ : ∃ q, k = q + 1 := ⟨k - 1, by omega⟩
      have e : IntKind.i64.wrap (((P.length + (W.length + 1) : Nat) : Int) - 1) = ((P.length + W.length : Nat) : Int) := by
        have := wr_sub (a := P.length + (W.length + 1)) (b := 1) (by omega) (by omega)
        rw [show ((1 : Nat) : Int) = 1 from rfl] at this
        rw [this]; congr 1
      have r1 : rd (P ++ (W ++ [x] ++ (y :: Z))) ((P.length + W.length : Nat) : Int) = x := by
        rw [show P ++ (W ++ [x] ++ (y :: Z)) = (P ++ W) ++ x :: (y :: Z) by simp]
        exact rd_mid _ _ _ (by simp)
      have r2 : rd (P ++ (W ++ [x] ++ (y :: Z))) ((P.length + (W.length + 1) : Nat) : Int) = y := by
        rw [show P ++ (W ++ [x] ++ (y :: Z)) = (P ++ (W ++ [x])) ++ y :: Z by simp]
        exact rd_mid _ _ _ (by simp)
      have s1 : (P ++ (W ++ [x] ++ (y :: Z))).set (P.length + (W.length + 1)) x = P ++ (W ++ [x] ++ (x :: Z)) := by
        have := set_mid (P ++ (W ++ [x])) Z y x (i := P.length + (W.length + 1)) (by simp)
        rw [show P ++ (W ++ [x] ++ (y :: Z)) = (P ++ (W ++ [x])) ++ y :: Z by simp, this]; simp
      have s2 : (P ++ (W ++ [x] ++ (x :: Z))).set (P.length + W.length) y = P ++ (W ++ (y :: (x :: Z))) := by
        have := set_mid (P ++ W) (x :: Z) x y (i := P.length + W.length) (by simp)
        rw [show P ++ (W ++ [x] ++ (x :: Z)) = (P ++ W) ++ x :: (x :: Z) by simp, this]; simp
      have key := ih W k P (x :: Z) (by omega) (by omega) (by simp; omega)
      rw [slices_symMergeCmpFunc_int_cbuild_Limited_1.l7, if_pos (by omega), e, gd_pos (by simp; omega), gd_pos (by simp; omega), bnd_eq, r1, r2, Int.toNat_natCast, s1, gd_pos (by simp; omega), bnd_eq, Int.toNat_natCast, s2, bnd_eq]
      refine key.trans ?_
      simp

theorem rd_X (P X W : List Int) {q : Nat} (h : q < X.length) {i : Int} (hi : i = ((P.length + q : Nat) : Int)) : rd (P ++ (X ++ W)) i = X[q] := by
  subst hi
  exact rd_at (by rw [List.getElem?_append_right (by omega), Nat.add_sub_cancel_left, List.getElem?_append_left h, List.getElem?_eq_getElem h])
theorem rd_Y (P X Y W : List Int) {q : Nat} (h : q < Y.length) {i : Int} (hi : i = ((P.length + X.length + q : Nat) : Int)) : rd (P ++ (X ++ (Y ++ W))) i = Y[q] := by
  rw [← List.append_assoc]
  exact rd_X (P ++ X) Y W h (by rw [List.length_append]; exact hi)
theorem pre_le {fr Y : List Int} (hp : Y.Pairwise (kle fr)) {i : Nat} (hi : i < Y.length) {x : Int} (h : kle fr Y[i] x) : ∀ z ∈ Y.take (i + 1), kle fr z x := by
  intro z hz
  obtain ⟨j, hj, rfl⟩ := List.mem_iff_getElem.1 hz
  rw [List.length_take] at hj
  rw [List.getElem_take]
  by_cases e : j = i
  · subst e; exact h
  · exact kle_trans (List.pairwise_iff_getElem.1 hp j i (by omega) hi (by omega)) h
theorem suf_ge {fr Y : List Int} (hp : Y.Pairwise (kle fr)) {i : Nat} (hi : i < Y.length) {x : Int} (h : kle fr x Y[i]) : ∀ z ∈ Y.drop i, kle fr x z := by
  intro z hz
  obtain ⟨j, hj, rfl⟩ := List.mem_iff_getElem.1 hz
  rw [List.length_drop] at hj
  rw [List.getElem_drop]
  by_cases e : j = 0
  · subst e; exact h
  · exact kle_trans h (List.pairwise_iff_getElem.1 hp i (i + j) hi (by omega) (by omega))
theorem okL_mem {fr l : List Int} (h : okL fr l) {m : List Int} (hm : ∀ x ∈ m, x ∈ l) : okL fr m := fun x hx => h x (hm x hx)
theorem cross {fr X Y : List Int} (hX : X.Pairwise (kle fr)) (hY : Y.Pairwise (kle fr)) {i j : Nat} (hi : i < X.length) (hj : j < Y.length) (h : kle fr X[i] Y[j]) : ∀ x ∈ X.take (i + 1), ∀ y ∈ Y.drop j, kle fr x y :=
  fun x hx y hy => suf_ge hY hj (pre_le hX hi h x hx) y hy

theorem sym_spec (fr : List Int) (N : Nat) : ∀ (kf : Nat) (P X Y Z : List Int), X.length + Y.length ≤ N → N < kf → 1 ≤ X.length → 1 ≤ Y.length → P.length + X.length + Y.length + Z.length ≤ 400000 → okL fr X → okL fr Y →
    (∀ x ∈ X, ∀ y ∈ Y, x < y) → X.Pairwise (kle fr) → Y.Pairwise (kle fr) →
    ∃ M : List Int, slices_symMergeCmpFunc_int_cbuild_Limited_1.f kf (P ++ (X ++ (Y ++ Z))) (P.length : Int) ((P.length + X.length : Nat) : Int) ((P.length + X.length + Y.length : Nat) : Int) fr = some (P ++ (M ++ Z)) ∧ M.Perm (X ++ Y) ∧ M.Pairwise (kle fr) := by
  induction N with
  | zero => intro kf P X Y Z h1 h2 h3; omega
  | succ N ih =>
    intro kf P X Y Z hN hk hX1 hY1 hl oX oY hXY sX sY
    obtain ⟨kf, rfl⟩ : ∃ q, kf = q + 1 := ⟨kf - 1, by omega⟩
    have em : IntKind.i64.wrap (((P.length + X.length : Nat) : Int) - (P.length : Int)) = (X.length : Int) := by rw [wr_sub (by omega) (by omega)]; congr 1; omega
    have eb : IntKind.i64.wrap (((P.length + X.length + Y.length : Nat) : Int) - ((P.length + X.length : Nat) : Int)) = (Y.length : Int) := by rw [wr_sub (by omega) (by omega)]; congr 1; omega
    have len : (P ++ (X ++ (Y ++ Z))).length = P.length + X.length + Y.length + Z.length := by simp; omega
    rw [slices_symMergeCmpFunc_int_cbuild_Limited_1.f, em]
    by_cases cA : X.length = 1
    · obtain ⟨x, rfl⟩ := List.length_eq_one_iff.1 cA
      rw [if_pos (by simp)]
      have hx : okS fr x := oX x (by simp)
      obtain ⟨s, hs, s1, s2, s3, s4⟩ := halves (fun k i j => slices_symMergeCmpFunc_int_cbuild_Limited_1.l1 k i j (P ++ ([x] ++ (Y ++ Z))) (P.length : Int) fr) (fun h => ∃ hq : h - (P.length + 1) < Y.length, rd fr (Y[h - (P.length + 1)]) < rd fr x) (P.length + 1) (P.length + 1 + Y.length) (by omega)
        (fun k i => by show slices_symMergeCmpFunc_int_cbuild_Limited_1.l1 _ _ _ _ _ _ = _; rw [slices_symMergeCmpFunc_int_cbuild_Limited_1.l1, if_neg (by omega)])
        (fun k i j h1 h2 h3 => by
          have hq : (i + j) / 2 - (P.length + 1) < Y.length := by omega
          have ra : rd (P ++ ([x] ++ (Y ++ Z))) (P.length : Int) = x := rd_X P [x] (Y ++ Z) (q := 0) (by simp) (by simp)
          have rb : rd (P ++ ([x] ++ (Y ++ Z))) (((i + j) / 2 : Nat) : Int) = Y[(i + j) / 2 - (P.length + 1)] := rd_Y P [x] Y Z hq (by simp; omega)
          show slices_symMergeCmpFunc_int_cbuild_Limited_1.l1 _ _ _ _ _ _ = _
          rw [slices_symMergeCmpFunc_int_cbuild_Limited_1.l1, if_pos (by omega), bnd_eq, half i j (by omega), gd_pos (by rw [len]; simp; omega), gd_pos (by rw [len]; simp; omega), ra, rb, cmp_spec fr (oY _ (List.getElem_mem hq)) hx]
          simp only [Option.bind_some]
          by_cases t : rd fr (Y[(i + j) / 2 - (P.length + 1)]) < rd fr x
          · rw [if_pos t, if_pos (by decide), bnd_eq, inc_i (by omega), if_pos ⟨hq, t⟩]
            rfl
          · rw [if_neg t, if_neg (by split <;> decide), if_neg (fun f => t f.2)]
            rfl) Y.length FU (P.length + 1) (P.length + 1 + Y.length) (Nat.le_refl _) (by omega) (Nat.le_refl _) (by omega) (by rw [FU_eq]; omega) (.inl rfl) (.inl rfl)
      simp only [List.length_cons, List.length_nil, Nat.zero_add]
      have hs' : slices_symMergeCmpFunc_int_cbuild_Limited_1.l1 FU ((P.length + 1 : Nat) : Int) ((P.length + 1 + Y.length : Nat) : Int) (P ++ ([x] ++ (Y ++ Z))) (P.length : Int) fr = some (s : Int) := hs
      rw [hs']
      simp only [Option.bind_some]
      have hy1 : (Y.take (s - (P.length + 1))).length = s - (P.length + 1) := by rw [List.length_take]; omega
      have key := right_loop x (Y.take (s - (P.length + 1))) FU P (Y.drop (s - (P.length + 1)) ++ Z) (by rw [FU_eq]; omega) (by simp; omega)
      rw [← List.append_assoc (Y.take _), List.take_append_drop, hy1, show P.length + (s - (P.length + 1)) + 1 = s by omega] at key
      have key' : slices_symMergeCmpFunc_int_cbuild_Limited_1.l3 FU (P ++ ([x] ++ (Y ++ Z))) (P.length : Int) (s : Int) = _ := key
      rw [key']
      simp only [Option.bind_some]
      refine ⟨Y.take (s - (P.length + 1)) ++ x :: Y.drop (s - (P.length + 1)), ?_, ?_, ?_⟩
      · have e2 : (P ++ (Y.take (s - (P.length + 1)) ++ x :: (Y.drop (s - (P.length + 1)) ++ Z))).length = (P ++ ([x] ++ (Y ++ Z))).length := by simp; omega
        rw [gd_pos e2]
        simp
      · refine List.perm_middle.trans ?_
        rw [List.take_append_drop]
        exact List.Perm.refl _
      · refine List.pairwise_append.2 ⟨sY.sublist (List.take_sublist _ _), List.pairwise_cons.2 ⟨?_, sY.sublist (List.drop_sublist _ _)⟩, ?_⟩
        · intro z hz
          rcases s4 with e | e
          · rw [List.drop_of_length_le (by omega)] at hz; cases hz
          · have hq : s - (P.length + 1) < Y.length := by
              apply Classical.byContradiction
              intro hc
              rw [List.drop_of_length_le (by omega)] at hz; cases hz
            exact suf_ge sY hq ((kle_not (hXY x (by simp) _ (List.getElem_mem hq))).2 (fun f => e ⟨hq, f⟩)) z hz
        · intro z hz w hw
          have hzx : kle fr z x := by
            rcases s3 with e | ⟨e, hq, t⟩
            · rw [show s - (P.length + 1) = 0 by omega] at hz; simp at hz
            · have h2 := pre_le sY hq ((kle_before (hXY x (by simp) _ (List.getElem_mem hq))).2 t) z
              rw [show s - 1 - (P.length + 1) + 1 = s - (P.length + 1) by omega] at h2
              exact h2 hz
          rcases List.mem_cons.1 hw with rfl | hw
          · exact hzx
          · exact List.pairwise_append.1 (by rw [List.take_append_drop]; exact sY : (Y.take (s - (P.length + 1)) ++ Y.drop (s - (P.length + 1))).Pairwise (kle fr)) |>.2.2 z hz w hw
    · rw [if_neg (by omega), eb]
      by_cases cB : Y.length = 1
      · obtain ⟨y, rfl⟩ := List.length_eq_one_iff.1 cB
        rw [if_pos (by simp)]
        have hy : okS fr y := oY y (by simp)
        obtain ⟨s, hs, s1, s2, s3, s4⟩ := halves (fun k i j => slices_symMergeCmpFunc_int_cbuild_Limited_1.l5 k i j (P ++ (X ++ ([y] ++ Z))) ((P.length + X.length : Nat) : Int) fr) (fun h => ∃ hq : h - P.length < X.length, ¬ rd fr y < rd fr (X[h - P.length])) P.length (P.length + X.length) (by omega)
          (fun k i => by show slices_symMergeCmpFunc_int_cbuild_Limited_1.l5 _ _ _ _ _ _ = _; rw [slices_symMergeCmpFunc_int_cbuild_Limited_1.l5, if_neg (by omega)])
          (fun k i j h1 h2 h3 => by
            have hq : (i + j) / 2 - P.length < X.length := by omega
            have ra : rd (P ++ (X ++ ([y] ++ Z))) ((P.length + X.length : Nat) : Int) = y := rd_Y P X [y] Z (q := 0) (by simp) (by simp)
            have rb : rd (P ++ (X ++ ([y] ++ Z))) (((i + j) / 2 : Nat) : Int) = X[(i + j) / 2 - P.length] := rd_X P X ([y] ++ Z) hq (by simp; omega)
            show slices_symMergeCmpFunc_int_cbuild_Limited_1.l5 _ _ _ _ _ _ = _
            rw [slices_symMergeCmpFunc_int_cbuild_Limited_1.l5, if_pos (by omega), bnd_eq, half i j (by omega), gd_pos (by rw [len]; simp; omega), gd_pos (by rw [len]; omega), ra, rb, cmp_spec fr hy (oX _ (List.getElem_mem hq))]
            simp only [Option.bind_some]
            by_cases t : rd fr y < rd fr (X[(i + j) / 2 - P.length])
            · rw [if_pos t, if_neg (by decide), if_neg (fun f => f.2 t)]
              rfl
            · rw [if_neg t, if_pos (by split <;> decide), bnd_eq, inc_i (by omega), if_pos ⟨hq, t⟩]
              rfl) X.length FU P.length (P.length + X.length) (Nat.le_refl _) (by omega) (Nat.le_refl _) (by omega) (by rw [FU_eq]; omega) (.inl rfl) (.inl rfl)
        have hs' : slices_symMergeCmpFunc_int_cbuild_Limited_1.l5 FU (P.length : Int) ((P.length + X.length : Nat) : Int) (P ++ (X ++ ([y] ++ Z))) ((P.length + X.length : Nat) : Int) fr = some (s : Int) := hs
        rw [hs']
        simp only [Option.bind_some]
        have hx1 : (X.take (s - P.length)).length = s - P.length := by rw [List.length_take]; omega
        have hx2 : (X.drop (s - P.length)).length = X.length - (s - P.length) := List.length_drop ..
        have key := left_loop y X.length (X.drop (s - P.length)) FU (P ++ X.take (s - P.length)) Z (by omega) (by rw [FU_eq]; omega) (by simp; omega)
        rw [List.length_append, hx1, hx2, show P.length + (s - P.length) = s by omega, show s + (X.length - (s - P.length)) = P.length + X.length by omega, List.append_assoc, ← List.append_assoc (X.take _), List.take_append_drop] at key
        have key' : slices_symMergeCmpFunc_int_cbuild_Limited_1.l7 FU (P ++ (X ++ ([y] ++ Z))) ((P.length + X.length : Nat) : Int) (s : Int) = _ := key
        rw [key']
        simp only [Option.bind_some]
        refine ⟨X.take (s - P.length) ++ y :: X.drop (s - P.length), ?_, ?_, ?_⟩
        · rw [gd_pos (by simp; omega)]
          simp
        · refine List.perm_middle.trans ?_
          rw [List.take_append_drop]
          exact (List.perm_append_comm (l₁ := [y]) (l₂ := X))
        · refine List.pairwise_append.2 ⟨sX.sublist (List.take_sublist _ _), List.pairwise_cons.2 ⟨?_, sX.sublist (List.drop_sublist _ _)⟩, ?_⟩
          · intro z hz
            rcases s4 with e | e
            · rw [List.drop_of_length_le (by omega)] at hz; cases hz
            · have hq : s - P.length < X.length := by
                apply Classical.byContradiction
                intro hc
                rw [List.drop_of_length_le (by omega)] at hz; cases hz
              have t : rd fr y < rd fr (X[s - P.length]) := by
                apply Classical.byContradiction
                intro f; exact e ⟨hq, f⟩
              exact suf_ge sX hq ((kle_before (hXY _ (List.getElem_mem hq) y (by simp))).2 t) z hz
          · intro z hz w hw
            have hzx : kle fr z y := by
              rcases s3 with e | ⟨e, hq, t⟩
              · rw [show s - P.length = 0 by omega] at hz; simp at hz
              · have h2 := pre_le sX hq ((kle_not (hXY _ (List.getElem_mem hq) y (by simp))).2 t) z
                rw [show s - 1 - P.length + 1 = s - P.length by omega] at h2
                exact h2 hz
            rcases List.mem_cons.1 hw with rfl | hw
            · exact hzx
            · exact List.pairwise_append.1 (by rw [List.take_append_drop]; exact sX : (X.take (s - P.length) ++ X.drop (s - P.length)).Pairwise (kle fr)) |>.2.2 z hz w hw
      · rw [if_neg (by omega), half _ _ (by omega), bnd_eq]
        obtain ⟨h, hh⟩ : ∃ h, h = (X.length + Y.length) / 2 := ⟨_, rfl⟩
        rw [show (P.length + (P.length + X.length + Y.length)) / 2 = P.length + h by omega, wr_add (by omega), bnd_eq]
        -- where the search begins and ends
        obtain ⟨u0, u1, e01, a1, a2, a3, a4, a5, a6⟩ : ∃ u0 u1 : Nat, (if ((P.length + h : Nat) : Int) < ((P.length + X.length : Nat) : Int) then (bnd (IntKind.i64.wrap (((P.length + h + (P.length + X.length) : Nat) : Int) - ((P.length + X.length + Y.length : Nat) : Int))) fun x888 => some (x888, ((P.length + h : Nat) : Int))) else (some ((P.length : Int), ((P.length + X.length : Nat) : Int)))) = some (((P.length + u0 : Nat) : Int), ((P.length + u1 : Nat) : Int)) ∧ u0 ≤ u1 ∧ u1 ≤ h ∧ u1 ≤ X.length ∧ h ≤ u0 + Y.length ∧ (u0 = 0 ∨ u0 + Y.length = h) ∧ (u1 = h ∨ u1 = X.length) := by
          by_cases c : h < X.length
          · refine ⟨h - Y.length, h, ?_, by omega, by omega, by omega, by omega, by omega, by omega⟩
            rw [if_pos (by omega), bnd_eq, wr_sub (by omega) (by omega)]
            congr 3; omega
          · exact ⟨0, X.length, by rw [if_neg (by omega)]; rfl, by omega, by omega, by omega, by omega, by omega, by omega⟩
        rw [e01]
        simp only [Option.bind_some]
        have e1 : IntKind.i64.wrap (((P.length + h + (P.length + X.length) : Nat) : Int) - 1) = ((P.length + h + (P.length + X.length) - 1 : Nat) : Int) := by
          have := wr_sub (a := P.length + h + (P.length + X.length)) (b := 1) (by omega) (by omega)
          rwa [show ((1 : Nat) : Int) = 1 from rfl] at this
        rw [bnd_eq, e1]
        obtain ⟨s, hs, s1, s2, s3, s4⟩ := halves (fun k i j => slices_symMergeCmpFunc_int_cbuild_Limited_1.l9 k i j (P ++ (X ++ (Y ++ Z))) fr ((P.length + h + (P.length + X.length) - 1 : Nat) : Int)) (fun c => ∃ (hq : c - P.length < X.length) (hr : P.length + h - 1 - c < Y.length), ¬ rd fr (Y[P.length + h - 1 - c]) < rd fr (X[c - P.length])) (P.length + u0) (P.length + u1) (by omega)
          (fun k i => by show slices_symMergeCmpFunc_int_cbuild_Limited_1.l9 _ _ _ _ _ _ = _; rw [slices_symMergeCmpFunc_int_cbuild_Limited_1.l9, if_neg (by omega)])
          (fun k i j h1 h2 h3 => by
            have hq : (i + j) / 2 - P.length < X.length := by omega
            have hr : P.length + h - 1 - (i + j) / 2 < Y.length := by omega
            have ec : IntKind.i64.wrap (((P.length + h + (P.length + X.length) - 1 : Nat) : Int) - (((i + j) / 2 : Nat) : Int)) = ((P.length + X.length + (P.length + h - 1 - (i + j) / 2) : Nat) : Int) := by
              rw [wr_sub (by omega) (by omega)]; congr 1; omega
            have ra : rd (P ++ (X ++ (Y ++ Z))) ((P.length + X.length + (P.length + h - 1 - (i + j) / 2) : Nat) : Int) = Y[P.length + h - 1 - (i + j) / 2] := rd_Y P X Y Z hr rfl
            have rb : rd (P ++ (X ++ (Y ++ Z))) (((i + j) / 2 : Nat) : Int) = X[(i + j) / 2 - P.length] := rd_X P X (Y ++ Z) hq (by congr 1; omega)
            show slices_symMergeCmpFunc_int_cbuild_Limited_1.l9 _ _ _ _ _ _ = _
            rw [slices_symMergeCmpFunc_int_cbuild_Limited_1.l9, if_pos (by omega), bnd_eq, half i j (by omega), ec, gd_pos (by rw [len]; omega), gd_pos (by rw [len]; omega), ra, rb, cmp_spec fr (oY _ (List.getElem_mem hr)) (oX _ (List.getElem_mem hq))]
            simp only [Option.bind_some]
            by_cases t : rd fr (Y[P.length + h - 1 - (i + j) / 2]) < rd fr (X[(i + j) / 2 - P.length])
            · rw [if_pos t, if_neg (by decide), if_neg (fun f => f.2.2 t)]
              rfl
            · rw [if_neg t, if_pos (by split <;> decide), bnd_eq, inc_i (by omega), if_pos ⟨hq, hr, t⟩]
              rfl) (P.length + u1) FU (P.length + u0) (P.length + u1) (Nat.le_refl _) (by omega) (Nat.le_refl _) (by omega) (by rw [FU_eq]; omega) (.inl rfl) (.inl rfl)
        have hs' : slices_symMergeCmpFunc_int_cbuild_Limited_1.l9 FU ((P.length + u0 : Nat) : Int) ((P.length + u1 : Nat) : Int) (P ++ (X ++ (Y ++ Z))) fr ((P.length + h + (P.length + X.length) - 1 : Nat) : Int) = some (s : Int) := hs
        rw [hs']
        simp only [Option.bind_some]
        obtain ⟨u, rfl⟩ : ∃ u, s = P.length + u := ⟨s - P.length, by omega⟩
        have e2 : IntKind.i64.wrap (((P.length + h + (P.length + X.length) : Nat) : Int) - ((P.length + u : Nat) : Int)) = ((P.length + X.length + (h - u) : Nat) : Int) := by
          rw [wr_sub (by omega) (by omega)]; congr 1; omega
        rw [bnd_eq, e2]
        have k3 : u = u0 ∨ ∀ x ∈ X.take u, ∀ y ∈ Y.drop (h - u), kle fr x y := by
          rcases s3 with e | ⟨e, hq, hr, t⟩
          · exact .inl (by omega)
          · right
            have k := cross sX sY hq hr ((kle_not (hXY _ (List.getElem_mem hq) _ (List.getElem_mem hr))).2 t)
            rw [show P.length + u - 1 - P.length + 1 = u by omega, show P.length + h - 1 - (P.length + u - 1) = h - u by omega] at k
            exact k
        have k4 : u = u1 ∨ ∀ y ∈ Y.take (h - u), ∀ x ∈ X.drop u, kle fr y x := by
          by_cases eu : u = u1
          · exact .inl eu
          · right
            have hq : P.length + u - P.length < X.length := by omega
            have hr : P.length + h - 1 - (P.length + u) < Y.length := by omega
            have t : rd fr (Y[P.length + h - 1 - (P.length + u)]) < rd fr (X[P.length + u - P.length]) := by
              rcases s4 with e | e
              · omega
              · apply Classical.byContradiction
                intro f; exact e ⟨hq, hr, f⟩
            have k := cross sY sX hr hq ((kle_before (hXY _ (List.getElem_mem hq) _ (List.getElem_mem hr))).2 t)
            rw [show P.length + h - 1 - (P.length + u) + 1 = h - u by omega, show P.length + u - P.length = u by omega] at k
            exact k
        clear s3 s4 hs hs' e01
        -- the four parts
        obtain ⟨X1, X2, rfl, lx1⟩ : ∃ X1 X2, X = X1 ++ X2 ∧ X1.length = u := ⟨X.take u, X.drop u, (List.take_append_drop _ _).symm, by rw [List.length_take]; omega⟩
        obtain ⟨Y1, Y2, rfl, ly1⟩ : ∃ Y1 Y2, Y = Y1 ++ Y2 ∧ Y1.length = h - u := ⟨Y.take (h - u), Y.drop (h - u), (List.take_append_drop _ _).symm, by rw [List.length_take]; omega⟩
        obtain ⟨sX1, sX2, sX12⟩ := List.pairwise_append.1 sX
        obtain ⟨sY1, sY2, sY12⟩ := List.pairwise_append.1 sY
        rw [← ly1, List.drop_left, ← lx1, List.take_left] at k3
        rw [← ly1, List.take_left, ← lx1, List.drop_left] at k4
        simp only [List.length_append] at *
        have hA : ∀ x ∈ X1, ∀ y ∈ Y2, kle fr x y := by
          rcases k3 with e | k
          · rcases a5 with e5 | e5
            · obtain rfl : X1 = [] := List.eq_nil_of_length_eq_zero (by omega)
              intro x hx; cases hx
            · obtain rfl : Y2 = [] := List.eq_nil_of_length_eq_zero (by omega)
              intro x _ y hy; cases hy
          · exact k
        have hB : ∀ y ∈ Y1, ∀ x ∈ X2, kle fr y x := by
          rcases k4 with e | k
          · rcases a6 with e6 | e6
            · obtain rfl : Y1 = [] := List.eq_nil_of_length_eq_zero (by omega)
              intro x hx; cases hx
            · obtain rfl : X2 = [] := List.eq_nil_of_length_eq_zero (by omega)
              intro x _ y hy; cases hy
          · exact k
        -- the turn
        have rot : (if ((P.length + u : Nat) : Int) < ((P.length + (X1.length + X2.length) : Nat) : Int) ∧ ((P.length + (X1.length + X2.length) : Nat) : Int) < ((P.length + (X1.length + X2.length) + (h - u) : Nat) : Int) then ((slices_rotateCmpFunc_int_cbuild_Limited_1.f (P ++ (X1 ++ X2 ++ (Y1 ++ Y2 ++ Z))) ((P.length + u : Nat) : Int) ((P.length + (X1.length + X2.length) : Nat) : Int) ((P.length + (X1.length + X2.length) + (h - u) : Nat) : Int) fr).bind fun z1087 => some z1087) else (some (P ++ (X1 ++ X2 ++ (Y1 ++ Y2 ++ Z))))) = some (P ++ (X1 ++ (Y1 ++ (X2 ++ (Y2 ++ Z))))) := by
          by_cases c : 0 < X2.length ∧ 0 < Y1.length
          · rw [if_pos (by omega)]
            have key := rot_spec fr (P ++ X1) X2 Y1 (Y2 ++ Z) (by omega) (by omega) (by simp; omega)
            simp only [List.length_append, List.append_assoc] at key
            simp only [List.append_assoc]
            rw [show P.length + (X1.length + X2.length) = P.length + X1.length + X2.length by omega, ← lx1, show P.length + X1.length + X2.length + (h - X1.length) = P.length + X1.length + X2.length + Y1.length by omega, key]
            rfl
          · rw [if_neg (by omega)]
            rcases (by omega : X2.length = 0 ∨ Y1.length = 0) with e | e
            · obtain rfl := List.eq_nil_of_length_eq_zero e; simp
            · obtain rfl := List.eq_nil_of_length_eq_zero e; simp
        rw [rot]
        simp only [Option.bind_some]
        -- the two halves
        have sub : ∀ (P' A B W : List Int), A.length + B.length ≤ N → P'.length + A.length + B.length + W.length ≤ 400000 → okL fr A → okL fr B → (∀ x ∈ A, ∀ y ∈ B, x < y) → A.Pairwise (kle fr) → B.Pairwise (kle fr) →
            ∃ M : List Int, (if ((P'.length : Nat) : Int) < ((P'.length + A.length : Nat) : Int) ∧ ((P'.length + A.length : Nat) : Int) < ((P'.length + A.length + B.length : Nat) : Int) then ((slices_symMergeCmpFunc_int_cbuild_Limited_1.f kf (P' ++ (A ++ (B ++ W))) (P'.length : Int) ((P'.length + A.length : Nat) : Int) ((P'.length + A.length + B.length : Nat) : Int) fr).bind fun z => some z) else (some (P' ++ (A ++ (B ++ W))))) = some (P' ++ (M ++ W)) ∧ M.Perm (A ++ B) ∧ M.Pairwise (kle fr) := by
          intro P' A B W h1 h2 h3 h4 h5 h6 h7
          by_cases c : 0 < A.length ∧ 0 < B.length
          · obtain ⟨M, m1, m2, m3⟩ := ih kf P' A B W h1 (by omega) (by omega) (by omega) h2 h3 h4 h5 h6 h7
            exact ⟨M, by rw [if_pos (by omega), m1]; rfl, m2, m3⟩
          · refine ⟨A ++ B, by rw [if_neg (by omega)]; simp, List.Perm.refl _, ?_⟩
            rcases (by omega : A.length = 0 ∨ B.length = 0) with e | e
            · obtain rfl := List.eq_nil_of_length_eq_zero e; simpa using h7
            · obtain rfl := List.eq_nil_of_length_eq_zero e; simpa using h6
        obtain ⟨M1, m1, m2, m3⟩ := sub P X1 Y1 (X2 ++ (Y2 ++ Z)) (by omega) (by simp; omega) (okL_mem oX (by simp; intro x h; exact .inl h)) (okL_mem oY (by simp; intro x h; exact .inl h)) (fun x hx y hy => hXY x (by simp [hx]) y (by simp [hy])) sX1 sY1
        rw [show P.length + u = P.length + X1.length by omega, show P.length + h = P.length + X1.length + Y1.length by omega, m1]
        simp only [Option.bind_some]
        have lM1 : M1.length = X1.length + Y1.length := by have := m2.length_eq; simpa using this
        obtain ⟨M2, n1, n2, n3⟩ := sub (P ++ M1) X2 Y2 Z (by omega) (by simp; omega) (okL_mem oX (by simp; intro x h; exact .inr h)) (okL_mem oY (by simp; intro x h; exact .inr h)) (fun x hx y hy => hXY x (by simp [hx]) y (by simp [hy])) sX2 sY2
        simp only [List.length_append, List.append_assoc, lM1] at n1
        rw [show P.length + (X1.length + X2.length) + (h - u) = P.length + (X1.length + Y1.length) + X2.length by omega, show P.length + (X1.length + X2.length) + (Y1.length + Y2.length) = P.length + (X1.length + Y1.length) + X2.length + Y2.length by omega, show P.length + X1.length + Y1.length = P.length + (X1.length + Y1.length) by omega, n1]
        simp only [Option.bind_some]
        have lM2 : M2.length = X2.length + Y2.length := by have := n2.length_eq; simpa using this
        refine ⟨M1 ++ M2, ?_, ?_, ?_⟩
        · rw [gd_pos (by simp; omega)]
          simp
        · refine (m2.append n2).trans ?_
          simp only [List.append_assoc]
          refine List.Perm.append_left X1 ?_
          rw [← List.append_assoc, ← List.append_assoc]
          exact List.Perm.append_right Y2 List.perm_append_comm
        · refine List.pairwise_append.2 ⟨m3, n3, fun x hx y hy => ?_⟩
          have hx := m2.subset hx
          have hy := n2.subset hy
          rcases List.mem_append.1 hx with hx | hx <;> rcases List.mem_append.1 hy with hy | hy
          · exact sX12 x hx y hy
          · exact hA x hx y hy
          · exact hB x hx y hy
          · exact sY12 x hx y hy

theorem ins_inner (fr : List Int) (x : Int) (hx : okS fr x) (N : Nat) : ∀ (A : List Int) (k : Nat) (P B R : List Int), A.length ≤ N → N < k → P.length + A.length + B.length + R.length ≤ 400000 → okL fr A → (∀ z ∈ A, z < x) → (A ++ B).Pairwise (kle fr) → (∀ z ∈ B, kle fr x z) →
    ∃ S : List Int, slices_insertionSortCmpFunc_int_cbuild_Limited_1.l13 k (P ++ (A ++ (x :: (B ++ R)))) ((P.length + A.length : Nat) : Int) (P.length : Int) fr = some (P ++ (S ++ R)) ∧ S.Perm (x :: (A ++ B)) ∧ S.Pairwise (kle fr) := by
  induction N with
  | zero =>
    intro A k P B R hN hk hl oA hA hp hB
    obtain rfl := List.eq_nil_of_length_eq_zero (by omega : A.length = 0)
    obtain ⟨k, rfl⟩ : ∃ q, k = q + 1 := ⟨k - 1, by omega⟩
    refine ⟨x :: B, ?_, List.Perm.refl _, List.pairwise_cons.2 ⟨hB, by simpa using hp⟩⟩
    rw [slices_insertionSortCmpFunc_int_cbuild_Limited_1.l13, if_neg (by simp)]
    simp
  | succ N ih =>
    intro A k P B R hN hk hl oA hA hp hB
    by_cases hA0 : A = []
    · subst hA0
      obtain ⟨k, rfl⟩ : ∃ q, k = q + 1 := ⟨k - 1, by omega⟩
      refine ⟨x :: B, ?_, List.Perm.refl _, List.pairwise_cons.2 ⟨hB, by simpa using hp⟩⟩
      rw [slices_insertionSortCmpFunc_int_cbuild_Limited_1.l13, if_neg (by simp)]
      simp
    · obtain ⟨W, y, rfl⟩ : ∃ W y, A = W ++ [y] := ⟨A.dropLast, A.getLast hA0, (List.dropLast_concat_getLast hA0).symm⟩
      simp only [List.length_append, List.length_cons, List.length_nil, Nat.zero_add] at hN hl ⊢
      obtain ⟨k, rfl⟩ : ∃ q, k = q + 1 := ⟨k - 1, by omega⟩
      have hy : okS fr y := oA y (by simp)
      have hyx : y < x := hA y (by simp)
      have e : IntKind.i64.wrap (((P.length + (W.length + 1) : Nat) : Int) - 1) = ((P.length + W.length : Nat) : Int) := by
        have := wr_sub (a := P.length + (W.length + 1)) (b := 1) (by omega) (by omega)
        rw [show ((1 : Nat) : Int) = 1 from rfl] at this
        rw [this]; congr 1
      have r1 : rd (P ++ (W ++ [y] ++ (x :: (B ++ R)))) ((P.length + W.length : Nat) : Int) = y := by
        rw [show P ++ (W ++ [y] ++ (x :: (B ++ R))) = (P ++ W) ++ y :: (x :: (B ++ R)) by simp]
        exact rd_mid _ _ _ (by simp)
      have r2 : rd (P ++ (W ++ [y] ++ (x :: (B ++ R)))) ((P.length + (W.length + 1) : Nat) : Int) = x := by
        rw [show P ++ (W ++ [y] ++ (x :: (B ++ R))) = (P ++ (W ++ [y])) ++ x :: (B ++ R) by simp]
        exact rd_mid _ _ _ (by simp)
      rw [slices_insertionSortCmpFunc_int_cbuild_Limited_1.l13, if_pos (by omega), e, gd_pos (by simp; omega), gd_pos (by simp; omega), r1, r2, cmp_spec fr hx hy]
      simp only [Option.bind_some]
      by_cases t : rd fr x < rd fr y
      · have s1 : (P ++ (W ++ [y] ++ (x :: (B ++ R)))).set (P.length + (W.length + 1)) y = P ++ (W ++ [y] ++ (y :: (B ++ R))) := by
          have := set_mid (P ++ (W ++ [y])) (B ++ R) x y (i := P.length + (W.length + 1)) (by simp)
          rw [show P ++ (W ++ [y] ++ (x :: (B ++ R))) = (P ++ (W ++ [y])) ++ x :: (B ++ R) by simp, this]; simp
        have s2 : (P ++ (W ++ [y] ++ (y :: (B ++ R)))).set (P.length + W.length) x = P ++ (W ++ (x :: (y :: B ++ R))) := by
          have := set_mid (P ++ W) (y :: (B ++ R)) y x (i := P.length + W.length) (by simp)
          rw [show P ++ (W ++ [y] ++ (y :: (B ++ R))) = (P ++ W) ++ y :: (y :: (B ++ R)) by simp, this]; simp
        rw [if_pos t, decide_eq_true (by decide : (-1 : Int) < 0), if_pos rfl, gd_pos (by simp; omega), gd_pos (by simp; omega), bnd_eq, Int.toNat_natCast, s1, gd_pos (by simp; omega), bnd_eq, Int.toNat_natCast, s2, bnd_eq]
        obtain ⟨S, h1, h2, h3⟩ := ih W k P (y :: B) R (by omega) (by omega) (by simp; omega) (okL_mem oA (by simp; intro z hz; exact .inl hz)) (fun z hz => hA z (by simp [hz])) (by simpa using hp) (fun z hz => by
          rcases List.mem_cons.1 hz with rfl | hz
          · exact (kle_before hyx).2 t
          · exact hB z hz)
        refine ⟨S, h1, h2.trans ?_, h3⟩
        simp
      · rw [if_neg t, decide_eq_false (by split <;> decide), if_neg (by decide)]
        refine ⟨W ++ [y] ++ (x :: B), by simp, List.perm_middle, ?_⟩
        obtain ⟨p1, p2, p3⟩ := List.pairwise_append.1 hp
        have hyx' : kle fr y x := (kle_not hyx).2 t
        refine List.pairwise_append.2 ⟨p1, List.pairwise_cons.2 ⟨hB, p2⟩, fun z hz w hw => ?_⟩
        rcases List.mem_cons.1 hw with rfl | hw
        · rcases List.mem_append.1 hz with hz | hz
          · exact kle_trans ((List.pairwise_append.1 p1).2.2 z hz y (by simp)) hyx'
          · simp only [List.mem_singleton] at hz; subst hz; exact hyx'
        · exact p3 z hz w hw
theorem ins_outer (fr : List Int) : ∀ (Rm : List Int) (k : Nat) (P S B1 Z : List Int), Rm.length < k → P.length + S.length + Rm.length + Z.length ≤ 400000 → okL fr (B1 ++ Rm) → (B1 ++ Rm).Pairwise (· < ·) → S.Perm B1 → S.Pairwise (kle fr) →
    ∃ S' : List Int, slices_insertionSortCmpFunc_int_cbuild_Limited_1.l11 k (P ++ (S ++ (Rm ++ Z))) ((P.length + S.length : Nat) : Int) (P.length : Int) ((P.length + S.length + Rm.length : Nat) : Int) fr = some (P ++ (S' ++ Z)) ∧ S'.Perm (B1 ++ Rm) ∧ S'.Pairwise (kle fr) := by
  intro Rm
  induction Rm with
  | nil =>
    intro k P S B1 Z hk hl ok hs hp hS
    obtain ⟨k, rfl⟩ : ∃ q, k = q + 1 := ⟨k - 1, by omega⟩
    refine ⟨S, by rw [slices_insertionSortCmpFunc_int_cbuild_Limited_1.l11, if_neg (by simp)]; simp, by simpa using hp, hS⟩
  | cons x Rm ih =>
    intro k P S B1 Z hk hl ok hs hp hS
    simp only [List.length_cons] at hk hl ⊢
    obtain ⟨k, rfl⟩ : ∃ q, k = q + 1 := ⟨k - 1, by omega⟩
    have hlt : ∀ z ∈ S, z < x := fun z hz => (List.pairwise_append.1 hs).2.2 z (hp.subset hz) x (by simp)
    obtain ⟨S1, h1, h2, h3⟩ := ins_inner fr x (ok x (by simp)) S.length S FU P [] (Rm ++ Z) (Nat.le_refl _) (by rw [FU_eq]; omega) (by simp; omega) (fun z hz => ok z (by simp [hp.subset hz])) hlt (by simpa using hS) (by simp)
    simp only [List.nil_append, List.append_nil] at h1 h2
    have l1 : S1.length = S.length + 1 := by have := h2.length_eq; simpa using this
    have hb : S1.Perm (B1 ++ [x]) := h2.trans ((List.Perm.cons x hp).trans (List.perm_append_comm (l₁ := [x]) (l₂ := B1)))
    obtain ⟨S2, g1, g2, g3⟩ := ih k P S1 (B1 ++ [x]) Z (by omega) (by omega) (by simpa using ok) (by simpa using hs) hb h3
    refine ⟨S2, ?_, by simpa using g2, g3⟩
    rw [slices_insertionSortCmpFunc_int_cbuild_Limited_1.l11, if_pos (by omega), List.cons_append, h1]
    simp only [Option.bind_some]
    rw [bnd_eq, inc_i (by omega)]
    rw [l1] at g1
    rw [show P.length + S.length + (Rm.length + 1) = P.length + (S.length + 1) + Rm.length by omega, show P.length + S.length + 1 = P.length + (S.length + 1) by omega]
    exact g1
theorem ins_spec (fr P B Z : List Int) (hl : P.length + B.length + Z.length ≤ 300000) (ok : okL fr B) (hs : B.Pairwise (· < ·)) :
    ∃ S : List Int, slices_insertionSortCmpFunc_int_cbuild_Limited_1.f (P ++ (B ++ Z)) (P.length : Int) ((P.length + B.length : Nat) : Int) fr = some (P ++ (S ++ Z)) ∧ S.Perm B ∧ S.Pairwise (kle fr) := by
  cases B with
  | nil =>
    refine ⟨[], ?_, List.Perm.refl _, List.Pairwise.nil⟩
    obtain ⟨k, hk⟩ : ∃ k, FU = k + 1 := ⟨36893488147419103231, rfl⟩
    rw [slices_insertionSortCmpFunc_int_cbuild_Limited_1.f, inc_i (by omega), bnd_eq, hk, slices_insertionSortCmpFunc_int_cbuild_Limited_1.l11, if_neg (by simp; omega)]
    simp only [Option.bind_some]
    rw [gd_pos trivial]
  | cons x B =>
    obtain ⟨S, h1, h2, h3⟩ := ins_outer fr B FU P [x] [x] Z (by rw [FU_eq]; simp at hl; omega) (by simp at hl ⊢; omega) (by simpa using ok) (by simpa using hs) (List.Perm.refl _) (List.pairwise_singleton _ _)
    refine ⟨S, ?_, by simpa using h2, h3⟩
    have e1 : P ++ ([x] ++ (B ++ Z)) = P ++ (x :: B ++ Z) := by simp
    rw [e1] at h1
    simp only [List.length_cons, List.length_nil, Nat.zero_add] at h1 ⊢
    rw [slices_insertionSortCmpFunc_int_cbuild_Limited_1.f, inc_i (by simp at hl; omega), bnd_eq, show P.length + (B.length + 1) = P.length + 1 + B.length by omega, h1]
    simp only [Option.bind_some]
    have := h2.length_eq
    rw [gd_pos (by simp at this ⊢; omega)]

/-- Blocks of that size, each in its order. -/
inductive Bl (fr : List Int) (bs : Nat) : List Int → List Int → Prop where
  | last {B S : List Int} : B.length ≤ bs → S.Perm B → S.Pairwise (kle fr) → Bl fr bs B S
  | cons {B S l0 l : List Int} : B.length = bs → S.Perm B → S.Pairwise (kle fr) → Bl fr bs l0 l → Bl fr bs (B ++ l0) (S ++ l)
theorem Bl.perm {fr : List Int} {bs : Nat} {l0 l : List Int} (h : Bl fr bs l0 l) : l.Perm l0 := by
  induction h with
  | last _ h _ => exact h
  | cons _ h _ _ ih => exact h.append ih
theorem stable_ins (fr : List Int) (N : Nat) : ∀ (R : List Int) (k : Nat) (D : List Int), R.length ≤ N → N < k → D.length + R.length ≤ 200000 → okL fr R → R.Pairwise (· < ·) →
    ∃ S : List Int, ((slices_stableCmpFunc_int_cbuild_Limited_1.l1 k (D ++ R) (D.length : Int) ((D.length + 20 : Nat) : Int) ((D.length + R.length : Nat) : Int) fr).bind fun (l51, a_52) => slices_insertionSortCmpFunc_int_cbuild_Limited_1.f l51 a_52 ((D.length + R.length : Nat) : Int) fr) = some (D ++ S) ∧ Bl fr 20 R S := by
  induction N with
  | zero =>
    intro R k D hN hk hl ok hs
    obtain ⟨k, rfl⟩ : ∃ q, k = q + 1 := ⟨k - 1, by omega⟩
    obtain rfl := List.eq_nil_of_length_eq_zero (by omega : R.length = 0)
    obtain ⟨S, h1, h2, h3⟩ := ins_spec fr D [] [] (by simp; omega) ok hs
    refine ⟨S, ?_, .last (by simp) h2 h3⟩
    rw [slices_stableCmpFunc_int_cbuild_Limited_1.l1, if_neg (by simp; omega)]
    simpa using h1
  | succ N ih =>
    intro R k D hN hk hl ok hs
    obtain ⟨k, rfl⟩ : ∃ q, k = q + 1 := ⟨k - 1, by omega⟩
    by_cases c : 20 ≤ R.length
    · obtain ⟨B, R', rfl, hB⟩ : ∃ B R', R = B ++ R' ∧ B.length = 20 := ⟨R.take 20, R.drop 20, (List.take_append_drop _ _).symm, by rw [List.length_take]; omega⟩
      simp only [List.length_append] at *
      obtain ⟨s1, s2, _⟩ := List.pairwise_append.1 hs
      obtain ⟨S, h1, h2, h3⟩ := ins_spec fr D B R' (by omega) (okL_mem ok (by simp; intro z hz; exact .inl hz)) s1
      have lS : S.length = 20 := by rw [h2.length_eq, hB]
      obtain ⟨S', g1, g2⟩ := ih R' k (D ++ S) (by omega) (by omega) (by simp; omega) (okL_mem ok (by simp; intro z hz; exact .inr hz)) s2
      refine ⟨S ++ S', ?_, .cons hB h2 h3 g2⟩
      rw [slices_stableCmpFunc_int_cbuild_Limited_1.l1, if_pos (by omega)]
      rw [hB] at h1
      rw [h1]
      simp only [Option.bind_some]
      have e20 : IntKind.i64.wrap (((D.length + 20 : Nat) : Int) + 20) = ((D.length + 20 + 20 : Nat) : Int) := by
        have := wr_add (a := D.length + 20) (b := 20) (by omega)
        rwa [show ((20 : Nat) : Int) = 20 from rfl] at this
      rw [bnd_eq, e20, hB]
      simp only [List.length_append, lS, List.append_assoc] at g1
      rw [show D.length + (20 + R'.length) = D.length + 20 + R'.length by omega]
      exact g1
    · obtain ⟨S, h1, h2, h3⟩ := ins_spec fr D R [] (by simp; omega) ok hs
      refine ⟨S, ?_, .last (by omega) h2 h3⟩
      rw [slices_stableCmpFunc_int_cbuild_Limited_1.l1, if_neg (by omega)]
      simpa using h1
theorem stable_pass (fr : List Int) (bs : Nat) (hbs : 1 ≤ bs) (hbl : bs ≤ 200000) (N : Nat) : ∀ (L0 l : List Int) (k : Nat) (D : List Int), L0.length ≤ N → N < k → D.length + L0.length ≤ 200000 → okL fr L0 → L0.Pairwise (· < ·) → Bl fr bs L0 l →
    ∃ l' : List Int, ((slices_stableCmpFunc_int_cbuild_Limited_1.l15 k (D ++ l) (D.length : Int) ((D.length + 2 * bs : Nat) : Int) ((D.length + L0.length : Nat) : Int) fr (bs : Int)).bind fun (l860, a_861) => bnd (IntKind.i64.wrap (a_861 + (bs : Int))) fun x913 => (if x913 < ((D.length + L0.length : Nat) : Int) then ((slices_symMergeCmpFunc_int_cbuild_Limited_1.f FU l860 a_861 x913 ((D.length + L0.length : Nat) : Int) fr).bind fun z932 => some z932) else (some l860))) = some (D ++ l') ∧ Bl fr (2 * bs) L0 l' := by
  have done : ∀ (k : Nat) (D l L0 : List Int), D.length + L0.length ≤ 200000 → L0.length ≤ bs → (slices_stableCmpFunc_int_cbuild_Limited_1.l15 (k + 1) (D ++ l) (D.length : Int) ((D.length + 2 * bs : Nat) : Int) ((D.length + L0.length : Nat) : Int) fr (bs : Int)).bind (fun (l860, a_861) => bnd (IntKind.i64.wrap (a_861 + (bs : Int))) fun x913 => (if x913 < ((D.length + L0.length : Nat) : Int) then ((slices_symMergeCmpFunc_int_cbuild_Limited_1.f FU l860 a_861 x913 ((D.length + L0.length : Nat) : Int) fr).bind fun z932 => some z932) else (some l860))) = some (D ++ l) := by
    intro k D l L0 h1 h2
    rw [slices_stableCmpFunc_int_cbuild_Limited_1.l15, if_neg (by omega)]
    simp only [Option.bind_some]
    rw [bnd_eq, wr_add (by omega), if_neg (by omega)]
  induction N with
  | zero =>
    intro L0 l k D hN hk hl ok hs hb
    obtain ⟨k, rfl⟩ : ∃ q, k = q + 1 := ⟨k - 1, by omega⟩
    cases hb with
    | last h1 h2 h3 => exact ⟨l, done k D l L0 hl h1, .last (by omega) h2 h3⟩
    | cons h1 h2 h3 h4 => rw [List.length_append] at hN; omega
  | succ N ih =>
    intro L0 l k D hN hk hl ok hs hb
    obtain ⟨k, rfl⟩ : ∃ q, k = q + 1 := ⟨k - 1, by omega⟩
    cases hb with
    | last h1 h2 h3 => exact ⟨l, done k D l L0 hl h1, .last (by omega) h2 h3⟩
    | @cons B1 S1 r0 r h1 h2 h3 h4 =>
      simp only [List.length_append] at *
      obtain ⟨t1, t2, t3⟩ := List.pairwise_append.1 hs
      have lS1 : S1.length = bs := by rw [h2.length_eq, h1]
      have ok1 : okL fr S1 := fun z hz => ok z (by simp [h2.subset hz])
      have ea : IntKind.i64.wrap ((D.length : Int) + (bs : Int)) = ((D.length + bs : Nat) : Int) := wr_add (by omega)
      have e2 : IntKind.i64.wrap (((D.length + 2 * bs : Nat) : Int) + IntKind.i64.wrap (2 * (bs : Int))) = ((D.length + 2 * bs + 2 * bs : Nat) : Int) := by
        have : IntKind.i64.wrap (2 * (bs : Int)) = ((2 * bs : Nat) : Int) := by rw [wr_i64 (by omega)]; omega
        rw [this, wr_add (by omega)]
      -- a merge of two blocks
      have two : ∀ (B2 S2 W : List Int), S2.Perm B2 → S2.Pairwise (kle fr) → 1 ≤ B2.length → B2.length ≤ bs → D.length + bs + B2.length + W.length ≤ 400000 → okL fr B2 → (∀ x ∈ B1, ∀ y ∈ B2, x < y) → ∃ M : List Int, slices_symMergeCmpFunc_int_cbuild_Limited_1.f FU (D ++ (S1 ++ (S2 ++ W))) (D.length : Int) ((D.length + bs : Nat) : Int) ((D.length + bs + B2.length : Nat) : Int) fr = some (D ++ (M ++ W)) ∧ M.Perm (B1 ++ B2) ∧ M.Pairwise (kle fr) ∧ M.length = bs + B2.length := by
        intro B2 S2 W p2 s2 c1 c2 c3 ok2 lt
        have lS2 := p2.length_eq
        obtain ⟨M, m1, m2, m3⟩ := sym_spec fr (S1.length + S2.length) FU D S1 S2 W (Nat.le_refl _) (by rw [FU_eq]; omega) (by omega) (by omega) (by omega) ok1 (fun z hz => ok2 z (p2.subset hz)) (fun x hx y hy => lt x (h2.subset hx) y (p2.subset hy)) h3 s2
        rw [lS1, lS2] at m1
        have m4 := m2.trans (h2.append p2)
        exact ⟨M, m1, m4, m3, by rw [m4.length_eq]; simp [h1]⟩
      cases h4 with
      | @last B2 S2 g1 g2 g3 =>
        have okB2 : okL fr r0 := okL_mem ok (by simp; intro z hz; exact .inr hz)
        by_cases c : r0.length = bs
        · obtain ⟨M, m1, m2, m3, m4⟩ := two r0 r [] g2 g3 (by omega) (by omega) (by simp; omega) okB2 t3
          have d := done (k - 1) (D ++ M) [] [] (by simp; omega) (by simp)
          refine ⟨M, ?_, .last (by simp; omega) m2 m3⟩
          rw [slices_stableCmpFunc_int_cbuild_Limited_1.l15, if_pos (by omega), ea]
          simp only [List.append_nil] at m1
          rw [show D.length + 2 * bs = D.length + bs + r0.length by omega, m1]
          simp only [Option.bind_some]
          rw [show D.length + bs + r0.length = D.length + 2 * bs by omega, bnd_eq, e2]
          simp only [List.length_append, List.append_nil, List.length_nil, Nat.add_zero, m4] at d
          rw [show k - 1 + 1 = k by omega] at d
          rw [show D.length + 2 * bs = D.length + (bs + r0.length) by omega, show D.length + (B1.length + r0.length) = D.length + (bs + r0.length) by omega, show D.length + (bs + r0.length) + 2 * bs = D.length + (bs + r0.length) + 2 * bs from rfl]
          exact d
        · rw [slices_stableCmpFunc_int_cbuild_Limited_1.l15, if_neg (by omega)]
          simp only [Option.bind_some]
          rw [bnd_eq, ea]
          by_cases c0 : r0.length = 0
          · obtain rfl := List.eq_nil_of_length_eq_zero c0
            obtain rfl : r = [] := by simpa using g2
            exact ⟨S1 ++ [], by rw [if_neg (by simp; omega)], .last (by simp; omega) (by simpa using h2) (by simpa using h3)⟩
          · obtain ⟨M, m1, m2, m3, m4⟩ := two r0 r [] g2 g3 (by omega) (by omega) (by simp; omega) okB2 t3
            simp only [List.append_nil] at m1
            refine ⟨M, ?_, .last (by simp; omega) m2 m3⟩
            rw [if_pos (by omega), show D.length + (B1.length + r0.length) = D.length + bs + r0.length by omega, m1]
            rfl
      | @cons B2 S2 q0 q g1 g2 g3 g4 =>
        obtain ⟨v1, v2, v3⟩ := List.pairwise_append.1 t2
        simp only [List.length_append] at *
        have lq : q.length = q0.length := g4.perm.length_eq
        obtain ⟨M, m1, m2, m3, m4⟩ := two B2 S2 q g2 g3 (by omega) (by omega) (by omega) (okL_mem ok (by simp; intro z hz; exact .inr (.inl hz))) (fun x hx y hy => t3 x hx y (by simp [hy]))
        obtain ⟨l', n1, n2⟩ := ih q0 q k (D ++ M) (by omega) (by omega) (by simp; omega) (okL_mem ok (by simp; intro z hz; exact .inr (.inr hz))) v2 g4
        refine ⟨M ++ l', ?_, ?_⟩
        · rw [slices_stableCmpFunc_int_cbuild_Limited_1.l15, if_pos (by omega), ea, show D.length + 2 * bs = D.length + bs + B2.length by omega, m1]
          simp only [Option.bind_some]
          rw [show D.length + bs + B2.length = D.length + 2 * bs by omega, bnd_eq, e2]
          simp only [List.length_append, m4, List.append_assoc] at n1
          rw [show D.length + 2 * bs = D.length + (bs + B2.length) by omega, show D.length + (B1.length + (B2.length + q0.length)) = D.length + (bs + B2.length) + q0.length by omega]
          exact n1
        · have := Bl.cons (fr := fr) (bs := 2 * bs) (B := B1 ++ B2) (S := M) (by simp; omega) m2 m3 n2
          simpa using this
theorem stable_rest (fr : List Int) (L0 : List Int) (hl : L0.length ≤ 100000) (ok : okL fr L0) (hs : L0.Pairwise (· < ·)) (N : Nat) : ∀ (l : List Int) (k bs : Nat), L0.length - bs ≤ N → N < k → 1 ≤ bs → bs ≤ 200000 → Bl fr bs L0 l →
    ∃ S : List Int, slices_stableCmpFunc_int_cbuild_Limited_1.l13 k l (bs : Int) (L0.length : Int) fr = some S ∧ S.Perm L0 ∧ S.Pairwise (kle fr) := by
  have fin : ∀ (l : List Int) (k bs : Nat), 1 ≤ bs → L0.length ≤ bs → Bl fr bs L0 l → ∃ S : List Int, slices_stableCmpFunc_int_cbuild_Limited_1.l13 (k + 1) l (bs : Int) (L0.length : Int) fr = some S ∧ S.Perm L0 ∧ S.Pairwise (kle fr) := by
    intro l k bs h0 h hb
    refine ⟨l, by rw [slices_stableCmpFunc_int_cbuild_Limited_1.l13, if_neg (by omega)], hb.perm, ?_⟩
    cases hb with
    | last _ _ h3 => exact h3
    | @cons B1 S1 r0 r h1 h2 h3 h4 =>
      simp only [List.length_append] at h
      have := h4.perm.length_eq
      obtain rfl := List.eq_nil_of_length_eq_zero (by omega : r.length = 0)
      simpa using h3
  induction N with
  | zero =>
    intro l k bs hN hk hb hbl h
    obtain ⟨k, rfl⟩ : ∃ q, k = q + 1 := ⟨k - 1, by omega⟩
    exact fin l k bs hb (by omega) h
  | succ N ih =>
    intro l k bs hN hk hb hbl h
    obtain ⟨k, rfl⟩ : ∃ q, k = q + 1 := ⟨k - 1, by omega⟩
    by_cases c : L0.length ≤ bs
    · exact fin l k bs hb c h
    · obtain ⟨l', h1, h2⟩ := stable_pass fr bs hb hbl L0.length L0 l FU [] (Nat.le_refl _) (by rw [FU_eq]; omega) (by simp; omega) ok hs h
      obtain ⟨S, g1, g2, g3⟩ := ih l' k (2 * bs) (by omega) (by omega) (by omega) (by omega) h2
      refine ⟨S, ?_, g2, g3⟩
      have e2 : IntKind.i64.wrap (2 * (bs : Int)) = ((2 * bs : Nat) : Int) := by rw [wr_i64 (by omega)]; omega
      have e3 : IntKind.i64.wrap ((bs : Int) * 2) = ((2 * bs : Nat) : Int) := by rw [wr_i64 (by omega)]; omega
      rw [slices_stableCmpFunc_int_cbuild_Limited_1.l13, if_pos (by omega), bnd_eq, e2]
      simp only [List.nil_append, List.length_nil, Nat.zero_add] at h1
      obtain ⟨⟨l860, a861⟩, q1, q2⟩ := Option.bind_eq_some_iff.1 h1
      have q1' : slices_stableCmpFunc_int_cbuild_Limited_1.l15 FU l 0 ((2 * bs : Nat) : Int) (L0.length : Int) fr (bs : Int) = some (l860, a861) := q1
      rw [q1']
      simp only [Option.bind_some] at q2 ⊢
      rw [bnd_eq] at q2 ⊢
      rw [q2]
      simp only [Option.bind_some]
      rw [bnd_eq, e3]
      exact g1
/-- The stable sort. -/
theorem stable_spec (fr L0 : List Int) (hl : L0.length ≤ 100000) (ok : okL fr L0) (hs : L0.Pairwise (· < ·)) :
    ∃ S : List Int, slices_SortStableFunc_int_int_cbuild_Limited_1.f L0 fr = some S ∧ S.Perm L0 ∧ S.Pairwise (kle fr) := by
  obtain ⟨S0, h1, h2⟩ := stable_ins fr L0.length L0 FU [] (Nat.le_refl _) (by rw [FU_eq]; omega) (by simp; omega) ok hs
  obtain ⟨S, g1, g2, g3⟩ := stable_rest fr L0 hl ok hs L0.length S0 FU 20 (by omega) (by rw [FU_eq]; omega) (by omega) (by omega) h2
  refine ⟨S, ?_, g2, g3⟩
  simp only [List.nil_append, List.length_nil, Nat.zero_add] at h1
  obtain ⟨⟨l51, a52⟩, q1, q2⟩ := Option.bind_eq_some_iff.1 h1
  have q1' : slices_stableCmpFunc_int_cbuild_Limited_1.l1 FU L0 0 20 (L0.length : Int) fr = some (l51, a52) := q1
  have g1' : slices_stableCmpFunc_int_cbuild_Limited_1.l13 FU S0 20 (L0.length : Int) fr = some S := g1
  simp only at q2
  rw [slices_SortStableFunc_int_int_cbuild_Limited_1.f, slices_stableCmpFunc_int_cbuild_Limited_1.f, q1']
  simp only [Option.bind_some]
  rw [q2]
  simp only [Option.bind_some]
  rw [g1']
  simp only [Option.bind_some]
  rw [gd_pos g2.length_eq]
  simp only [Option.bind_some]
  rw [gd_pos g2.length_eq]

def okF (x : Int) : Prop := ¬ (x < 0 ∨ 4294967296 < x)
instance : DecidablePred okF := fun x => by unfold okF; exact inferInstance
/-- The error of a list of frequencies. -/
def badF (a : List Int) : Int := if 288 < a.length then 1 else if ∀ x ∈ a, okF x then 0 else 61
theorem build_used_loop (a : List Int) (hl : a.length ≤ 288) (m : Nat) : ∀ (k i : Nat), i + m = a.length → m < k → (∀ j, j < i → okF (rd a (j : Int))) →
    build_used.l1 k (upS a i) (i : Int) a = some (if ∀ x ∈ a, okF x then .inr (uS a) else .inl ([], 61)) := by
  induction m with
  | zero =>
    intro k i hi hk hok
    obtain ⟨k, rfl⟩ : ∃ q, k = q + 1 := ⟨k - 1, by omega⟩
    have all : ∀ x ∈ a, okF x := fun x hx => by
      obtain ⟨j, hj, rfl⟩ := List.mem_iff_getElem.1 hx
      have := hok j (by omega)
      rwa [rd_at (List.getElem?_eq_getElem hj)] at this
    rw [build_used.l1, if_neg (by omega), if_pos all, show i = a.length by omega]
    rfl
  | succ m ih =>
    intro k i hi hk hok
    obtain ⟨k, rfl⟩ : ∃ q, k = q + 1 := ⟨k - 1, by omega⟩
    have hu := upS_len a i
    rw [build_used.l1, if_pos (by omega), gd_pos (by omega), bnd_eq]
    by_cases c : okF (rd a (i : Int))
    · have key := ih k (i + 1) (by omega) (by omega) (fun j hj => by
        by_cases e : j = i
        · subst e; exact c
        · exact hok j (by omega))
      rw [upS_succ] at key
      unfold okF at c
      rw [if_neg c]
      by_cases p : 0 < rd a (i : Int)
      · rw [if_pos p] at key
        rw [if_pos p, bnd_eq, gd_pos (by simp; omega)]
        simp only [Option.bind_some]
        rw [inc_i (by omega)]
        exact key
      · rw [if_neg p, List.append_nil] at key
        rw [if_neg p]
        simp only [Option.bind_some]
        rw [inc_i (by omega)]
        exact key
    · have na : ¬ ∀ x ∈ a, okF x := fun h => c (by rw [rd_at (List.getElem?_eq_getElem (show i < a.length by omega))]; exact h _ (List.getElem_mem _))
      unfold okF at c
      rw [if_pos (Classical.byContradiction c), if_neg na]
theorem build_used_spec (a : List Int) : build_used.f a = some (if badF a = 0 then uS a else [], badF a) := by
  rw [build_used.f]
  unfold badF
  by_cases c : 288 < a.length
  · rw [if_pos (by omega), if_pos c, if_neg (by decide)]
  · have key := build_used_loop a (by omega) a.length FU 0 (by omega) (by rw [FU_eq]; omega) (fun j hj => by omega)
    have key' : build_used.l1 FU ([] : List Int) 0 a = _ := key
    rw [if_neg (by omega), if_neg c, key']
    by_cases h : ∀ x ∈ a, okF x
    · rw [if_pos h, if_pos h, if_pos rfl]; rfl
    · rw [if_neg h, if_neg h, if_neg (by decide)]; rfl
theorem badF_ok {a : List Int} (h : badF a = 0) : a.length ≤ 288 ∧ ∀ x ∈ a, okF x := by
  unfold badF at h
  by_cases c : 288 < a.length
  · rw [if_pos c] at h; cases h
  · rw [if_neg c] at h
    by_cases d : ∀ x ∈ a, okF x
    · exact ⟨by omega, d⟩
    · rw [if_neg d] at h; cases h
theorem build_few_loop (n : Nat) (hn : n ≤ 288) (S : List Int) : ∀ (R : List Int) (k : Nat) (D : List Int) (f : Nat → Nat), S = D ++ R → R.length < k → S.length ≤ 288 → (∀ x ∈ R, 0 ≤ x ∧ x < (n : Int)) →
    build_few.l1 k (lf n f) (D.length : Int) S = some (lf n (fun i => if (i : Int) ∈ R then 1 else f i)) := by
  intro R
  induction R with
  | nil =>
    intro k D f e hk hS hR
    obtain ⟨k, rfl⟩ : ∃ q, k = q + 1 := ⟨k - 1, by omega⟩
    subst e
    rw [build_few.l1, if_neg (by simp)]
    congr 1
  | cons x R ih =>
    intro k D f e hk hS hR
    obtain ⟨k, rfl⟩ : ∃ q, k = q + 1 := ⟨k - 1, by omega⟩
    simp only [List.length_cons] at hk
    have hx := hR x (by simp)
    obtain ⟨s, rfl⟩ : ∃ s : Nat, x = s := ⟨x.toNat, by omega⟩
    have hat : S[D.length]? = some (s : Int) := by rw [e, List.getElem?_append_right (Nat.le_refl _), Nat.sub_self]; rfl
    have hlt := lt_of_at hat
    have key := ih k (D ++ [(s : Int)]) (fun i => if i = s then 1 else f i) (by rw [e]; simp) (by omega) hS (fun y hy => hR y (by simp [hy]))
    rw [build_few.l1, if_pos (by omega), gd_pos (by omega), bnd_eq, rd_at hat, gd_pos (by rw [lf_length]; exact hx), bnd_eq, Int.toNat_natCast]
    rw [show (1 : Int) = ((1 : Nat) : Int) from rfl, lf_set, show ((1 : Nat) : Int) = 1 from rfl, inc_i (by omega)]
    simp only [List.length_append, List.length_cons, List.length_nil, Nat.zero_add] at key
    rw [key]
    congr 1
    refine lf_congr fun i _ => ?_
    by_cases c : (i : Int) ∈ R
    · rw [if_pos c, if_pos (by simp [c])]
    · rw [if_neg c]
      by_cases d : i = s
      · subst d; rw [if_pos rfl, if_pos (by simp)]
      · rw [if_neg d, if_neg (by simp [c]; omega)]
theorem build_few_spec (n : Nat) (hn : n ≤ 288) (S : List Int) (hS : S.length ≤ 288) (h : ∀ x ∈ S, 0 ≤ x ∧ x < (n : Int)) : build_few.f (n : Int) S = some (lf n (fun i => if (i : Int) ∈ S then 1 else 0)) := by
  have key := build_few_loop n hn S S FU [] (fun _ => 0) rfl (by rw [FU_eq]; omega) hS h
  rw [← lf_zero] at key
  have key' : build_few.l1 FU (List.replicate n (0 : Int)) 0 S = _ := key
  rw [build_few.f, gd_pos (by omega), bnd_eq, Int.toNat_natCast, key']
  rfl

theorem used_at {a : List Int} (ha : ∀ x ∈ a, okF x) {i : Nat} (hi : i < a.length) : 0 ≤ rd a (i : Int) ∧ rd a (i : Int) ≤ 4294967296 := by
  rw [rd_at (List.getElem?_eq_getElem hi)]
  have := ha _ (List.getElem_mem hi)
  unfold okF at this; omega

theorem rdp_at {α : Type} (z : α) {l : List α} {i : Nat} {x : α} (h : l[i]? = some x) : rdp z l (i : Int) = x := by
  unfold rdp; rw [Int.toNat_natCast, List.getD_eq_getElem?_getD, h]; rfl
theorem rdp_mid {α : Type} (z : α) (A B : List α) (x : α) {i : Int} (h : i = (A.length : Int)) : rdp z (A ++ x :: B) i = x := by
  subst h; exact rdp_at z (by rw [List.getElem?_append_right (Nat.le_refl _), Nat.sub_self]; rfl)

theorem build_packages_loop (N : Nat) : ∀ (l : List Coin) (k : Nat) (P : List Co) (acc : List Co), l.length ≤ N → N < k → P.length + l.length ≤ 1000000 → acc.length + l.length ≤ 1000000 → (∀ c ∈ l, c.wt ≤ 2305843009213693952) →
    build_packages.l1 k acc (P.length : Int) (P ++ l.map toCo) = some (acc ++ (packs l).map toCo) := by
  induction N with
  | zero =>
    intro l k P acc hN hk hl ha hw
    obtain ⟨k, rfl⟩ : ∃ q, k = q + 1 := ⟨k - 1, by omega⟩
    obtain rfl := List.eq_nil_of_length_eq_zero (by omega : l.length = 0)
    rw [build_packages.l1, inc_i (by omega), if_neg (by simp <;> omega), packs]
    · simp
    · intro a b l h; cases h
  | succ N ih =>
    intro l k P acc hN hk hl ha hw
    obtain ⟨k, rfl⟩ : ∃ q, k = q + 1 := ⟨k - 1, by omega⟩
    cases l with
    | nil =>
      rw [build_packages.l1, inc_i (by omega), if_neg (by simp <;> omega), packs]
      · simp
      · intro a b l h; cases h
    | cons a l =>
      cases l with
      | nil =>
        rw [build_packages.l1, inc_i (by omega), if_neg (by simp <;> omega), packs]
        · simp
        · intro a b l h; cases h
      | cons b l =>
        simp only [List.length_cons] at hN hl ha
        have ha1 := hw a (by simp <;> omega)
        have hb1 := hw b (by simp <;> omega)
        have r1 : rdp (Co.leaf 0 0) (P ++ (a :: b :: l).map toCo) (P.length : Int) = toCo a := rdp_mid _ P _ _ rfl
        have r2 : rdp (Co.leaf 0 0) (P ++ (a :: b :: l).map toCo) ((P.length + 1 : Nat) : Int) = toCo b := by
          have := rdp_mid (Co.leaf 0 0) (P ++ [toCo a]) (l.map toCo) (toCo b) (i := ((P.length + 1 : Nat) : Int)) (by simp <;> omega)
          rw [← this]; simp
        have e2 : IntKind.i64.wrap ((P.length : Int) + 2) = ((P.length + 2 : Nat) : Int) := by rw [wr_i64 (by omega)]; rfl
        have ew : IntKind.i64.wrap ((a.wt : Int) + (b.wt : Int)) = ((a.wt + b.wt : Nat) : Int) := by rw [wr_i64 (by omega)]; rfl
        have key := ih l k (P ++ [toCo a, toCo b]) (acc ++ [toCo (.pack a b)]) (by omega) (by omega) (by simp <;> omega) (by simp <;> omega) (fun c hc => hw c (by simp [hc]))
        rw [build_packages.l1, inc_i (by omega), if_pos (by simp <;> omega), gd_pos (by simp <;> omega), gd_pos (by simp <;> omega), r1, r2, toCo_w, toCo_w, ew, bnd_eq, gd_pos (by simp <;> omega), e2, bnd_eq]
        simp only [List.length_append, List.length_cons, List.length_nil, Nat.zero_add, List.append_assoc, List.cons_append, List.nil_append] at key
        rw [packs, List.map_cons, List.map_cons, List.map_cons]
        refine key.trans ?_
        simp
theorem build_packages_spec (l : List Coin) (hl : l.length ≤ 500000) (hw : ∀ c ∈ l, c.wt ≤ 2305843009213693952) : build_packages.f (l.map toCo) = some ((packs l).map toCo) := by
  have key := build_packages_loop l.length l FU [] [] (Nat.le_refl _) (by rw [FU_eq]; omega) (by simp <;> omega) (by simp <;> omega) hw
  have key' : build_packages.l1 FU ([] : List Co) 0 (l.map toCo) = _ := key
  rw [build_packages.f, key']
  rfl
theorem build_merged_loop (N : Nat) : ∀ (p q : List Coin) (k : Nat) (acc : List Co), p.length + q.length ≤ N → N < k → acc.length + p.length + q.length ≤ 1000000 →
    build_merged.l1 k (p.map toCo) (q.map toCo) acc = some (acc ++ (mrg p q).map toCo) := by
  induction N with
  | zero =>
    intro p q k acc hN hk hl
    obtain ⟨k, rfl⟩ : ∃ j, k = j + 1 := ⟨k - 1, by omega⟩
    obtain rfl := List.eq_nil_of_length_eq_zero (by omega : p.length = 0)
    obtain rfl := List.eq_nil_of_length_eq_zero (by omega : q.length = 0)
    rw [build_merged.l1, if_neg (by simp <;> omega), mrg_nil]
    simp
  | succ N ih =>
    intro p q k acc hN hk hl
    obtain ⟨k, rfl⟩ : ∃ j, k = j + 1 := ⟨k - 1, by omega⟩
    have left : ∀ (a : Coin) (p : List Coin), (a :: p).length + q.length ≤ N + 1 → acc.length + (a :: p).length + q.length ≤ 1000000 → (gd ((0 : Int) ≤ 0 ∧ 0 < (((a :: p).map toCo).length : Int)) (gd ((0 : Int) ≤ 1 ∧ 1 ≤ (((a :: p).map toCo).length : Int)) (bnd (acc ++ [toCo a]) fun l2521 => gd ((l2521.length : Int) * 24 ≤ 140737488355328) (some ((((a :: p).map toCo).drop (1 : Int).toNat), q.map toCo, l2521))))) = some (p.map toCo, q.map toCo, acc ++ [toCo a]) := by
      intro a p h1 h2
      simp only [List.length_cons] at h2
      rw [gd_pos (by simp <;> omega), gd_pos (by simp <;> omega), bnd_eq, gd_pos (by simp <;> omega)]
      rfl
    have right : ∀ (p : List Coin) (b : Coin) (q : List Coin), p.length + (b :: q).length ≤ N + 1 → acc.length + p.length + (b :: q).length ≤ 1000000 → (gd ((0 : Int) ≤ 0 ∧ 0 < (((b :: q).map toCo).length : Int)) (gd ((0 : Int) ≤ 1 ∧ 1 ≤ (((b :: q).map toCo).length : Int)) (bnd (acc ++ [toCo b]) fun l2578 => gd ((l2578.length : Int) * 24 ≤ 140737488355328) (some (p.map toCo, (((b :: q).map toCo).drop (1 : Int).toNat), l2578))))) = some (p.map toCo, q.map toCo, acc ++ [toCo b]) := by
      intro p b q h1 h2
      simp only [List.length_cons] at h2
      rw [gd_pos (by simp <;> omega), gd_pos (by simp <;> omega), bnd_eq, gd_pos (by simp <;> omega)]
      rfl
    cases q with
    | nil =>
      cases p with
      | nil => rw [build_merged.l1, if_neg (by simp <;> omega), mrg_nil]; simp
      | cons a p =>
        have ra : rdp (Co.leaf 0 0) ((a :: p).map toCo) 0 = toCo a := rdp_at _ (i := 0) rfl
        rw [build_merged.l1, if_pos (by simp <;> omega), if_pos (by simp <;> omega), ra]
        simp only [Option.bind_some]
        rw [if_pos trivial, left a p hN hl]
        simp only [Option.bind_some]
        simp only [List.length_cons, List.length_nil] at hN hl
        rw [ih p [] k (acc ++ [toCo a]) (by simp <;> omega) (by omega) (by simp <;> omega), mrg_nil', mrg_nil']
        simp
    | cons b q =>
      have ne : ¬ ((((b :: q).map toCo).length : Int) = 0) := by simp; omega
      cases p with
      | nil =>
        have rb : rdp (Co.leaf 0 0) ((b :: q).map toCo) 0 = toCo b := rdp_at _ (i := 0) rfl
        rw [build_merged.l1, if_pos (by simp <;> omega), if_neg ne, if_neg (by simp <;> omega), rb]
        simp only [Option.bind_some]
        rw [if_neg (by decide), right [] b q hN hl]
        simp only [Option.bind_some]
        simp only [List.length_cons, List.length_nil] at hN hl
        rw [ih [] q k (acc ++ [toCo b]) (by simp <;> omega) (by omega) (by simp <;> omega), mrg_nil, mrg_nil]
        simp
      | cons a p =>
        have ra : rdp (Co.leaf 0 0) ((a :: p).map toCo) 0 = toCo a := rdp_at _ (i := 0) rfl
        have rb : rdp (Co.leaf 0 0) ((b :: q).map toCo) 0 = toCo b := rdp_at _ (i := 0) rfl
        rw [build_merged.l1, if_pos (by simp <;> omega), if_neg ne, if_pos (by simp <;> omega), gd_pos (by simp <;> omega), gd_pos (by simp <;> omega), ra, rb, toCo_w, toCo_w]
        simp only [Option.bind_some]
        by_cases c : a.wt ≤ b.wt
        · rw [decide_eq_true (by omega), if_pos rfl, left a p hN hl]
          simp only [Option.bind_some]
          simp only [List.length_cons] at hN hl
          rw [ih p (b :: q) k (acc ++ [toCo a]) (by simp <;> omega) (by omega) (by simp <;> omega), mrg_cons, if_pos c]
          simp
        · rw [decide_eq_false (by omega), if_neg (by decide), right (a :: p) b q hN hl]
          simp only [Option.bind_some]
          simp only [List.length_cons] at hN hl
          rw [ih (a :: p) q k (acc ++ [toCo b]) (by simp <;> omega) (by omega) (by simp <;> omega), mrg_cons, if_neg c]
          simp
theorem build_merged_spec (p q : List Coin) (hl : p.length + q.length ≤ 500000) : build_merged.f (p.map toCo) (q.map toCo) = some ((mrg p q).map toCo) := by
  have key := build_merged_loop (p.length + q.length) p q FU [] (Nat.le_refl _) (by rw [FU_eq]; omega) (by simp <;> omega)
  rw [build_merged.f, key]
  rfl
theorem into_spec (n : Nat) (c : Coin) : ∀ f : Nat → Nat, c.inn n → (∀ i, f i + c.size ≤ 4611686018427387904) → build_coin_into.f (toCo c) (lf n f) = some (lf n fun i => f i + c.cnt i) := by
  induction c with
  | leaf w s =>
    intro f h hf
    have hs : s < n := h
    have := hf s
    simp only [Coin.size] at this
    rw [toCo, build_coin_into.f, gd_pos (by rw [lf_length]; omega), lf_rd hs, Int.toNat_natCast]
    have e : IntKind.i64.wrap ((f s : Int) + 1) = ((f s + 1 : Nat) : Int) := by rw [wr_i64 (by omega)]; rfl
    rw [e, lf_set]
    congr 1
    refine lf_congr fun i _ => ?_
    simp only [Coin.cnt]
    by_cases c : i = s
    · subst c; simp
    · rw [if_neg c, if_neg (fun e => c e.symm)]; rfl
  | pack a b iha ihb =>
    intro f h hf
    simp only [Coin.size] at hf
    rw [toCo, build_coin_into.f, iha f h.1 (fun i => by have := hf i; omega)]
    simp only [Option.bind_some]
    rw [ihb _ h.2 (fun i => by have := hf i; have := cnt_le i a; omega)]
    congr 1
    refine lf_congr fun i _ => ?_
    simp only [Coin.cnt]; omega

theorem lim_leaves (a : List Int) (ha : a.length ≤ 288) (hok : ∀ x ∈ a, okF x) (S : List Int) (hS : ∀ x ∈ S, ∃ i : Nat, x = i ∧ i < a.length ∧ 0 < rd a x) (hl : S.length ≤ 288) : ∀ (R : List Int) (k : Nat) (D : List Int), S = D ++ R → R.length < k →
    build_Limited.l1 k ((clS a D).map toCo) (D.length : Int) a S = some ((clS a S).map toCo) := by
  intro R
  induction R with
  | nil =>
    intro k D e hk
    obtain ⟨k, rfl⟩ : ∃ q, k = q + 1 := ⟨k - 1, by omega⟩
    subst e
    rw [build_Limited.l1, if_neg (by simp), List.append_nil]
  | cons x R ih =>
    intro k D e hk
    obtain ⟨k, rfl⟩ : ∃ q, k = q + 1 := ⟨k - 1, by omega⟩
    simp only [List.length_cons] at hk
    have hat : S[D.length]? = some x := by rw [e, List.getElem?_append_right (Nat.le_refl _), Nat.sub_self]; rfl
    have hlt := lt_of_at hat
    obtain ⟨i, rfl, hi, hp⟩ := hS x (List.mem_of_getElem? hat)
    have key := ih k (D ++ [(i : Int)]) (by rw [e]; simp) (by omega)
    have e1 : Co.leaf (rd a (i : Int)) (i : Int) = toCo (.leaf (rd a (i : Int)).toNat (Int.toNat (i : Int))) := by
      rw [toCo, Int.toNat_of_nonneg (by omega), Int.toNat_natCast]
    have e2 : (clS a D).map toCo ++ [Co.leaf (rd a (i : Int)) (i : Int)] = (clS a (D ++ [(i : Int)])).map toCo := by rw [e1]; simp [clS]
    have el : ((clS a (D ++ [(i : Int)])).map toCo).length = D.length + 1 := by simp [clS]
    rw [build_Limited.l1, if_pos (by omega), gd_pos (by omega), bnd_eq, rd_at hat, gd_pos (by omega), bnd_eq, e2, gd_pos (by rw [el]; omega), inc_i (by omega)]
    simp only [List.length_append, List.length_cons, List.length_nil, Nat.zero_add] at key
    exact key
theorem lim_rounds (n : Nat) (L : List Coin) (hL : L.length ≤ 288) (hf : ∀ c ∈ L, Fine n 4294967296 1 c) (lim : Nat) (hlim : lim ≤ 15) (m : Nat) : ∀ (k r : Nat), r + m + 1 = lim → m < k →
    build_Limited.l3 k ((prow L r).map toCo) (r : Int) (lim : Int) (L.map toCo) = some ((prow L (lim - 1)).map toCo) := by
  induction m with
  | zero =>
    intro k r hr hk
    obtain ⟨k, rfl⟩ : ∃ q, k = q + 1 := ⟨k - 1, by omega⟩
    have e : IntKind.i64.wrap ((lim : Int) - 1) = ((lim - 1 : Nat) : Int) := by
      have := wr_sub (a := lim) (b := 1) (by omega) (by omega)
      rwa [show ((1 : Nat) : Int) = 1 from rfl] at this
    rw [build_Limited.l3, e, if_neg (by omega), show r = lim - 1 by omega]
  | succ m ih =>
    intro k r hr hk
    obtain ⟨k, rfl⟩ : ∃ q, k = q + 1 := ⟨k - 1, by omega⟩
    have e : IntKind.i64.wrap ((lim : Int) - 1) = ((lim - 1 : Nat) : Int) := by
      have := wr_sub (a := lim) (b := 1) (by omega) (by omega)
      rwa [show ((1 : Nat) : Int) = 1 from rfl] at this
    have hs := prow_short (L := L) r
    have hw : ∀ c ∈ prow L r, c.wt ≤ 2305843009213693952 := fun c hc => by
      have h1 := (prow_fine hf r c hc).light
      have h2 : 2 ^ r ≤ 2 ^ 15 := Nat.pow_le_pow_right (by omega) (by omega)
      have h3 : 4294967296 * 2 ^ r ≤ 4294967296 * 2 ^ 15 := Nat.mul_le_mul_left _ h2
      omega
    rw [build_Limited.l3, e, if_pos (by omega), build_packages_spec _ (by omega) hw]
    simp only [Option.bind_some]
    rw [build_merged_spec _ _ (by rw [packs_length]; omega)]
    simp only [Option.bind_some]
    rw [inc_i (by omega)]
    exact ih k (r + 1) (by omega) (by omega)
theorem lim_into (n : Nat) (z16 : List Int) (u : Nat) (hz : z16.length = u) (hu : 1 ≤ u) (hu2 : u ≤ 288) (row : List Coin) (hr : 2 * u - 2 ≤ row.length) (hf : ∀ c ∈ row, c.inn n ∧ c.size ≤ 65536) : ∀ (R : List Coin) (k : Nat) (D : List Coin), row.take (2 * u - 2) = D ++ R → R.length < k →
    build_Limited.l5 k (lf n fun i => csum i D) (D.length : Int) z16 (row.map toCo) = some (lf n fun i => csum i (row.take (2 * u - 2))) := by
  have e : IntKind.i64.wrap (IntKind.i64.wrap (2 * (z16.length : Int)) - 2) = ((2 * u - 2 : Nat) : Int) := by
    rw [hz, wr_i64 (x := 2 * (u : Int)) (by omega), wr_i64 (by omega)]; omega
  have hlen : (row.take (2 * u - 2)).length = 2 * u - 2 := by rw [List.length_take]; omega
  intro R
  induction R with
  | nil =>
    intro k D h hk
    obtain ⟨k, rfl⟩ : ∃ q, k = q + 1 := ⟨k - 1, by omega⟩
    rw [List.append_nil] at h
    rw [build_Limited.l5, e, Int.toNat_natCast, ← List.map_take, h, if_neg (by simp)]
  | cons c R ih =>
    intro k D h hk
    obtain ⟨k, rfl⟩ : ∃ q, k = q + 1 := ⟨k - 1, by omega⟩
    simp only [List.length_cons] at hk
    have hD : D.length + (R.length + 1) = 2 * u - 2 := by rw [← hlen, h]; simp
    have key := ih k (D ++ [c]) (by rw [h]; simp) (by omega)
    have r : rdp (Co.leaf 0 0) ((row.take (2 * u - 2)).map toCo) (D.length : Int) = toCo c := by
      rw [h, List.map_append, List.map_cons]; exact rdp_mid _ _ _ _ (by simp)
    have hc : c ∈ row := List.mem_of_mem_take (i := 2 * u - 2) (by rw [h]; simp)
    have hb : ∀ i, csum i D + c.size ≤ 4611686018427387904 := fun i => by
      have h1 := csum_le i (m := 65536) (l := D) (fun d hd => (hf d (List.mem_of_mem_take (i := 2 * u - 2) (by rw [h]; simp [hd]))).2)
      have h2 := (hf c hc).2
      have h3 : D.length * 65536 ≤ 1000 * 65536 := Nat.mul_le_mul_right _ (by omega)
      omega
    rw [build_Limited.l5, e, Int.toNat_natCast, ← List.map_take, if_pos (by rw [h]; simp <;> omega), gd_pos (by rw [h]; simp <;> omega), r, into_spec n c _ (hf c hc).1 hb]
    simp only [Option.bind_some]
    rw [inc_i (by omega)]
    simp only [List.length_append, List.length_cons, List.length_nil, Nat.zero_add] at key
    refine Eq.trans ?_ key
    congr 1
    refine lf_congr fun i _ => ?_
    rw [csum_append, csum_cons, csum_nil]; omega
theorem shl1 (lim : Nat) (h : lim ≤ 15) : shl .i64 1 (IntKind.u64.wrap (lim : Int)) = ((2 ^ lim : Nat) : Int) := by
  rw [wr_u64 (by omega)]; exact shl_one lim (by omega)
theorem build_Limited_spec (a : List Int) (limit : Int) (hwl : -9223372036854775808 ≤ limit ∧ limit ≤ 9223372036854775807) : build_Limited.f a limit = some (if limit < 1 ∨ 15 < limit then ([], 1) else if badF a ≠ 0 then ([], badF a) else if 2 ^ limit.toNat < (uS a).length then ([], 60) else if (uS a).length < 2 then (fewL a, 0) else (limL a limit.toNat, 0)) := by
  rw [build_Limited.f]
  by_cases c1 : limit < 1 ∨ 15 < limit
  · rw [if_pos c1, if_pos c1]
  · obtain ⟨lim, rfl⟩ : ∃ m : Nat, limit = m := ⟨limit.toNat, by omega⟩
    rw [if_neg c1, if_neg c1, build_used_spec]
    simp only [Option.bind_some, Int.toNat_natCast]
    by_cases c2 : badF a = 0
    · obtain ⟨b1, b2⟩ := badF_ok c2
      have hu := uS_len a
      have c2' : ¬ (badF a ≠ 0) := fun f => f c2
      rw [if_pos c2, if_neg c2', if_neg c2', gd_pos (by rw [wr_u64 (by omega)]; omega), shl1 lim (by omega)]
      by_cases c3 : 2 ^ lim < (uS a).length
      · rw [if_pos (by omega), if_pos c3]
      · rw [if_neg (by omega), if_neg c3]
        by_cases c4 : (uS a).length < 2
        · rw [if_pos (by omega), if_pos c4, build_few_spec a.length b1 (uS a) (by omega) (fun x hx => by obtain ⟨i, rfl, hi, _⟩ := uS_mem hx; omega)]
          rfl
        · rw [if_neg (by omega), if_neg c4, slices_Clone_int_int.f, gd_pos (by omega)]
          simp only [Option.bind_some]
          obtain ⟨S, s1, s2, s3⟩ := stable_spec a (uS a) (by omega) (fun x hx => by obtain ⟨i, rfl, hi, _⟩ := uS_mem hx; exact ⟨by omega, by omega⟩) (uS_rising a)
          obtain rfl : S = srt a := kle_one (s2.trans (srt_perm a).symm) s3 (srt_sorted a)
          have hb : ∀ x ∈ a, 0 ≤ x ∧ x ≤ 4294967296 := fun x hx => by have := b2 x hx; unfold okF at this; omega
          have fine := clS_fine hb
          have len := srt_len a
          have k1 := lim_leaves a b1 b2 (srt a) (fun x hx => srt_mem hx) (by omega) (srt a) FU [] rfl (by rw [FU_eq]; omega)
          have k1' : build_Limited.l1 FU ([] : List Co) 0 a (srt a) = _ := k1
          have k2 := lim_rounds a.length (clS a (srt a)) (by rw [clS_length]; omega) fine lim (by omega) (lim - 1) FU 0 (by omega) (by rw [FU_eq]; omega)
          have k2' : build_Limited.l3 FU ((clS a (srt a)).map toCo) 0 (lim : Int) ((clS a (srt a)).map toCo) = some ((rowP a lim).map toCo) := k2
          rw [s1]
          simp only [Option.bind_some]
          rw [k1']
          simp only [Option.bind_some]
          rw [k2']
          simp only [Option.bind_some]
          have hrow : ∀ c ∈ rowP a lim, c.inn a.length ∧ c.size ≤ 65536 := fun c hc => by
            have h1 := prow_fine fine (lim - 1) c hc
            have h2 : 2 ^ (lim - 1) ≤ 2 ^ 15 := Nat.pow_le_pow_right (by omega) (by omega)
            exact ⟨h1.inn, Nat.le_trans h1.size (by omega)⟩
          have hlong : 2 * (uS a).length - 2 ≤ (rowP a lim).length := by
            have e : clS a (srt a) = lvs (fun j => (rd a ((srt a).getD j 0)).toNat) (fun j => ((srt a).getD j 0).toNat) (uS a).length := by
              unfold clS lvs
              rw [← len]
              refine List.ext_getElem (by simp) fun i h1 h2 => ?_
              simp at h1
              simp [h1]
            unfold rowP
            rw [e]
            exact prow_enough (by omega) (by rw [show lim - 1 + 1 = lim by omega]; omega)
          have e5 : IntKind.i64.wrap (IntKind.i64.wrap (2 * ((uS a).length : Int)) - 2) = ((2 * (uS a).length - 2 : Nat) : Int) := by
            rw [wr_i64 (x := 2 * ((uS a).length : Int)) (by omega), wr_i64 (by omega)]; omega
          have k3 := lim_into a.length (uS a) (uS a).length rfl (by omega) (by omega) (rowP a lim) hlong hrow ((rowP a lim).take (2 * (uS a).length - 2)) FU [] rfl (by rw [FU_eq, List.length_take]; omega)
          have k3' : build_Limited.l5 FU (lf a.length fun _ => 0) 0 (uS a) ((rowP a lim).map toCo) = _ := k3
          rw [gd_pos (by omega), bnd_eq, lf_zero, e5, gd_pos (by rw [List.length_map]; omega), k3']
          rfl
    · have c2' : badF a ≠ 0 := c2
      rw [if_neg c2, if_pos c2', if_pos c2']

theorem law6_uses_spec (a : List Int) (h : a.length ≤ 288) : valiselaw6_uses.f a = some ((uS a).length : Int) := by
  have loop : ∀ (m k i : Nat), i + m = a.length → m < k → valiselaw6_uses.l1 k ((upS a i).length : Int) (i : Int) a = some ((uS a).length : Int) := by
    intro m
    induction m with
    | zero =>
      intro k i hi hk
      obtain ⟨k, rfl⟩ : ∃ q, k = q + 1 := ⟨k - 1, by omega⟩
      rw [valiselaw6_uses.l1, if_neg (by omega), show i = a.length by omega]
      rfl
    | succ m ih =>
      intro k i hi hk
      obtain ⟨k, rfl⟩ : ∃ q, k = q + 1 := ⟨k - 1, by omega⟩
      have hu := upS_len a i
      have key := ih k (i + 1) (by omega) (by omega)
      rw [upS_succ] at key
      rw [valiselaw6_uses.l1, if_pos (by omega), gd_pos (by omega)]
      by_cases p : 0 < rd a (i : Int)
      · rw [if_pos p] at key
        rw [if_pos p, bnd_eq, inc_i (by omega)]
        simp only [Option.bind_some]
        rw [bnd_eq, inc_i (by omega)]
        simp only [List.length_append, List.length_cons, List.length_nil, Nat.zero_add] at key
        exact key
      · rw [if_neg p, List.append_nil] at key
        rw [if_neg p]
        simp only [Option.bind_some]
        rw [bnd_eq, inc_i (by omega)]
        exact key
  have key := loop a.length FU 0 (by omega) (by rw [FU_eq]; omega)
  have key' : valiselaw6_uses.l1 FU 0 0 a = _ := key
  rw [valiselaw6_uses.f, key']
  rfl
def lenN (b : List Int) (i : Nat) : Nat := (rd b (i : Int)).toNat
def keeps (a b : List Int) (limit : Int) : Prop := b.length = a.length ∧ (∀ i, used a i → 1 ≤ rd b (i : Int) ∧ rd b (i : Int) ≤ limit ∧ rd b (i : Int) ≤ 60) ∧ sumU a (fun i => 2 ^ (60 - lenN b i)) ≤ 2 ^ 60
def upTo (a : List Int) (F : Nat → Nat) (m : Nat) : Nat := sumN m fun i => if 0 < rd a (i : Int) then F i else 0
theorem upTo_mono (a : List Int) (F : Nat → Nat) {m n : Nat} (h : m ≤ n) : upTo a F m ≤ upTo a F n := by
  induction n with
  | zero => rw [show m = 0 by omega]; exact Nat.le_refl _
  | succ n ih =>
    by_cases e : m = n + 1
    · subst e; exact Nat.le_refl _
    · have := ih (by omega)
      unfold upTo at *
      simp only [sumN]; omega
theorem law6_kraft_spec (a b : List Int) (h : a.length ≤ 288) (hok : ∀ x ∈ a, okF x) (limit : Int) (hb : ∀ x ∈ b, -9223372036854775808 ≤ x ∧ x ≤ 9223372036854775807) :
    (keeps a b limit ∧ valiselaw6_kraft.f a b limit = some ((sumU a (fun i => 2 ^ (60 - lenN b i)) : Nat) : Int)) ∨ (¬ keeps a b limit ∧ valiselaw6_kraft.f a b limit = some (-1)) := by
  by_cases hl : b.length = a.length
  · have loop : ∀ (m k i : Nat), i + m = a.length → m < k → (∀ j, j < i → 0 < rd a (j : Int) → 1 ≤ rd b (j : Int) ∧ rd b (j : Int) ≤ limit ∧ rd b (j : Int) ≤ 60) → upTo a (fun i => 2 ^ (60 - lenN b i)) i ≤ 2 ^ 60 →
        (keeps a b limit ∧ valiselaw6_kraft.l1 k (upTo a (fun i => 2 ^ (60 - lenN b i)) i : Nat) (i : Int) a b limit = some (.inr ((sumU a (fun i => 2 ^ (60 - lenN b i)) : Nat) : Int))) ∨ (¬ keeps a b limit ∧ valiselaw6_kraft.l1 k (upTo a (fun i => 2 ^ (60 - lenN b i)) i : Nat) (i : Int) a b limit = some (.inl (-1))) := by
      intro m
      induction m with
      | zero =>
        intro k i hi hk h1 h2
        obtain ⟨k, rfl⟩ : ∃ q, k = q + 1 := ⟨k - 1, by omega⟩
        obtain rfl : i = a.length := by omega
        refine .inl ⟨⟨hl, fun j hj => h1 j hj.1 hj.2, h2⟩, ?_⟩
        rw [valiselaw6_kraft.l1, if_neg (by omega)]
        rfl
      | succ m ih =>
        intro k i hi hk h1 h2
        obtain ⟨k, rfl⟩ : ∃ q, k = q + 1 := ⟨k - 1, by omega⟩
        have hr := used_at hok (show i < a.length by omega)
        rw [valiselaw6_kraft.l1, if_pos (by omega), gd_pos (by omega)]
        by_cases c0 : rd a (i : Int) = 0
        · have es : upTo a (fun i => 2 ^ (60 - lenN b i)) (i + 1) = upTo a (fun i => 2 ^ (60 - lenN b i)) i := by
            unfold upTo; simp only [sumN]; rw [if_neg (by omega)]; rfl
          rw [if_pos c0, bnd_eq, inc_i (by omega)]
          have key := ih k (i + 1) (by omega) (by omega) (fun j hj hp => by
            by_cases e : j = i
            · subst e; omega
            · exact h1 j (by omega) hp) (by rw [es]; exact h2)
          rw [es] at key
          exact key
        · rw [if_neg c0, gd_pos (by omega)]
          by_cases c1 : (rd b (i : Int) < 1 ∨ limit < rd b (i : Int)) ∨ 60 < rd b (i : Int)
          · rw [if_pos c1]
            refine .inr ⟨fun hk => ?_, rfl⟩
            have := hk.2.1 i ⟨by omega, by omega⟩
            omega
          · have e1 : rd b (i : Int) = (lenN b i : Int) := by unfold lenN; omega
            have hn : 1 ≤ lenN b i ∧ lenN b i ≤ 60 := by omega
            have ew : IntKind.i64.wrap (60 - rd b (i : Int)) = ((60 - lenN b i : Nat) : Int) := by rw [wr_i64 (by omega)]; omega
            have hp : (2 : Nat) ^ (60 - lenN b i) ≤ 2 ^ 59 := Nat.pow_le_pow_right (by omega) (by omega)
            have es : upTo a (fun i => 2 ^ (60 - lenN b i)) (i + 1) = upTo a (fun i => 2 ^ (60 - lenN b i)) i + 2 ^ (60 - lenN b i) := by
              unfold upTo; simp only [sumN]; rw [if_pos (by omega)]
            have ev : IntKind.i64.wrap ((upTo a (fun i => 2 ^ (60 - lenN b i)) i : Nat) + ((2 ^ (60 - lenN b i) : Nat) : Int)) = ((upTo a (fun i => 2 ^ (60 - lenN b i)) (i + 1) : Nat) : Int) := by
              rw [wr_i64 (by omega), es]; omega
            rw [if_neg c1, ew, wr_u64 (by omega), gd_pos (by omega), shl_one _ (by omega), ev, bnd_eq]
            by_cases c2 : 2 ^ 60 < upTo a (fun i => 2 ^ (60 - lenN b i)) (i + 1)
            · rw [if_pos (by omega)]
              refine .inr ⟨fun hk => ?_, rfl⟩
              have h3 := hk.2.2
              have h4 := upTo_mono a (fun i => 2 ^ (60 - lenN b i)) (show i + 1 ≤ a.length by omega)
              have h5 : upTo a (fun i => 2 ^ (60 - lenN b i)) a.length = sumU a (fun i => 2 ^ (60 - lenN b i)) := rfl
              omega
            · rw [if_neg (by omega), bnd_eq, inc_i (by omega)]
              exact ih k (i + 1) (by omega) (by omega) (fun j hj hp => by
                by_cases e : j = i
                · subst e; omega
                · exact h1 j (by omega) hp) (by omega)
    have key := loop a.length FU 0 (by omega) (by rw [FU_eq]; omega) (fun j hj => by omega) (Nat.zero_le _)
    have e0 : ((upTo a (fun i => 2 ^ (60 - lenN b i)) 0 : Nat) : Int) = 0 := rfl
    rw [e0] at key
    rw [valiselaw6_kraft.f, if_neg (by omega)]
    rcases key with ⟨h1, h2⟩ | ⟨h1, h2⟩
    · have h2' : valiselaw6_kraft.l1 FU 0 0 a b limit = _ := h2
      rw [h2']; exact .inl ⟨h1, rfl⟩
    · have h2' : valiselaw6_kraft.l1 FU 0 0 a b limit = _ := h2
      rw [h2']; exact .inr ⟨h1, rfl⟩
  · rw [valiselaw6_kraft.f, if_pos (by omega)]
    exact .inr ⟨fun h => hl h.1, rfl⟩
theorem law6_good_spec (a b : List Int) (h : a.length ≤ 288) (hok : ∀ x ∈ a, okF x) (limit : Int) (hb : ∀ x ∈ b, -9223372036854775808 ≤ x ∧ x ≤ 9223372036854775807) (hl : b.length = a.length) (h0 : ∀ i, i < a.length → ¬ 0 < rd a (i : Int) → rd b (i : Int) = 0)
    (h1 : (uS a).length = 1 → ∀ i, used a i → rd b (i : Int) = 1) (h2 : 2 ≤ (uS a).length → keeps a b limit ∧ sumU a (fun i => 2 ^ (60 - lenN b i)) = 2 ^ 60) : valiselaw6_good.f a b limit = some true := by
  have hu := uS_len a
  have loop : ∀ (m k i : Nat), i + m = a.length → m < k → valiselaw6_good.l1 k (i : Int) a b ((uS a).length : Int) = some (.inr ()) := by
    intro m
    induction m with
    | zero =>
      intro k i hi hk
      obtain ⟨k, rfl⟩ : ∃ q, k = q + 1 := ⟨k - 1, by omega⟩
      rw [valiselaw6_good.l1, if_neg (by omega)]
    | succ m ih =>
      intro k i hi hk
      obtain ⟨k, rfl⟩ : ∃ q, k = q + 1 := ⟨k - 1, by omega⟩
      have hr := used_at hok (show i < a.length by omega)
      have t1 : (if rd a (i : Int) = 0 then (gd ((0 : Int) ≤ (i : Int) ∧ (i : Int) < (b.length : Int)) (some (decide (rd b (i : Int) ≠ 0)))) else (some false)) = some false := by
        by_cases c : rd a (i : Int) = 0
        · rw [if_pos c, gd_pos (by omega), h0 i (by omega) (by omega)]; rfl
        · rw [if_neg c]
      have t2 : (if (0 < rd a (i : Int)) ∧ (((uS a).length : Int) = 1) then (gd ((0 : Int) ≤ (i : Int) ∧ (i : Int) < (b.length : Int)) (some (decide (rd b (i : Int) ≠ 1)))) else (some false)) = some false := by
        by_cases c : (0 < rd a (i : Int)) ∧ (((uS a).length : Int) = 1)
        · rw [if_pos c, gd_pos (by omega), h1 (by omega) i ⟨by omega, c.1⟩]; rfl
        · rw [if_neg c]
      rw [valiselaw6_good.l1, if_pos (by omega), gd_pos (by omega), t1]
      simp only [Option.bind_some]
      rw [if_neg (by decide), t2]
      simp only [Option.bind_some]
      rw [if_neg (by decide), bnd_eq, inc_i (by omega)]
      exact ih k (i + 1) (by omega) (by omega)
  have key := loop a.length FU 0 (by omega) (by rw [FU_eq]; omega)
  have key' : valiselaw6_good.l1 FU 0 a b ((uS a).length : Int) = _ := key
  rw [valiselaw6_good.f, if_neg (by omega), law6_uses_spec a h]
  simp only [Option.bind_some]
  rw [key']
  simp only [Option.bind_some, onR]
  by_cases c : (uS a).length < 2
  · rw [if_pos (by omega)]; rfl
  · obtain ⟨k1, k2⟩ := h2 (by omega)
    rw [if_neg (by omega)]
    rcases law6_kraft_spec a b h hok limit hb with ⟨_, e⟩ | ⟨n, _⟩
    · rw [e, k2]; rfl
    · exact (n k1).elim

/-- What Limited answers, where it answers. -/
theorem lf_in {n : Nat} {f : Nat → Nat} (h : ∀ i, i < n → f i ≤ 1000) : ∀ x ∈ lf n f, -9223372036854775808 ≤ x ∧ x ≤ 9223372036854775807 := fun x hx => by
  obtain ⟨i, hi, rfl⟩ := List.mem_map.1 hx
  have := h i (List.mem_range.1 hi); omega
theorem lenN_lf {n : Nat} {f : Nat → Nat} {i : Nat} (h : i < n) : lenN (lf n f) i = f i := by unfold lenN; rw [lf_rd h, Int.toNat_natCast]
/-- A list that is best is good. -/
theorem best_good (a : List Int) (h : a.length ≤ 288) (hok : ∀ x ∈ a, okF x) (lim : Nat) (hlim : lim ≤ 60) (hu : 2 ≤ (uS a).length) {L : Nat → Nat} (B : BestCode a lim L) : valiselaw6_good.f a (lf a.length L) (lim : Int) = some true ∧ keeps a (lf a.length L) (lim : Int) := by
  have el := lf_length a.length L
  have hL : ∀ i, i < a.length → L i ≤ 1000 := fun i hi => by
    by_cases c : 0 < rd a (i : Int)
    · have := B.high i ⟨hi, c⟩; omega
    · rw [B.zero i hi c]; omega
  have es : sumU a (fun i => 2 ^ (60 - lenN (lf a.length L) i)) = 2 ^ 60 := by
    rw [← B.full]
    exact sumU_eq fun i hi => by rw [lenN_lf hi.1]
  have hk : keeps a (lf a.length L) (lim : Int) := ⟨el, fun i hi => by
    have h1 := B.low i hi
    have h2 := B.high i hi
    rw [lf_rd hi.1]; omega, Nat.le_of_eq es⟩
  exact ⟨law6_good_spec a _ h hok lim (lf_in hL) el (fun i hi hn => by rw [lf_rd hi, B.zero i hi hn]; rfl) (fun e => by omega) (fun _ => ⟨hk, es⟩), hk⟩
theorem few_good (a : List Int) (h : a.length ≤ 288) (hok : ∀ x ∈ a, okF x) (limit : Int) (hu : (uS a).length < 2) : valiselaw6_good.f a (fewL a) limit = some true := by
  refine law6_good_spec a _ h hok limit (lf_in fun i hi => by split <;> omega) (lf_length _ _) (fun i hi hn => ?_) (fun _ i hi => ?_) (fun e => by omega)
  · rw [fewL, lf_rd hi, if_neg (fun hm => by obtain ⟨j, e, _, hp⟩ := uS_mem hm; exact hn hp)]; rfl
  · rw [fewL, lf_rd hi.1, if_pos (uS_of hi.1 hi.2)]; rfl
theorem few_cost (a : List Int) : costU a (lenN (fewL a)) = costU a (fun _ => 1) := sumU_eq fun i hi => by
  rw [show lenN (fewL a) i = 1 from by rw [fewL, lenN_lf hi.1, if_pos (uS_of hi.1 hi.2)]]
theorem best_cost (a : List Int) (L : Nat → Nat) : costU a (lenN (lf a.length L)) = costU a L := sumU_eq fun i hi => by rw [lenN_lf hi.1]

/-- What Limited answers, where the frequencies may be. -/
theorem limited_good (a : List Int) (h : badF a = 0) (lim : Nat) (h1 : 1 ≤ lim) (h2 : lim ≤ 15) (hl : (uS a).length ≤ 2 ^ lim) : ∃ L : Nat → Nat, build_Limited.f a (lim : Int) = some (lf a.length L, 0) ∧ valiselaw6_good.f a (lf a.length L) (lim : Int) = some true ∧ (∀ i, used a i → 1 ≤ L i ∧ L i ≤ lim) ∧ ((uS a).length < 2 → lf a.length L = fewL a) ∧ (2 ≤ (uS a).length → BestCode a lim L) ∧ (∀ i, i < a.length → L i ≤ 60) ∧
    (2 ≤ (uS a).length → L = limF a lim) ∧ costU a (lenN (lf a.length L)) = costU a L := by
  obtain ⟨b1, b2⟩ := badF_ok h
  have e := build_Limited_spec a (lim : Int) (by omega)
  rw [if_neg (by omega), if_neg (fun f => f h), Int.toNat_natCast, if_neg (by omega)] at e
  by_cases c : (uS a).length < 2
  · rw [if_pos c] at e
    refine ⟨_, e, few_good a b1 b2 lim c, fun i hi => ?_, fun _ => rfl, fun c => by omega, fun i hi => ?_, fun c => by omega, best_cost _ _⟩
    · rw [if_pos (uS_of hi.1 hi.2)]; omega
    · show (if (i : Int) ∈ uS a then 1 else 0) ≤ 60
      split <;> omega
  · rw [if_neg c, limL_eq] at e
    obtain ⟨B, _⟩ := lim_core a lim h1 (by omega) (by omega) (by omega)
    refine ⟨limF a lim, e, (best_good a b1 b2 lim (by omega) (by omega) B).1, fun i hi => ⟨B.low i hi, B.high i hi⟩, fun c => by omega, fun _ => B, fun i hi => ?_, fun _ => rfl, best_cost _ _⟩
    by_cases d : 0 < rd a (i : Int)
    · have := B.high i ⟨hi, d⟩; omega
    · rw [B.zero i hi d]; omega

theorem sumU_swap (a : List Int) {s t : Nat} (hs : used a s) (ht : used a t) (hst : s ≠ t) (F G : Nat → Nat) (h : ∀ i, i ≠ s → i ≠ t → G i = F i) : sumU a G + F s + F t = sumU a F + G s + G t := by
  have h1 := sumN_turn (n := a.length) (f := fun i => if 0 < rd a (i : Int) then F i else 0) (g := fun i => if 0 < rd a (i : Int) then (if i = s then G s else F i) else 0) (i := s) hs.1 (fun j _ hj => by simp only [if_neg hj])
  have h2 := sumN_turn (n := a.length) (f := fun i => if 0 < rd a (i : Int) then (if i = s then G s else F i) else 0) (g := fun i => if 0 < rd a (i : Int) then G i else 0) (i := t) ht.1 (fun j _ hj => by
    by_cases c : j = s
    · subst c; simp
    · simp only [if_neg c]; rw [h j c hj])
  simp only [if_pos hs.2, eq_self, if_true] at h1
  simp only [if_pos ht.2, if_neg (fun e : t = s => hst e.symm)] at h2
  unfold sumU
  omega
theorem best_order {a : List Int} {lim : Nat} {L : Nat → Nat} (B : BestCode a lim L) {s t : Nat} (hs : used a s) (ht : used a t) (hw : rd a (t : Int) < rd a (s : Int)) : L s ≤ L t := by
  apply Nat.le_of_not_lt
  intro hlt
  have hst : s ≠ t := fun e => by subst e; omega
  have k := sumU_swap a hs ht hst (fun i => 2 ^ (60 - L i)) (fun i => 2 ^ (60 - (if i = s then L t else if i = t then L s else L i))) (fun i h1 h2 => by simp only [if_neg h1, if_neg h2])
  have c := sumU_swap a hs ht hst (fun i => (rd a (i : Int)).toNat * L i) (fun i => (rd a (i : Int)).toNat * (if i = s then L t else if i = t then L s else L i)) (fun i h1 h2 => by simp only [if_neg h1, if_neg h2])
  simp only [if_pos, if_neg (fun e : t = s => hst e.symm)] at k c
  have hb := B.best (fun i => if i = s then L t else if i = t then L s else L i) (fun i hi => by
    show (if i = s then L t else if i = t then L s else L i) ≤ lim
    have := B.high s hs
    have := B.high t ht
    have := B.high i hi
    split
    · omega
    · split <;> omega) (by have := B.full; omega)
  have hb : sumU a (fun i => (rd a (i : Int)).toNat * L i) ≤ sumU a (fun i => (rd a (i : Int)).toNat * (if i = s then L t else if i = t then L s else L i)) := hb
  have hwp := hs.2
  have hwt := ht.2
  obtain ⟨p, hp⟩ : ∃ p, (rd a (s : Int)).toNat = (rd a (t : Int)).toNat + (p + 1) := ⟨(rd a (s : Int)).toNat - (rd a (t : Int)).toNat - 1, by omega⟩
  obtain ⟨q, hq⟩ : ∃ q, L s = L t + (q + 1) := ⟨L s - L t - 1, by omega⟩
  rw [hp, hq] at c
  simp only [Nat.add_mul, Nat.mul_add, Nat.mul_one, Nat.one_mul] at c
  rw [hq] at hb
  omega
theorem few_one {a : List Int} {L : Nat → Nat} (h : lf a.length L = fewL a) {i : Nat} (hi : used a i) : L i = 1 := by
  have h1 : rd (lf a.length L) (i : Int) = (L i : Int) := lf_rd hi.1
  rw [h] at h1
  have h2 : rd (fewL a) (i : Int) = ((if (i : Int) ∈ uS a then 1 else 0 : Nat) : Int) := lf_rd hi.1
  rw [if_pos (uS_of hi.1 hi.2)] at h2
  omega
theorem lim_tie {a : List Int} {lim : Nat} (h1 : 1 ≤ lim) (h2 : lim ≤ 60) (hu : 2 ≤ (uS a).length) (hl : (uS a).length ≤ 2 ^ lim) {s t : Nat} (hs : used a s) (ht : used a t) (hw : rd a (s : Int) = rd a (t : Int)) (hst : s < t) : limF a lim t ≤ limF a lim s := by
  obtain ⟨i, hi, rfl⟩ := syS_of hs
  obtain ⟨j, hj, rfl⟩ := syS_of ht
  refine (lim_core a lim h1 h2 hu hl).2 i j ?_ hj
  apply Nat.le_of_not_lt
  intro hji
  have := syS_kle hi hji
  unfold kle at this
  omega

theorem zero_of {a : List Int} {lim : Nat} {L : Nat → Nat} (l1 : (uS a).length < 2 → lf a.length L = fewL a) (l2 : 2 ≤ (uS a).length → BestCode a lim L) {i : Nat} (hi : i < a.length) (hn : ¬ 0 < rd a (i : Int)) : L i = 0 := by
  by_cases c : (uS a).length < 2
  · have h1 : rd (lf a.length L) (i : Int) = (L i : Int) := lf_rd hi
    rw [l1 c] at h1
    have h2 : rd (fewL a) (i : Int) = ((if (i : Int) ∈ uS a then 1 else 0 : Nat) : Int) := lf_rd hi
    rw [if_neg (fun hm => by obtain ⟨k, e, _, hp⟩ := uS_mem hm; exact hn hp)] at h2
    omega
  · exact (l2 (by omega)).zero i hi hn

theorem build_Cost_spec (a : List Int) (h : badF a = 0) (L : Nat → Nat) (hL : ∀ i, i < a.length → L i ≤ 60) : build_Cost.f a (lf a.length L) = some (((costU a L : Nat) : Int), 0) := by
  obtain ⟨b1, b2⟩ := badF_ok h
  have el := lf_length a.length L
  have loop1 : ∀ (m k i : Nat), i + m = a.length → m < k → build_Cost.l1 k (i : Int) (lf a.length L) = some (.inr ()) := by
    intro m
    induction m with
    | zero =>
      intro k i hi hk
      obtain ⟨k, rfl⟩ : ∃ q, k = q + 1 := ⟨k - 1, by omega⟩
      rw [build_Cost.l1, if_neg (by omega)]
    | succ m ih =>
      intro k i hi hk
      obtain ⟨k, rfl⟩ : ∃ q, k = q + 1 := ⟨k - 1, by omega⟩
      have := hL i (by omega)
      rw [build_Cost.l1, if_pos (by omega), gd_pos (by omega), lf_rd (by omega), bnd_eq, if_neg (by omega), inc_i (by omega)]
      exact ih k (i + 1) (by omega) (by omega)
  have small : ∀ i, i ≤ a.length → upTo a (fun i => (rd a (i : Int)).toNat * L i) i ≤ i * 257698037760 := by
    intro i
    induction i with
    | zero => intro _; exact Nat.le_refl _
    | succ i ih =>
      intro hi
      have h9 := ih (by omega)
      have es : upTo a (fun i => (rd a (i : Int)).toNat * L i) (i + 1) = upTo a (fun i => (rd a (i : Int)).toNat * L i) i + (if 0 < rd a (i : Int) then (rd a (i : Int)).toNat * L i else 0) := rfl
      have hr := used_at b2 (show i < a.length by omega)
      rw [es, Nat.succ_mul]
      refine Nat.add_le_add h9 ?_
      by_cases c : 0 < rd a (i : Int)
      · rw [if_pos c]
        have h8 : (rd a (i : Int)).toNat * L i ≤ 4294967296 * 60 := Nat.mul_le_mul (by omega) (hL i (by omega))
        exact h8
      · rw [if_neg c]; exact Nat.zero_le _
  have loop3 : ∀ (m k i : Nat), i + m = a.length → m < k → build_Cost.l3 k ((upTo a (fun i => (rd a (i : Int)).toNat * L i) i : Nat) : Int) (i : Int) a (lf a.length L) = some ((costU a L : Nat) : Int) := by
    intro m
    induction m with
    | zero =>
      intro k i hi hk
      obtain ⟨k, rfl⟩ : ∃ q, k = q + 1 := ⟨k - 1, by omega⟩
      obtain rfl : i = a.length := by omega
      rw [build_Cost.l3, if_neg (by omega)]
      rfl
    | succ m ih =>
      intro k i hi hk
      obtain ⟨k, rfl⟩ : ∃ q, k = q + 1 := ⟨k - 1, by omega⟩
      have hs2 := small (i + 1) (by omega)
      have hr := used_at b2 (show i < a.length by omega)
      have hLi := hL i (by omega)
      have e1 : IntKind.i64.wrap (((upTo a (fun i => (rd a (i : Int)).toNat * L i) i : Nat) : Int) + IntKind.i64.wrap (rd a (i : Int) * (L i : Int))) = ((upTo a (fun i => (rd a (i : Int)).toNat * L i) (i + 1) : Nat) : Int) := by
        have ep : rd a (i : Int) * (L i : Int) = (((rd a (i : Int)).toNat * L i : Nat) : Int) := by
          rw [Int.natCast_mul, Int.toNat_of_nonneg (by omega)]
        have : (i + 1) * 257698037760 ≤ 288 * 257698037760 := Nat.mul_le_mul_right _ (by omega)
        have es : upTo a (fun i => (rd a (i : Int)).toNat * L i) (i + 1) = upTo a (fun i => (rd a (i : Int)).toNat * L i) i + (if 0 < rd a (i : Int) then (rd a (i : Int)).toNat * L i else 0) := rfl
        by_cases c : 0 < rd a (i : Int)
        · rw [if_pos c] at es
          rw [es] at hs2 ⊢
          rw [ep, wr_i64 (x := (((rd a (i : Int)).toNat * L i : Nat) : Int)) (by omega), wr_i64 (by omega)]; omega
        · rw [if_neg c, Nat.add_zero] at es
          have e0 : rd a (i : Int) = 0 := by omega
          rw [es] at hs2 ⊢
          rw [e0, Int.zero_mul, wr_i64 (x := 0) (by omega), wr_i64 (by omega)]; omega
      rw [build_Cost.l3, if_pos (by omega), gd_pos (by omega), bnd_eq, gd_pos (by omega), lf_rd (by omega), e1, bnd_eq, inc_i (by omega)]
      exact ih k (i + 1) (by omega) (by omega)
  have k1 := loop1 a.length FU 0 (by omega) (by rw [FU_eq]; omega)
  have k1' : build_Cost.l1 FU 0 (lf a.length L) = _ := k1
  have k3 := loop3 a.length FU 0 (by omega) (by rw [FU_eq]; omega)
  have k3' : build_Cost.l3 FU 0 0 a (lf a.length L) = _ := k3
  rw [build_Cost.f, if_neg (by omega), k1']
  simp only [Option.bind_some, onR]
  rw [build_used_spec, if_pos h]
  simp only [Option.bind_some]
  rw [if_neg (fun f => f h), k3']
  rfl

theorem code_count_loop (lens : List Int) (hl : lens.length ≤ 288) (m : Nat) : ∀ (k i : Nat), i + m = lens.length → m < k → (∀ j x, j < i → lens[j]? = some x → okx x) →
    code_count.l1 k (cl0 (ln lens) i) (i : Int) lens = if (∀ x ∈ lens, okx x) then some (.inr (cl0 (ln lens) lens.length)) else some (.inl (List.replicate 16 (0 : Int), 50)) := by
  induction m with
  | zero =>
    intro k i hi hk ho
    obtain ⟨k, rfl⟩ : ∃ j, k = j + 1 := ⟨k - 1, by omega⟩
    have hall : ∀ x ∈ lens, okx x := fun x hx => by
      obtain ⟨j, hj⟩ := List.getElem?_of_mem hx
      exact ho j x (by have := (List.getElem?_eq_some_iff.1 hj).1; omega) hj
    rw [code_count.l1, if_neg (by omega), if_pos hall, show i = lens.length by omega]
  | succ m ih =>
    intro k i hi hk ho
    obtain ⟨k, rfl⟩ : ∃ j, k = j + 1 := ⟨k - 1, by omega⟩
    have hx : lens[i]? = some lens[i] := List.getElem?_eq_getElem (by omega)
    rw [code_count.l1, if_pos (by omega), gd_pos (by omega), bnd_eq, rd_at hx]
    by_cases c : okx lens[i]
    · have c' := c
      unfold okx at c'
      have e : ln lens i = (lens[i]).toNat := ln_at hx
      have hle : ln lens i ≤ 15 := by omega
      have e2 : lens[i] = (ln lens i : Int) := by omega
      have hc := cntL_le (ln lens) (ln lens i) i
      rw [if_neg (by omega), gd_pos (by omega), gd_pos (cl0_length _ _), bnd_eq, e2, rd_cl0 (by omega), wr_i64 (x := (cntL (ln lens) (ln lens i) i : Int) + 1) (by omega), Int.toNat_natCast, cl0_step _ _ hle, inc_i (by omega)]
      exact ih k (i + 1) (by omega) (by omega) (fun j x hj hjx => by
        by_cases e3 : j = i
        · subst e3; rw [hx] at hjx; cases hjx; exact c
        · exact ho j x (by omega) hjx)
    · have c' := c
      unfold okx at c'
      rw [if_pos (by omega), if_neg fun h => c (h _ (List.getElem_mem (by omega)))]
theorem code_count_spec (lens : List Int) : code_count.f lens = some (if badL lens = 0 then (cl (ln lens) lens.length, 0) else (List.replicate 16 (0 : Int), badL lens)) := by
  unfold code_count.f
  by_cases h : 288 < (lens.length : Int)
  · have e : badL lens = 1 := by unfold badL; rw [if_pos (by omega)]
    rw [if_pos h, e, if_neg (by decide)]
  · have key := code_count_loop lens (by omega) lens.length FU 0 (by omega) (by rw [FU_eq]; omega) (fun j x hj => by omega)
    rw [cl0_zero] at key
    have e0 : ((0 : Nat) : Int) = 0 := rfl
    rw [e0] at key
    rw [if_neg h, key]
    by_cases c : ∀ x ∈ lens, okx x
    · rw [if_pos c, if_pos (badL_zero (by omega) c)]
      simp only [Option.bind_some, onR]
      rw [gd_pos (cl0_length _ _), bnd_eq, show (0 : Int).toNat = 0 from rfl, cl_of]
    · have e : badL lens = 50 := by unfold badL; rw [if_neg (by omega), if_neg c]
      rw [if_neg c, e, if_neg (by decide)]
      rfl

theorem code_shape_loop (l : Nat → Nat) (n : Nat) (hn : n ≤ 288) (h : ∀ j, j < n → l j ≤ 15) (m : Nat) : ∀ (k v : Nat), v + m = 16 → m < k → 1 ≤ v →
    code_shape.l1 k (wupto l n v : Int) (upto l n v : Int) (v : Int) (cl l n) = some ((usedW l n : Int), (takeW l n : Int)) := by
  have hW := wupto_all h
  have hT := upto_take h
  have hW2 := usedW_le l n
  have hT2 := takeW_le l n
  have wm : ∀ v, v ≤ 16 → wupto l n v ≤ usedW l n := by
    intro v hv
    rw [← hW]
    have : ∀ d v, v + d = 16 → wupto l n v ≤ wupto l n 16 := by
      intro d
      induction d with
      | zero => intro v hv; rw [show v = 16 by omega]; exact Nat.le_refl _
      | succ d ih => intro v hv; have := ih (v + 1) (by omega); rw [wupto] at this; omega
    exact this (16 - v) v (by omega)
  have um : ∀ v, v ≤ 16 → upto l n v ≤ takeW l n := fun v hv => by rw [← hT]; exact upto_mono l n hv
  induction m with
  | zero =>
    intro k v hv hk h1
    obtain ⟨k, rfl⟩ : ∃ j, k = j + 1 := ⟨k - 1, by omega⟩
    rw [code_shape.l1, if_neg (by omega), show v = 16 by omega, hW, hT]
  | succ m ih =>
    intro k v hv hk h1
    obtain ⟨k, rfl⟩ : ∃ j, k = j + 1 := ⟨k - 1, by omega⟩
    have a := wm (v + 1) (by omega)
    have b := um (v + 1) (by omega)
    rw [wupto, if_neg (by omega)] at a
    rw [upto_succ, if_neg (by omega)] at b
    have e1 : IntKind.i64.wrap (15 - (v : Int)) = ((15 - v : Nat) : Int) := by rw [wr_i64 (by omega)]; omega
    have e2 : shl .i64 (cntL l v n : Int) ((15 - v : Nat) : Int) = ((cntL l v n * 2 ^ (15 - v) : Nat) : Int) := by
      unfold shl
      rw [Int.toNat_natCast, Nat.min_eq_left (by simp only [IntKind.bits]; omega), wr_i64]
      · simp
      · have e3 : (cntL l v n : Int) * 2 ^ (15 - v) = ((cntL l v n * 2 ^ (15 - v) : Nat) : Int) := by simp
        rw [e3]; omega
    have e3 : IntKind.i64.wrap ((wupto l n v : Int) + (cntL l v n : Int)) = (wupto l n (v + 1) : Int) := by rw [wr_i64 (by omega), wupto, if_neg (by omega)]; rfl
    have e4 : IntKind.i64.wrap ((upto l n v : Int) + ((cntL l v n * 2 ^ (15 - v) : Nat) : Int)) = (upto l n (v + 1) : Int) := by rw [wr_i64 (by omega), upto_succ, if_neg (by omega)]; rfl
    rw [code_shape.l1, if_pos (by omega), gd_pos (by omega), gd_pos (cl_length _ _), bnd_eq, rd_cl (by omega) (by omega), e1, gd_pos (by omega), bnd_eq, e2, e3, e4, bnd_eq, inc_i (by omega)]
    exact ih k (v + 1) (by omega) (by omega) (by omega)
theorem code_shape_spec (l : Nat → Nat) (n : Nat) (hn : n ≤ 288) (h : ∀ j, j < n → l j ≤ 15) : code_shape.f (cl l n) = some (shapeW (usedW l n) (takeW l n)) := by
  have key := code_shape_loop l n hn h 15 FU 1 (by omega) (by rw [FU_eq]; omega) (by omega)
  have key' : code_shape.l1 FU 0 0 1 (cl l n) = some ((usedW l n : Int), (takeW l n : Int)) := key
  rw [code_shape.f, key']
  simp only [Option.bind_some]
  unfold shapeW
  by_cases h0 : usedW l n = 0
  · rw [if_pos (by omega), if_pos h0]
  · rw [if_neg (by omega), if_neg h0]
    by_cases h1 : usedW l n = 1
    · have e1 : rd (cl l n) 1 = (cntL l 1 n : Int) := rd_cl (v := 1) (by omega) (by omega)
      rw [if_pos (by omega), gd_pos (cl_length _ _), e1]
      simp only [Option.bind_some]
      have hs := single_iff h1
      by_cases h2 : takeW l n = 16384
      · have := hs.2 h2
        rw [if_pos (by simp; omega), if_pos ⟨h1, h2⟩]
      · have : ¬ cntL l 1 n = 1 := fun e => h2 (hs.1 e)
        rw [if_neg (by simp; omega), if_neg (show ¬ (usedW l n = 1 ∧ takeW l n = 16384) by omega)]
        by_cases h3 : 32768 < takeW l n
        · rw [if_pos (by omega), if_pos h3]
        · rw [if_neg (by omega), if_neg h3]
          by_cases h4 : takeW l n = 32768
          · rw [if_pos (by omega), if_pos h4]
          · rw [if_neg (by omega), if_neg h4]
    · rw [if_neg (by omega)]
      simp only [Option.bind_some, Bool.false_eq_true, if_false]
      rw [if_neg (show ¬ (usedW l n = 1 ∧ takeW l n = 16384) by omega)]
      by_cases h3 : 32768 < takeW l n
      · rw [if_pos (by omega), if_pos h3]
      · rw [if_neg (by omega), if_neg h3]
        by_cases h4 : takeW l n = 32768
        · rw [if_pos (by omega), if_pos h4]
        · rw [if_neg (by omega), if_neg h4]

theorem code_first_loop (l : Nat → Nat) (n : Nat) (hn : n ≤ 288) (m : Nat) : ∀ (k v : Nat), v + m = 16 → m < k → 1 ≤ v →
    code_first.l1 k ((List.range 16).map fun u => if u < v then (fstW l n u : Int) else 0) (fstW l n (v - 1) : Int) (v : Int) (cl l n) = some (fsL l n) := by
  induction m with
  | zero =>
    intro k v hv hk h1
    obtain ⟨k, rfl⟩ : ∃ j, k = j + 1 := ⟨k - 1, by omega⟩
    rw [code_first.l1, if_neg (by omega)]
    congr 1
    unfold fsL
    refine List.map_congr_left fun u hu => if_pos ?_
    have := List.mem_range.1 hu; omega
  | succ m ih =>
    intro k v hv hk h1
    obtain ⟨k, rfl⟩ : ∃ j, k = j + 1 := ⟨k - 1, by omega⟩
    obtain ⟨u, rfl⟩ : ∃ u, v = u + 1 := ⟨v - 1, by omega⟩
    have e1 : IntKind.i64.wrap (((u + 1 : Nat) : Int) - 1) = (u : Int) := by rw [wr_i64 (by omega)]; omega
    have hf := fstW_le2 (l := l) hn (v := u) (by omega)
    have hc := cntL_le l u n
    have e2 : rd (cl l n) (u : Int) = ((if u = 0 then 0 else cntL l u n : Nat) : Int) := by
      unfold cl
      rw [rd_map (by omega)]
      split <;> simp
    have hx : (if u = 0 then 0 else cntL l u n : Nat) ≤ n := by split <;> omega
    have e3 : shl .i64 (IntKind.i64.wrap ((fstW l n u : Int) + ((if u = 0 then 0 else cntL l u n : Nat) : Int))) 1 = (fstW l n (u + 1) : Int) := by
      rw [wr_i64 (by omega)]
      unfold shl
      rw [show min (1 : Int).toNat IntKind.i64.bits = 1 from rfl, wr_i64 (by omega)]
      simp only [fstW]; omega
    rw [code_first.l1, if_pos (by omega), e1, gd_pos (by omega), gd_pos (cl_length _ _), bnd_eq, Nat.add_sub_cancel, e2, e3, gd_pos (by omega), gd_pos (by simp), bnd_eq, bnd_eq, Int.toNat_natCast, map_set, inc_i (by omega)]
    have e4 : ((List.range 16).map fun w => if w = u + 1 then (fstW l n (u + 1) : Int) else if w < u + 1 then (fstW l n w : Int) else 0) = (List.range 16).map fun w => if w < u + 1 + 1 then (fstW l n w : Int) else 0 := by
      refine List.map_congr_left fun w hw => ?_
      by_cases c : w = u + 1
      · subst c; rw [if_pos rfl, if_pos (by omega)]
      · rw [if_neg c]
        by_cases d : w < u + 1
        · rw [if_pos d, if_pos (by omega)]
        · rw [if_neg d, if_neg (by omega)]
    rw [e4]
    exact ih k (u + 1 + 1) (by omega) (by omega) (by omega)
theorem code_first_spec (l : Nat → Nat) (n : Nat) (hn : n ≤ 288) : code_first.f (cl l n) = some (fsL l n) := by
  have key := code_first_loop l n hn 15 FU 1 (by omega) (by rw [FU_eq]; omega) (by omega)
  have e : ((List.range 16).map fun u => if u < 1 then (fstW l n u : Int) else 0) = List.replicate 16 (0 : Int) := by
    rw [zeros_map]
    refine List.map_congr_left fun u hu => ?_
    by_cases c : u < 1
    · rw [if_pos c, show u = 0 by omega]; rfl
    · rw [if_neg c]
  rw [e] at key
  have key' : code_first.l1 FU (List.replicate 16 (0 : Int)) 0 1 (cl l n) = some (fsL l n) := key
  rw [code_first.f, key']
  simp only [Option.bind_some]
  rw [gd_pos (fsL_length _ _)]
theorem code_words_loop (lens : List Int) (hn : lens.length ≤ 288) (h : ∀ x ∈ lens, okx x) (m : Nat) : ∀ (k i : Nat), i + m = lens.length → m < k →
    code_words.l1 k ((List.range lens.length).map fun j => if j < i ∧ 0 < ln lens j then (wordW (ln lens) lens.length j : Int) else 0) ((List.range 16).map fun v => (fstW (ln lens) lens.length v : Int) + if v = 0 then 0 else (cntL (ln lens) v i : Int)) (i : Int) lens = some (wsL (ln lens) lens.length) := by
  induction m with
  | zero =>
    intro k i hi hk
    obtain ⟨k, rfl⟩ : ∃ j, k = j + 1 := ⟨k - 1, by omega⟩
    rw [code_words.l1, if_neg (by omega)]
    congr 1
    unfold wsL
    refine List.map_congr_left fun j hj => ?_
    have := List.mem_range.1 hj
    by_cases c : 0 < ln lens j
    · rw [if_pos c, if_pos ⟨by omega, c⟩]
    · rw [if_neg c, if_neg (by omega)]
  | succ m ih =>
    intro k i hi hk
    obtain ⟨k, rfl⟩ : ∃ j, k = j + 1 := ⟨k - 1, by omega⟩
    have hle := ln_le h i
    rw [code_words.l1, if_pos (by omega), gd_pos (by omega), bnd_eq, rd_ln h (by omega)]
    by_cases c : 0 < ln lens i
    · have hf := fstW_le2 (l := ln lens) hn hle
      have hc := cntL_le (ln lens) (ln lens i) i
      have e1 : rd ((List.range 16).map fun v => (fstW (ln lens) lens.length v : Int) + if v = 0 then 0 else (cntL (ln lens) v i : Int)) (ln lens i : Int) = (wordW (ln lens) lens.length i : Int) := by
        rw [rd_map (by omega), if_neg (by omega)]; unfold wordW; omega
      have hw : wordW (ln lens) lens.length i = fstW (ln lens) lens.length (ln lens i) + cntL (ln lens) (ln lens i) i := rfl
      rw [if_pos (by omega), gd_pos (by omega), gd_pos (by simp), gd_pos (by simp; omega), bnd_eq, bnd_eq, e1, wr_i64 (x := (wordW (ln lens) lens.length i : Int) + 1) (by omega), Int.toNat_natCast, Int.toNat_natCast, map_set, map_set]
      simp only [Option.bind_some]
      rw [inc_i (by omega)]
      have e2 : ((List.range lens.length).map fun j => if j = i then (wordW (ln lens) lens.length i : Int) else if j < i ∧ 0 < ln lens j then (wordW (ln lens) lens.length j : Int) else 0) = (List.range lens.length).map fun j => if j < i + 1 ∧ 0 < ln lens j then (wordW (ln lens) lens.length j : Int) else 0 := by
        refine List.map_congr_left fun j hj => ?_
        by_cases e : j = i
        · subst e; rw [if_pos rfl, if_pos ⟨by omega, c⟩]
        · rw [if_neg e]
          by_cases d : j < i ∧ 0 < ln lens j
          · rw [if_pos d, if_pos ⟨by omega, d.2⟩]
          · rw [if_neg d, if_neg (by omega)]
      have e3 : ((List.range 16).map fun v => if v = ln lens i then (wordW (ln lens) lens.length i : Int) + 1 else (fstW (ln lens) lens.length v : Int) + if v = 0 then 0 else (cntL (ln lens) v i : Int)) = (List.range 16).map fun v => (fstW (ln lens) lens.length v : Int) + if v = 0 then 0 else (cntL (ln lens) v (i + 1) : Int) := by
        refine List.map_congr_left fun v hv => ?_
        by_cases e : v = ln lens i
        · subst e
          rw [if_pos rfl, if_neg (by omega), cntL_succ, if_pos rfl, hw]; omega
        · rw [if_neg e, cntL_succ, if_neg (show ¬ ln lens i = v from fun e' => e e'.symm)]; rfl
      rw [e2, e3]
      exact ih k (i + 1) (by omega) (by omega)
    · rw [if_neg (by omega)]
      simp only [Option.bind_some]
      rw [inc_i (by omega)]
      have e2 : ((List.range lens.length).map fun j => if j < i ∧ 0 < ln lens j then (wordW (ln lens) lens.length j : Int) else 0) = (List.range lens.length).map fun j => if j < i + 1 ∧ 0 < ln lens j then (wordW (ln lens) lens.length j : Int) else 0 := by
        refine List.map_congr_left fun j hj => ?_
        by_cases d : j < i ∧ 0 < ln lens j
        · rw [if_pos d, if_pos ⟨by omega, d.2⟩]
        · rw [if_neg d, if_neg (fun d' => d ⟨by
            apply Classical.byContradiction
            intro h3
            have : j = i := by omega
            subst this; exact c d'.2, d'.2⟩)]
      have e3 : ((List.range 16).map fun v => (fstW (ln lens) lens.length v : Int) + if v = 0 then 0 else (cntL (ln lens) v i : Int)) = (List.range 16).map fun v => (fstW (ln lens) lens.length v : Int) + if v = 0 then 0 else (cntL (ln lens) v (i + 1) : Int) := by
        refine List.map_congr_left fun v hv => ?_
        by_cases e : v = 0
        · rw [if_pos e, if_pos e]
        · rw [if_neg e, if_neg e, cntL_succ, if_neg (by omega)]; rfl
      rw [e2, e3]
      exact ih k (i + 1) (by omega) (by omega)
theorem code_words_spec (lens : List Int) (hn : lens.length ≤ 288) (h : ∀ x ∈ lens, okx x) : code_words.f lens (fsL (ln lens) lens.length) = some (wsL (ln lens) lens.length) := by
  have key := code_words_loop lens hn h lens.length FU 0 (by omega) (by rw [FU_eq]; omega)
  have e1 : ((List.range lens.length).map fun j => if j < 0 ∧ 0 < ln lens j then (wordW (ln lens) lens.length j : Int) else 0) = List.replicate lens.length (0 : Int) := by
    rw [zeros_map]
    exact List.map_congr_left fun j _ => if_neg (by omega)
  have e2 : ((List.range 16).map fun v => (fstW (ln lens) lens.length v : Int) + if v = 0 then 0 else (cntL (ln lens) v 0 : Int)) = fsL (ln lens) lens.length := by
    unfold fsL
    refine List.map_congr_left fun v _ => ?_
    split <;> simp [cntL, sumN]
  rw [e1, e2] at key
  have key' : code_words.l1 FU (List.replicate lens.length (0 : Int)) (fsL (ln lens) lens.length) 0 lens = _ := key
  rw [code_words.f, gd_pos (by omega), bnd_eq, Int.toNat_natCast, key']
  rfl

theorem code_makeTable_spec (lens : List Int) (hn : lens.length ≤ 288) (h : ∀ x ∈ lens, okx x) : code_makeTable.f lens (cl (ln lens) lens.length) = some (lens, wsL (ln lens) lens.length, cl (ln lens) lens.length, fsL (ln lens) lens.length) := by
  rw [code_makeTable.f, gd_pos (cl_length _ _), code_first_spec _ _ hn]
  simp only [Option.bind_some]
  rw [gd_pos (fsL_length _ _), bnd_eq, List.nil_append, gd_pos (by omega), code_words_spec lens hn h]
  rfl

theorem code_syms_inner (lens : List Int) (hn : lens.length ≤ 288) (h : ∀ x ∈ lens, okx x) (v : Nat) (h1 : 1 ≤ v) (hv : v ≤ 15) (P : List Int) (hP : P.length ≤ 5000) (m : Nat) : ∀ (k i : Nat), i + m = lens.length → m < k →
    code_NewDecoder.l13 k (P ++ rowS (ln lens) v i) (i : Int) lens (v : Int) = some (P ++ rowS (ln lens) v lens.length) := by
  induction m with
  | zero =>
    intro k i hi hk
    obtain ⟨k, rfl⟩ : ∃ j, k = j + 1 := ⟨k - 1, by omega⟩
    rw [code_NewDecoder.l13, if_neg (by omega), show i = lens.length by omega]
  | succ m ih =>
    intro k i hi hk
    obtain ⟨k, rfl⟩ : ∃ j, k = j + 1 := ⟨k - 1, by omega⟩
    have hc := cntL_le (ln lens) v i
    have hr := rowS_length (ln lens) v i
    rw [code_NewDecoder.l13, if_pos (by omega), gd_pos (by omega), bnd_eq, rd_ln h (by omega)]
    by_cases c : ln lens i = v
    · have e : P ++ rowS (ln lens) v i ++ [(i : Int)] = P ++ rowS (ln lens) v (i + 1) := by rw [rowS, if_pos c, List.append_assoc]
      rw [if_pos (by omega), bnd_eq, e, gd_pos (by rw [← e]; simp only [List.length_append, hr, List.length_cons, List.length_nil]; omega)]
      simp only [Option.bind_some]
      rw [inc_i (by omega)]
      exact ih k (i + 1) (by omega) (by omega)
    · have e : rowS (ln lens) v (i + 1) = rowS (ln lens) v i := by rw [rowS, if_neg c]
      rw [if_neg (by omega)]
      simp only [Option.bind_some]
      rw [inc_i (by omega), ← e]
      exact ih k (i + 1) (by omega) (by omega)
theorem code_syms_outer (lens : List Int) (hn : lens.length ≤ 288) (h : ∀ x ∈ lens, okx x) (m : Nat) : ∀ (k v : Nat), v + m = 16 → m < k → 1 ≤ v →
    code_NewDecoder.l11 k (symsL (ln lens) lens.length v) (v : Int) lens = some (symsL (ln lens) lens.length 16) := by
  induction m with
  | zero =>
    intro k v hv hk h1
    obtain ⟨k, rfl⟩ : ∃ j, k = j + 1 := ⟨k - 1, by omega⟩
    rw [code_NewDecoder.l11, if_neg (by omega), show v = 16 by omega]
  | succ m ih =>
    intro k v hv hk h1
    obtain ⟨k, rfl⟩ : ∃ j, k = j + 1 := ⟨k - 1, by omega⟩
    have hw := wupto_le (ln lens) lens.length v
    have hw2 : v * lens.length ≤ 16 * 288 := Nat.mul_le_mul (by omega) hn
    have key := code_syms_inner lens hn h v h1 (by omega) (symsL (ln lens) lens.length v) (by rw [symsL_length]; omega) lens.length FU 0 (by omega) (by rw [FU_eq]; omega)
    rw [show rowS (ln lens) v 0 = [] from rfl, List.append_nil, show ((0 : Nat) : Int) = 0 from rfl] at key
    have e : symsL (ln lens) lens.length (v + 1) = symsL (ln lens) lens.length v ++ rowS (ln lens) v lens.length := by rw [symsL, if_neg (by omega)]
    rw [code_NewDecoder.l11, if_pos (by omega), key, ← e]
    simp only [Option.bind_some]
    rw [bnd_eq, inc_i (by omega)]
    exact ih k (v + 1) (by omega) (by omega) (by omega)
theorem code_refused_spec (S : Int) : code_refused.f S = some (if S = 2 then 52 else if S = 3 then 51 else 0) := by
  unfold code_refused.f
  by_cases a : S = 2
  · rw [if_pos a, if_pos a]
  · rw [if_neg a, if_neg a]
    by_cases b : S = 3
    · rw [if_pos b, if_pos b]
    · rw [if_neg b, if_neg b]
theorem shapeW_cases (W T : Nat) : shapeW W T = 0 ∨ shapeW W T = 1 ∨ shapeW W T = 2 ∨ shapeW W T = 3 ∨ shapeW W T = 4 := by
  unfold shapeW; split <;> (try split) <;> (try split) <;> (try split) <;> simp
theorem shape_dec {lens : List Int} (hn : lens.length ≤ 288) (h : ∀ x ∈ lens, okx x) (hS : shapeW (usedW (ln lens) lens.length) (takeW (ln lens) lens.length) = 1 ∨ shapeW (usedW (ln lens) lens.length) (takeW (ln lens) lens.length) = 4) : Dec (ln lens) lens.length := by
  refine ⟨hn, fun j _ => ln_le h j, ?_⟩
  unfold shapeW at hS
  by_cases a : usedW (ln lens) lens.length = 0
  · rw [if_pos a] at hS; rcases hS with hS | hS <;> cases hS
  · rw [if_neg a] at hS
    by_cases b : usedW (ln lens) lens.length = 1 ∧ takeW (ln lens) lens.length = 16384
    · exact .inr b
    · rw [if_neg b] at hS
      by_cases c : 32768 < takeW (ln lens) lens.length
      · rw [if_pos c] at hS; rcases hS with hS | hS <;> cases hS
      · rw [if_neg c] at hS
        by_cases d : takeW (ln lens) lens.length = 32768
        · exact .inl d
        · rw [if_neg d] at hS; rcases hS with hS | hS <;> cases hS
/-- The error of a list of which no decoder is made. -/
def decE (lens : List Int) : Int := if badL lens ≠ 0 then badL lens else if shapeW (usedW (ln lens) lens.length) (takeW (ln lens) lens.length) = 0 then 53 else if shapeW (usedW (ln lens) lens.length) (takeW (ln lens) lens.length) = 2 then 52 else if shapeW (usedW (ln lens) lens.length) (takeW (ln lens) lens.length) = 3 then 51 else 0
theorem decE_ok {lens : List Int} (h : decE lens = 0) : badL lens = 0 ∧ Dec (ln lens) lens.length ∧ (shapeW (usedW (ln lens) lens.length) (takeW (ln lens) lens.length) = 1 ∨ shapeW (usedW (ln lens) lens.length) (takeW (ln lens) lens.length) = 4) := by
  unfold decE at h
  by_cases a : badL lens = 0
  · rw [if_neg (fun f => f a)] at h
    obtain ⟨h1, h2⟩ := badL_ok a
    have hS : shapeW (usedW (ln lens) lens.length) (takeW (ln lens) lens.length) = 1 ∨ shapeW (usedW (ln lens) lens.length) (takeW (ln lens) lens.length) = 4 := by
      rcases shapeW_cases (usedW (ln lens) lens.length) (takeW (ln lens) lens.length) with e | e | e | e | e
      · rw [e] at h; simp at h
      · exact .inl e
      · rw [e] at h; simp at h
      · rw [e] at h; simp at h
      · exact .inr e
    exact ⟨a, shape_dec h1 h2 hS, hS⟩
  · rw [if_pos a] at h; exact absurd h a
theorem decE_of {lens : List Int} (a : badL lens = 0) (hS : shapeW (usedW (ln lens) lens.length) (takeW (ln lens) lens.length) = 1 ∨ shapeW (usedW (ln lens) lens.length) (takeW (ln lens) lens.length) = 4) : decE lens = 0 := by
  unfold decE
  rw [if_neg (fun f => f a)]
  rcases hS with e | e <;> rw [e] <;> simp
theorem code_NewDecoder_spec (lens : List Int) : code_NewDecoder.f lens = some (if decE lens = 0 then (some (lens, wsL (ln lens) lens.length, cl (ln lens) lens.length, fsL (ln lens) lens.length, symsL (ln lens) lens.length 16), 0) else (none, decE lens)) := by
  rw [code_NewDecoder.f, code_count_spec]
  by_cases a : badL lens = 0
  · obtain ⟨h1, h2⟩ := badL_ok a
    rw [if_pos a]
    simp only [Option.bind_some]
    rw [gd_pos (cl_length _ _), if_neg (by decide), code_shape_spec _ _ h1 (fun j _ => ln_le h2 j)]
    simp only [Option.bind_some]
    have eD : decE lens = if shapeW (usedW (ln lens) lens.length) (takeW (ln lens) lens.length) = 0 then 53 else if shapeW (usedW (ln lens) lens.length) (takeW (ln lens) lens.length) = 2 then 52 else if shapeW (usedW (ln lens) lens.length) (takeW (ln lens) lens.length) = 3 then 51 else 0 := by
      unfold decE; rw [if_neg (fun f => f a)]
    rw [eD]
    generalize shapeW (usedW (ln lens) lens.length) (takeW (ln lens) lens.length) = S
    by_cases c0 : S = 0
    · rw [if_pos c0, if_pos c0]; rfl
    · rw [if_neg c0, if_neg c0, code_refused_spec]
      simp only [Option.bind_some]
      by_cases c2 : S = 2
      · rw [if_pos c2]; rfl
      · rw [if_neg c2]
        by_cases c3 : S = 3
        · rw [if_pos c3]; rfl
        · rw [if_neg c3, if_neg (by decide), if_pos rfl, code_makeTable_spec lens h1 h2]
          simp only [Option.bind_some]
          have key := code_syms_outer lens h1 h2 15 FU 1 (by omega) (by rw [FU_eq]; omega) (by omega)
          have key' : code_NewDecoder.l11 FU ([] : List Int) 1 lens = _ := key
          rw [gd_pos (cl_length _ _), gd_pos (fsL_length _ _), key']
          rfl
  · rw [if_neg a]
    simp only [Option.bind_some]
    have eD : decE lens = badL lens := by unfold decE; rw [if_pos a]
    rw [gd_pos (by simp), if_pos a, eD, if_neg a]

theorem pack_ne {s : List Bool} (h : s ≠ []) : (pack s).length ≠ 0 := by
  rw [pack_length]
  have := List.length_pos_iff.2 h
  omega
theorem cpy_same {l m : List Int} (h : l.length = m.length) : cpy l m = m := by
  unfold cpy
  rw [h, List.take_length, List.drop_eq_nil_of_le (by omega), List.append_nil]

theorem set_last (l : List Int) (x y : Int) : (l ++ [x]).set l.length y = l ++ [y] := by
  rw [List.set_append_right _ _ (Nat.le_refl _), Nat.sub_self]; rfl
theorem rd_last (l : List Int) (x : Int) : rd (l ++ [x]) (l.length : Int) = x := by
  show (l ++ [x]).getD ((l.length : Int).toNat) 0 = x
  rw [Int.toNat_natCast, List.getD_eq_getElem?_getD, List.getElem?_append_right (Nat.le_refl _), Nat.sub_self]; rfl
/-- One step: k bits of v into the last byte, which holds p. -/
theorem lay_byte (v k i : Nat) (p : List Bool) (hv : v < 2 ^ 64) (hk : k + i ≤ 8) (hp : p.length = i) :
    bor .u8 (val p : Int) (IntKind.u8.wrap (shl .u64 (band .u64 (v : Int) (IntKind.u64.wrap (shl .u64 1 (IntKind.u64.wrap (k : Int)) - 1))) (IntKind.u64.wrap (i : Int)))) = (val (p ++ tobits k v) : Int) := by
  have hk8 : (2 : Nat) ^ k ≤ 2 ^ 8 := Nat.pow_le_pow_right (by omega) (by omega)
  have hk1 : 0 < (2 : Nat) ^ k := Nat.pow_pos (by omega)
  have hi1 : 0 < (2 : Nat) ^ i := Nat.pow_pos (by omega)
  have hki : (2 : Nat) ^ k * 2 ^ i ≤ 2 ^ 8 := by rw [← Nat.pow_add]; exact Nat.pow_le_pow_right (by omega) hk
  have e1 : IntKind.u64.wrap (k : Int) = k := wr_u64 (by omega)
  have e2 : IntKind.u64.wrap (i : Int) = i := wr_u64 (by omega)
  have e3 : shl .u64 1 (k : Int) = ((2 ^ k : Nat) : Int) := by
    have := shl_nat' (k := .u64) rfl (a := 1) (n := k) (by simp only [IntKind.bits]; omega)
    simpa using this
  have e4 : IntKind.u64.wrap (((2 ^ k : Nat) : Int) - 1) = ((2 ^ k - 1 : Nat) : Int) := by rw [wr_u64 (by omega)]; omega
  have e5 : band .u64 (v : Int) ((2 ^ k - 1 : Nat) : Int) = ((v % 2 ^ k : Nat) : Int) := by
    have := band_nat (k := .u64) rfl (a := v) (b := 2 ^ k - 1) hv (by simp only [IntKind.bits]; omega)
    rw [Nat.and_two_pow_sub_one_eq_mod] at this
    exact this
  have hm : v % 2 ^ k < 2 ^ k := Nat.mod_lt _ hk1
  have hmi : v % 2 ^ k * 2 ^ i + 2 ^ i ≤ 2 ^ 8 := by
    have : (v % 2 ^ k + 1) * 2 ^ i ≤ 2 ^ k * 2 ^ i := Nat.mul_le_mul_right _ hm
    rw [Nat.add_mul] at this; omega
  have e6 : shl .u64 ((v % 2 ^ k : Nat) : Int) (i : Int) = ((v % 2 ^ k * 2 ^ i : Nat) : Int) := shl_nat' rfl (by simp only [IntKind.bits]; omega)
  have hpv : val p < 2 ^ i := by have := val_lt p; rwa [hp] at this
  rw [e1, e2, e3, e4, e5, e6, wr_u8 (by omega), bor_nat (k := .u8) rfl (by simp only [IntKind.bits]; omega) (by simp only [IntKind.bits]; omega), val_append, val_tobits, hp, Nat.or_comm]
  have := Nat.shiftLeft_add_eq_or_of_lt (i := i) (b := val p) hpv (v % 2 ^ k)
  rw [Nat.shiftLeft_eq] at this
  rw [← this, Nat.add_comm, Nat.mul_comm]

theorem pack_step (s : List Bool) (t : List Bool) (h0 : t ≠ []) (hl : s.length % 8 + t.length ≤ 8) :
    (s.length % 8 = 0 → pack (s ++ t) = pack s ++ [(val t : Int)]) ∧
    (s.length % 8 ≠ 0 → ∃ l p, pack s = l ++ [(val p : Int)] ∧ p.length = s.length % 8 ∧ pack (s ++ t) = l ++ [(val (p ++ t) : Int)]) := by
  constructor
  · intro h
    rw [pack_append (q := s.length / 8) (by omega), pack_short h0 (by omega)]
  · intro h
    have hs : s = s.take (8 * (s.length / 8)) ++ s.drop (8 * (s.length / 8)) := (List.take_append_drop _ _).symm
    have hp : (s.drop (8 * (s.length / 8))).length = s.length % 8 := by rw [List.length_drop]; omega
    have hq : (s.take (8 * (s.length / 8))).length = 8 * (s.length / 8) := by rw [List.length_take]; omega
    have hpn : s.drop (8 * (s.length / 8)) ≠ [] := by intro e; rw [e] at hp; simp at hp; omega
    refine ⟨pack (s.take (8 * (s.length / 8))), s.drop (8 * (s.length / 8)), ?_, hp, ?_⟩
    · conv => lhs; rw [hs]
      rw [pack_append hq, pack_short hpn (by omega)]
    · conv => lhs; rw [hs, List.append_assoc]
      rw [pack_append hq, pack_short (t := s.drop (8 * (s.length / 8)) ++ t) (fun e => hpn (List.append_eq_nil_iff.1 e).1) (by rw [List.length_append]; omega)]

theorem lay_loop (m : Nat) : ∀ (k n v : Nat) (s : List Bool), n ≤ m → m < k → v < 2 ^ 64 → s.length + n ≤ 1099511627776 →
    bits_Writer_lay.l1 k (pack s) (s.length : Int) (v : Int) (n : Int) = some (pack (s ++ tobits n v), ((s.length + n : Nat) : Int)) := by
  induction m with
  | zero =>
    intro k n v s hn hk hv hs
    obtain ⟨k, rfl⟩ : ∃ j, k = j + 1 := ⟨k - 1, by omega⟩
    obtain rfl : n = 0 := by omega
    rw [bits_Writer_lay.l1, if_neg (by omega)]
    simp [tobits]
  | succ m ih =>
    intro k n v s hn hk hv hs
    obtain ⟨k, rfl⟩ : ∃ j, k = j + 1 := ⟨k - 1, by omega⟩
    by_cases hn0 : n = 0
    · subst hn0
      rw [bits_Writer_lay.l1, if_neg (by omega)]
      simp [tobits]
    · have hpl : (pack s).length = (s.length + 7) / 8 := pack_length s
      have e0 : Int.tmod (s.length : Int) 8 = ((s.length % 8 : Nat) : Int) := by rw [Int.tmod_eq_emod_of_nonneg (by omega)]; omega
      generalize hi : s.length % 8 = i at e0
      have e1 : min (IntKind.i64.wrap (8 - (i : Int))) (n : Int) = ((min (8 - i) n : Nat) : Int) := by rw [wr_i64 (by omega)]; omega
      generalize hj : min (8 - i) n = j at e1
      have hj1 : 1 ≤ j ∧ j + i ≤ 8 ∧ j ≤ n := by omega
      have e2 : shr .u64 (v : Int) (IntKind.u64.wrap (j : Int)) = ((v / 2 ^ j : Nat) : Int) := by rw [wr_u64 (by omega)]; exact shr_nat (k := .u64) hv
      have e3 : IntKind.i64.wrap ((n : Int) - (j : Int)) = ((n - j : Nat) : Int) := by rw [wr_i64 (by omega)]; omega
      have hv2 : v / 2 ^ j < 2 ^ 64 := Nat.lt_of_le_of_lt (Nat.div_le_self _ _) hv
      have htn : tobits j v ≠ [] := by intro e; have := congrArg List.length e; rw [tobits_length] at this; simp at this; omega
      have hsplit : tobits n v = tobits j v ++ tobits (n - j) (v / 2 ^ j) := by rw [← tobits_add]; congr 1; omega
      have goal : ∀ l, l = pack (s ++ tobits j v) → bits_Writer_lay.l1 k l (IntKind.i64.wrap ((s.length : Int) + (j : Int))) ((v / 2 ^ j : Nat) : Int) ((n - j : Nat) : Int) = some (pack (s ++ tobits n v), ((s.length + n : Nat) : Int)) := by
        rintro l rfl
        have hsl : (s ++ tobits j v).length = s.length + j := by rw [List.length_append, tobits_length]
        have e4 : IntKind.i64.wrap ((s.length : Int) + (j : Int)) = ((s ++ tobits j v).length : Int) := by rw [wr_i64 (by omega), hsl]; omega
        rw [e4, ih k (n - j) (v / 2 ^ j) (s ++ tobits j v) (by omega) (by omega) hv2 (by rw [hsl]; omega), hsl, hsplit, List.append_assoc]
        congr 3; omega
      have hw : ∀ q : Nat, q < 1099511627776 → IntKind.u64.wrap ((q : Nat) : Int) = q := fun q hq => wr_u64 (by omega)
      rw [bits_Writer_lay.l1, if_pos (by omega), bnd_eq, e0]
      obtain ⟨p1, p2⟩ := pack_step s (tobits j v) htn (by rw [tobits_length]; omega)
      by_cases hi0 : i = 0
      · subst hi0
        have hlen : (pack s ++ [(0 : Int)]).length = (pack s).length + 1 := by simp
        rw [if_pos (show ((0 : Nat) : Int) = 0 from rfl), bnd_eq, gd_pos (by rw [hlen]; omega), Option.bind_some, bnd_eq, e1, gd_pos (by rw [hw j (by omega)]; omega), bnd_eq]
        have e5 : IntKind.i64.wrap (((pack s ++ [(0 : Int)]).length : Int) - 1) = ((pack s).length : Int) := by rw [wr_i64 (by rw [hlen]; omega), hlen]; omega
        rw [e5, gd_pos (by rw [hlen]; omega), gd_pos (by rw [hw 0 (by omega)]; omega), bnd_eq, bnd_eq, e2, bnd_eq, e3]
        apply goal
        rw [Int.toNat_natCast, set_last, rd_last]
        have := lay_byte v j 0 [] hv (by omega) rfl
        rw [show (val [] : Int) = 0 from rfl] at this
        rw [this, p1 hi]
        rfl
      · rw [if_neg (by omega), Option.bind_some, bnd_eq, e1, gd_pos (by rw [hw j (by omega)]; omega), bnd_eq]
        obtain ⟨l, p, hpk, hpl2, hpk2⟩ := p2 (by omega)
        have hlen : (l ++ [(val p : Int)]).length = l.length + 1 := by simp
        have e5 : IntKind.i64.wrap (((l ++ [(val p : Int)]).length : Int) - 1) = (l.length : Int) := by
          have : l.length + 1 = (s.length + 7) / 8 := by rw [← hlen, ← hpk, hpl]
          rw [wr_i64 (by rw [hlen]; omega), hlen]; omega
        rw [hpk, e5, gd_pos (by rw [hlen]; omega), gd_pos (by rw [hw i (by omega)]; omega), bnd_eq, bnd_eq, e2, bnd_eq, e3]
        apply goal
        rw [Int.toNat_natCast, set_last, rd_last, lay_byte v j i p hv (by omega) (by rw [hpl2, hi]), hpk2]

theorem bits_Writer_lay_spec (s : List Bool) (v n : Nat) (hv : v < 2 ^ 64) (hs : s.length + n ≤ 1099511627776) :
    bits_Writer_lay.f (pack s) (s.length : Int) (v : Int) (n : Int) = some (pack (s ++ tobits n v), ((s.length + n : Nat) : Int)) := by
  rw [bits_Writer_lay.f, lay_loop n FU n v s (Nat.le_refl _) (by rw [FU_eq]; omega) hv hs]
  rfl

theorem bits_Writer_Put_spec (s : List Bool) (v : Nat) (n : Int) (hv : v < 2 ^ 32) (hn : -9223372036854775808 ≤ n ∧ n ≤ 9223372036854775807) (hs : s.length ≤ 268435456) :
    bits_Writer_Put.f (pack s) (s.length : Int) (v : Int) n = if 0 ≤ n ∧ n ≤ 32 ∧ v < 2 ^ n.toNat ∧ s.length + n.toNat ≤ 268435456 then some (0, pack (s ++ tobits n.toNat v), ((s ++ tobits n.toNat v).length : Int)) else some (1, pack s, (s.length : Int)) := by
  unfold bits_Writer_Put.f
  by_cases hb : n < 0 ∨ 32 < n
  · rw [if_pos hb, if_neg (by omega)]
    simp
  · obtain ⟨n, rfl⟩ : ∃ m : Nat, n = m := ⟨n.toNat, by omega⟩
    have e0 : IntKind.u64.wrap (n : Int) = n := wr_u64 (by omega)
    have ev : IntKind.u64.wrap (v : Int) = v := wr_u64 (by omega)
    have e2 : shr .u64 (v : Int) (n : Int) = ((v / 2 ^ n : Nat) : Int) := shr_nat (k := .u64) (by simp only [IntKind.bits]; omega)
    have e3 : IntKind.i64.wrap ((s.length : Int) + (n : Int)) = ((s.length + n : Nat) : Int) := by rw [wr_i64 (by omega)]; rfl
    rw [if_neg hb, e0, ev, gd_pos (by omega), e2, e3, Option.bind_some]
    have hd : (v / 2 ^ n = 0) ↔ v < 2 ^ n := Nat.div_eq_zero_iff_lt (Nat.pow_pos (by omega))
    simp only [Int.toNat_natCast]
    by_cases hl : v < 2 ^ n ∧ s.length + n ≤ 268435456
    · have hq : ((v / 2 ^ n : Nat) : Int) = 0 := by rw [hd.2 hl.1]; rfl
      rw [if_neg (by simp only [hq]; simp; omega), if_pos (by omega), bits_Writer_lay_spec s v n (by omega) (by omega), List.length_append, tobits_length]
      rfl
    · have hc : (decide (((v / 2 ^ n : Nat) : Int) ≠ 0) = true) ∨ (268435456 < ((s.length + n : Nat) : Int)) := by
        by_cases h1 : v < 2 ^ n
        · right; omega
        · left
          have : v / 2 ^ n ≠ 0 := fun e => h1 (hd.1 e)
          exact decide_eq_true (by omega)
      rw [if_pos hc, if_neg (by omega)]

theorem put_ok (s : List Bool) (v n : Nat) (hv : v < 2 ^ 32) (hn : n ≤ 32) (hvn : v < 2 ^ n) (hs : s.length + n ≤ 268435456) :
    bits_Writer_Put.f (pack s) (s.length : Int) (v : Int) (n : Int) = some (0, pack (s ++ tobits n v), ((s ++ tobits n v).length : Int)) := by
  rw [bits_Writer_Put_spec s v n hv (by omega) (by omega), if_pos ⟨by omega, by omega, by rw [Int.toNat_natCast]; exact hvn, by rw [Int.toNat_natCast]; exact hs⟩, Int.toNat_natCast]


theorem bits_Writer_Bytes_spec (d : List Int) (n : Int) (h : d.length ≤ 35184372088832) : bits_Writer_Bytes.f d n = some d := by
  unfold bits_Writer_Bytes.f
  by_cases h0 : (d.length : Int) = 0
  · rw [if_pos h0]
    have : d = [] := List.length_eq_zero_iff.1 (by omega)
    rw [this]
  · rw [if_neg h0, gd_pos (by omega), bnd_eq, bnd_eq, cpy_same (by simp)]

theorem bits_NewReader_spec (d : List Int) (h : d.length ≤ 33554432) : bits_NewReader.f d = some (some (d, 0)) := by
  unfold bits_NewReader.f
  rw [if_neg (by omega), gd_pos (by omega), bnd_eq, bnd_eq, cpy_same (by simp)]
/-- The bits of a byte, cut out. -/
theorem cut_byte (x at_ k i : Nat) (hx : x < 256) (hk : i + k ≤ 8) :
    band .u64 (IntKind.u64.wrap (shr .u8 (x : Int) (IntKind.u64.wrap (i : Int)))) (IntKind.u64.wrap (shl .u64 1 (IntKind.u64.wrap (k : Int)) - 1)) = ((x / 2 ^ i % 2 ^ k : Nat) : Int) := by
  have hk8 : (2 : Nat) ^ k ≤ 2 ^ 8 := Nat.pow_le_pow_right (by omega) (by omega)
  have hk1 : 0 < (2 : Nat) ^ k := Nat.pow_pos (by omega)
  have e1 : IntKind.u64.wrap (k : Int) = k := wr_u64 (by omega)
  have e2 : IntKind.u64.wrap (i : Int) = i := wr_u64 (by omega)
  have e3 : shl .u64 1 (k : Int) = ((2 ^ k : Nat) : Int) := by
    have := shl_nat' (k := .u64) rfl (a := 1) (n := k) (by simp only [IntKind.bits]; omega)
    simpa using this
  have e4 : IntKind.u64.wrap (((2 ^ k : Nat) : Int) - 1) = ((2 ^ k - 1 : Nat) : Int) := by rw [wr_u64 (by omega)]; omega
  have e5 : shr .u8 (x : Int) (i : Int) = ((x / 2 ^ i : Nat) : Int) := shr_nat (k := .u8) (by simp only [IntKind.bits]; omega)
  have hd : x / 2 ^ i < 256 := Nat.lt_of_le_of_lt (Nat.div_le_self _ _) hx
  have e6 : band .u64 ((x / 2 ^ i : Nat) : Int) ((2 ^ k - 1 : Nat) : Int) = ((x / 2 ^ i % 2 ^ k : Nat) : Int) := by
    have := band_nat (k := .u64) rfl (a := x / 2 ^ i) (b := 2 ^ k - 1) (by simp only [IntKind.bits]; omega) (by simp only [IntKind.bits]; omega)
    rw [Nat.and_two_pow_sub_one_eq_mod] at this
    exact this
  have e7 : IntKind.u64.wrap ((x / 2 ^ i : Nat) : Int) = ((x / 2 ^ i : Nat) : Int) := by
    generalize x / 2 ^ i = y at hd
    exact wr_u64 (by omega)
  rw [e1, e2, e3, e4, e5, e7, e6]
/-- .. as bits of the string. -/
theorem cut_bits (d : List Int) (hd : ∀ x ∈ d, 0 ≤ x ∧ x < 256) (a k : Nat) (ha : a < 8 * d.length) (hk : a % 8 + k ≤ 8) :
    val (((unpack d).drop a).take k) = (rd d ((a / 8 : Nat) : Int)).toNat / 2 ^ (a % 8) % 2 ^ k := by
  have hq : a / 8 < d.length := by omega
  have hx : d[a / 8]? = some d[a / 8] := List.getElem?_eq_getElem hq
  have e : d = d.take (a / 8) ++ d[a / 8] :: d.drop (a / 8 + 1) := by rw [← drop_cons hx, List.take_append_drop]
  have e2 : unpack d = unpack (d.take (a / 8)) ++ (tobits 8 (d[a / 8]).toNat ++ unpack (d.drop (a / 8 + 1))) := by
    conv => lhs; rw [e]
    rw [unpack_append]
    congr 1
  have e3 : (unpack (d.take (a / 8))).length = 8 * (a / 8) := by rw [unpack_length, List.length_take]; omega
  have e4 : a = 8 * (a / 8) + a % 8 := by omega
  have e5 : (unpack d).drop a = (tobits 8 (d[a / 8]).toNat).drop (a % 8) ++ unpack (d.drop (a / 8 + 1)) := by
    have e6 : (unpack d).drop a = ((unpack d).drop (8 * (a / 8))).drop (a % 8) := by rw [List.drop_drop]; congr 1
    rw [e6, e2, List.drop_left' e3, List.drop_append_of_le_length (by rw [tobits_length]; omega)]
  rw [e5, List.take_append_of_le_length (by rw [List.length_drop, tobits_length]; omega), val_take, val_drop, val_tobits, rd_at hx]
  have hb := hd _ (List.getElem_mem hq)
  rw [Nat.mod_eq_of_lt (a := (d[a / 8]).toNat) (by omega)]

theorem ahead_loop (d : List Int) (hd : ∀ x ∈ d, 0 ≤ x ∧ x < 256) (hl : d.length ≤ 33554432) (n : Nat) (hn : n ≤ 32) (at0 : Nat) (m : Nat) : ∀ (k got v : Nat), n - got ≤ m → m < k → got ≤ n →
    v = val (((unpack d).drop at0).take got) → at0 + got ≤ 8 * d.length →
    bits_Reader_ahead.l1 k (v : Int) (got : Int) ((at0 + got : Nat) : Int) d (n : Int) = some ((val (((unpack d).drop at0).take n) : Nat) : Int) := by
  induction m with
  | zero =>
    intro k got v hm hk hg hv ha
    obtain ⟨k, rfl⟩ : ∃ j, k = j + 1 := ⟨k - 1, by omega⟩
    obtain rfl : got = n := by omega
    rw [bits_Reader_ahead.l1, if_neg (by omega), hv]
  | succ m ih =>
    intro k got v hm hk hg hv ha
    obtain ⟨k, rfl⟩ : ∃ j, k = j + 1 := ⟨k - 1, by omega⟩
    have e8 : IntKind.i64.wrap (8 * (d.length : Int)) = ((8 * d.length : Nat) : Int) := by rw [wr_i64 (by omega)]; omega
    by_cases hc : got < n ∧ at0 + got < 8 * d.length
    · generalize hA : at0 + got = a at *
      have e0 : Int.tmod (a : Int) 8 = ((a % 8 : Nat) : Int) := by rw [Int.tmod_eq_emod_of_nonneg (by omega)]; omega
      have e9 : IntKind.i64.wrap (Int.tdiv (a : Int) 8) = ((a / 8 : Nat) : Int) := by
        rw [Int.tdiv_eq_ediv_of_nonneg (by omega), wr_i64 (by omega)]; omega
      have e1 : min (IntKind.i64.wrap (8 - ((a % 8 : Nat) : Int))) (IntKind.i64.wrap ((n : Int) - (got : Int))) = ((min (8 - a % 8) (n - got) : Nat) : Int) := by
        rw [wr_i64 (by omega), wr_i64 (by omega)]; omega
      generalize hj : min (8 - a % 8) (n - got) = j at e1
      have hj1 : 1 ≤ j ∧ a % 8 + j ≤ 8 ∧ got + j ≤ n := by omega
      have hw : ∀ q : Nat, q < 1099511627776 → IntKind.u64.wrap ((q : Nat) : Int) = q := fun q hq => wr_u64 (by omega)
      have hq : a / 8 < d.length := by omega
      have hx : d[a / 8]? = some d[a / 8] := List.getElem?_eq_getElem hq
      have hb := hd _ (List.getElem_mem hq)
      obtain ⟨x, hxx⟩ : ∃ x : Nat, d[a / 8] = x := ⟨(d[a / 8]).toNat, by omega⟩
      have e2 : rd d ((a / 8 : Nat) : Int) = (x : Int) := by rw [rd_at hx, hxx]
      have e3 := cut_byte x 0 j (a % 8) (by omega) hj1.2.1
      have e4 := cut_bits d hd a j (by omega) hj1.2.1
      rw [e2, Int.toNat_natCast] at e4
      have hlen : (((unpack d).drop at0).take got).length = got := by rw [List.length_take, List.length_drop, unpack_length]; omega
      have hvlt : v < 2 ^ got := by have := val_lt (((unpack d).drop at0).take got); rw [hlen, ← hv] at this; exact this
      have hp32 : (2 : Nat) ^ got ≤ 2 ^ 32 := Nat.pow_le_pow_right (by omega) (by omega)
      have hcl : x / 2 ^ (a % 8) % 2 ^ j < 2 ^ j := Nat.mod_lt _ (Nat.pow_pos (by omega))
      have hgj : (2 : Nat) ^ j * 2 ^ got ≤ 2 ^ 40 := by rw [← Nat.pow_add]; exact Nat.pow_le_pow_right (by omega) (by omega)
      generalize hc0 : x / 2 ^ (a % 8) % 2 ^ j = c at *
      have hcg : c * 2 ^ got + 2 ^ got ≤ 2 ^ 40 := by
        have : (c + 1) * 2 ^ got ≤ 2 ^ j * 2 ^ got := Nat.mul_le_mul_right _ hcl
        rw [Nat.add_mul] at this; omega
      have e5 : shl .u64 (c : Int) (got : Int) = ((c * 2 ^ got : Nat) : Int) := shl_nat' rfl (by simp only [IntKind.bits]; omega)
      have e6 : bor .u64 (v : Int) ((c * 2 ^ got : Nat) : Int) = ((v + 2 ^ got * c : Nat) : Int) := by
        rw [bor_nat (k := .u64) rfl (by simp only [IntKind.bits]; omega) (by simp only [IntKind.bits]; omega), Nat.or_comm]
        have := Nat.shiftLeft_add_eq_or_of_lt (i := got) (b := v) hvlt c
        rw [Nat.shiftLeft_eq] at this
        rw [← this, Nat.add_comm, Nat.mul_comm]
      rw [bits_Reader_ahead.l1, if_pos ⟨by omega, by rw [e8]; omega⟩, bnd_eq, e0, bnd_eq, e1, e9, gd_pos (by omega), gd_pos (by rw [hw _ (by omega)]; omega), gd_pos (by rw [hw _ (by omega)]; omega), bnd_eq, e2, e3, gd_pos (by rw [hw _ (by omega)]; omega), bnd_eq, hw got (by omega), e5, e6, bnd_eq, bnd_eq]
      have e10 : IntKind.i64.wrap ((got : Int) + (j : Int)) = ((got + j : Nat) : Int) := by rw [wr_i64 (by omega)]; omega
      have e11 : IntKind.i64.wrap ((a : Int) + (j : Int)) = ((at0 + (got + j) : Nat) : Int) := by rw [wr_i64 (by omega)]; omega
      rw [e10, e11]
      refine ih k (got + j) (v + 2 ^ got * c) (by omega) (by omega) (by omega) ?_ (by omega)
      have e12 : ((unpack d).drop at0).take (got + j) = ((unpack d).drop at0).take got ++ (((unpack d).drop at0).drop got).take j := by rw [List.take_add]
      rw [e12, val_append, hlen, ← hv, List.drop_drop, hA, e4]
    · rw [bits_Reader_ahead.l1, if_neg (by rw [e8]; omega)]
      congr 2
      by_cases hg2 : got = n
      · rw [hv, hg2]
      · have hL : ((unpack d).drop at0).length ≤ got := by rw [List.length_drop, unpack_length]; omega
        rw [hv, List.take_of_length_le hL, List.take_of_length_le (by omega)]

theorem bits_Reader_ahead_spec (d : List Int) (hd : ∀ x ∈ d, 0 ≤ x ∧ x < 256) (hl : d.length ≤ 33554432) (n : Nat) (hn : n ≤ 32) (a : Nat) (ha : a ≤ 8 * d.length) :
    bits_Reader_ahead.f d (a : Int) (n : Int) = some ((val (((unpack d).drop a).take n) : Nat) : Int) := by
  have := ahead_loop d hd hl n hn a n FU 0 0 (by omega) (by rw [FU_eq]; omega) (by omega) rfl (by omega)
  have h2 : bits_Reader_ahead.l1 FU 0 0 (a : Int) d (n : Int) = _ := this
  rw [bits_Reader_ahead.f, h2, Option.bind_some]
  have h3 := val_lt (((unpack d).drop a).take n)
  have h4 : 2 ^ (((unpack d).drop a).take n).length ≤ 2 ^ 32 := Nat.pow_le_pow_right (by omega) (by simp; omega)
  rw [wr_u32 (by omega)]
theorem bits_Reader_Left_spec (d : List Int) (hl : d.length ≤ 33554432) (a : Nat) (ha : a ≤ 8 * d.length) : bits_Reader_Left.f d (a : Int) = some ((8 * d.length - a : Nat) : Int) := by
  rw [bits_Reader_Left.f, wr_i64 (x := 8 * (d.length : Int)) (by omega), wr_i64 (by omega)]
  congr 1; omega

theorem bits_Reader_Skip_ok (d : List Int) (hl : d.length ≤ 33554432) (n : Nat) (a : Nat) (ha : a + n ≤ 8 * d.length) :
    bits_Reader_Skip.f d (a : Int) (n : Int) = some (0, d, ((a + n : Nat) : Int)) := by
  rw [bits_Reader_Skip.f, if_neg (by omega), bits_Reader_Left_spec d hl a (by omega), Option.bind_some, if_neg (by omega), wr_i64 (by omega)]
  rfl
theorem bits_Reader_Skip_end (d : List Int) (hl : d.length ≤ 33554432) (n : Nat) (a : Nat) (ha : a ≤ 8 * d.length) (h : 8 * d.length < a + n) :
    bits_Reader_Skip.f d (a : Int) (n : Int) = some (30, d, (a : Int)) := by
  rw [bits_Reader_Skip.f, if_neg (by omega), bits_Reader_Left_spec d hl a (by omega), Option.bind_some, if_pos (by omega)]

theorem bits_Reader_Peek_spec (d : List Int) (hd : ∀ x ∈ d, 0 ≤ x ∧ x < 256) (hl : d.length ≤ 33554432) (n : Nat) (hn : n ≤ 32) (a : Nat) (ha : a ≤ 8 * d.length) :
    bits_Reader_Peek.f d (a : Int) (n : Int) = some (((val (((unpack d).drop a).take n) : Nat) : Int), ((min n (8 * d.length - a) : Nat) : Int)) := by
  rw [bits_Reader_Peek.f, if_neg (by omega), bits_Reader_ahead_spec d hd hl n hn a (by omega), Option.bind_some, bits_Reader_Left_spec d hl a (by omega), Option.bind_some]
  congr 2; omega

/-- The low n bits of v, turned round, behind acc. -/
def rev : Nat → Nat → Nat → Nat
  | 0, _, acc => acc
  | n + 1, v, acc => rev n (v / 2) (acc * 2 + v % 2)

theorem rev_acc (n : Nat) : ∀ v acc, rev n v acc = acc * 2 ^ n + rev n v 0 := by
  induction n with
  | zero => intro v acc; simp [rev]
  | succ n ih =>
    intro v acc
    rw [rev, rev, ih, ih (v / 2) (0 * 2 + v % 2), Nat.pow_succ]
    generalize rev n (v / 2) 0 = z
    rw [Nat.add_mul, Nat.add_mul, Nat.mul_assoc, Nat.mul_comm 2 (2 ^ n)]
    simp [Nat.add_assoc]
theorem rev_low (m : Nat) : ∀ v, rev (m + 1) v 0 = v / 2 ^ m % 2 + 2 * rev m v 0 := by
  induction m with
  | zero => intro v; simp [rev]
  | succ m ih =>
    intro v
    rw [rev, rev_acc, ih (v / 2), rev, rev_acc m (v / 2) (0 * 2 + v % 2), Nat.div_div_eq_div_mul, Nat.pow_succ, Nat.mul_comm (2 ^ m) 2]
    rw [Nat.mul_add, ← Nat.mul_assoc, ← Nat.mul_assoc]
    simp only [Nat.zero_mul, Nat.zero_add, Nat.mul_comm, Nat.mul_left_comm]
    omega
theorem rev_lt (n : Nat) : ∀ v acc t, acc < 2 ^ t → rev n v acc < 2 ^ (t + n) := by
  induction n with
  | zero => intro v acc t h; exact h
  | succ n ih =>
    intro v acc t h
    rw [rev, show t + (n + 1) = (t + 1) + n by omega]
    apply ih
    rw [Nat.pow_succ]
    omega

theorem or_low (a b : Nat) (h : b < 2) : a * 2 ||| b = a * 2 + b := by
  have := Nat.shiftLeft_add_eq_or_of_lt (i := 1) (b := b) (by simpa using h) a
  rw [Nat.shiftLeft_eq] at this
  simpa using this.symm

theorem reverse_loop (m : Nat) : ∀ (k v out t : Nat), m < k → v < 2 ^ 32 → out < 2 ^ t → t + m ≤ 32 →
    bits_Reverse.l1 k v out t ((t + m : Nat) : Int) = some ((rev m v out : Nat) : Int) := by
  induction m with
  | zero =>
    intro k v out t hk hv ho ht
    obtain ⟨k, rfl⟩ : ∃ j, k = j + 1 := ⟨k - 1, by omega⟩
    rw [bits_Reverse.l1, if_neg (by omega)]
    simp [rev]
  | succ m ih =>
    intro k v out t hk hv ho ht
    obtain ⟨k, rfl⟩ : ∃ j, k = j + 1 := ⟨k - 1, by omega⟩
    have hp : (2 : Nat) ^ (t + 1) ≤ 2 ^ 32 := Nat.pow_le_pow_right (by omega) (by omega)
    rw [Nat.pow_succ] at hp
    have e1 : shl .u32 (out : Int) (1 : Int) = ((out * 2 : Nat) : Int) := by
      have := shl_nat' (k := .u32) rfl (a := out) (n := 1) (by simp [IntKind.bits]; omega)
      simpa using this
    have e2 : band .u32 (v : Int) (1 : Int) = ((v % 2 : Nat) : Int) := by
      have := band_nat (k := .u32) rfl (a := v) (b := 1) hv (by decide)
      rw [Nat.and_one_is_mod] at this
      exact this
    have e3 : shr .u32 (v : Int) (1 : Int) = ((v / 2 : Nat) : Int) := by
      have := shr_nat (k := .u32) (a := v) (n := 1) hv
      simpa using this
    have e4 : bor .u32 ((out * 2 : Nat) : Int) ((v % 2 : Nat) : Int) = ((out * 2 + v % 2 : Nat) : Int) := by
      rw [bor_nat (k := .u32) rfl (by simp [IntKind.bits]; omega) (by simp [IntKind.bits]; omega), or_low _ _ (by omega)]
    have e5 : IntKind.i64.wrap ((t : Int) + 1) = ((t + 1 : Nat) : Int) := by rw [wr_i64 (by omega)]; rfl
    rw [bits_Reverse.l1, if_pos (by omega), e1, e2, e3, e4, e5]
    simp only [bnd]
    rw [show t + (m + 1) = (t + 1) + m by omega, ih k (v / 2) (out * 2 + v % 2) (t + 1) (by omega) (by omega) (by rw [Nat.pow_succ]; omega) (by omega), rev]

theorem tobits_rev (n : Nat) : ∀ v, tobits n (rev n v 0) = (tobits n v).reverse := by
  induction n with
  | zero => intro v; rfl
  | succ m ih =>
    intro v
    have h2 : (v / 2 ^ m % 2 + 2 * rev m v 0) % 2 = v / 2 ^ m % 2 := by omega
    have h3 : (v / 2 ^ m % 2 + 2 * rev m v 0) / 2 = rev m v 0 := by omega
    rw [rev_low, tobits, h2, h3, ih, tobits_add m 1 v, List.reverse_append]
    rfl
theorem bits_Reverse_spec (v n : Nat) (hn : n ≤ 32) (hv : v < 2 ^ n) : bits_Reverse.f (v : Int) (n : Int) = some (((rev n v 0 : Nat) : Int), 0) := by
  have hp : (2 : Nat) ^ n ≤ 2 ^ 32 := Nat.pow_le_pow_right (by omega) hn
  have hv' : v < 2 ^ 32 := by omega
  have e0 : IntKind.u64.wrap (n : Int) = n := wr_u64 (by omega)
  have ev : IntKind.u64.wrap (v : Int) = v := wr_u64 (by omega)
  have e2 : shr .u64 (v : Int) (n : Int) = 0 := by
    have := shr_nat (k := .u64) (a := v) (n := n) (by simp only [IntKind.bits]; omega)
    rw [Nat.div_eq_of_lt hv] at this; exact this
  have r1 : bits_Reverse.l1 FU v 0 0 n = some ((rev n v 0 : Nat) : Int) := by simpa using reverse_loop n FU v 0 0 (by rw [FU_eq]; omega) hv' (by simp) (by omega)
  rw [bits_Reverse.f, if_neg (by omega), e0, ev, gd_pos (by omega), e2]
  simp only [Option.bind_some, ne_eq, not_true_eq_false, decide_false, Bool.false_eq_true, if_false]
  rw [r1]; rfl

theorem code_none_spec (A B : List Int) (l : Nat → Nat) (n : Nat) (Y : List Int) (w v : Int) : code_Decoder_none.f A B (cl l n) (fsL l n) Y w v = some (decide (0 < v ∧ Y.length = 1 ∧ 0 < w)) := by
  rw [code_Decoder_none.f]
  by_cases c : 0 < v
  · rw [if_pos c, gd_pos (cl_length _ _), gd_pos (fsL_length _ _)]
    simp only [Option.bind_some, decide_eq_true_eq]
    congr 1
    exact decide_eq_decide.2 (by omega)
  · rw [if_neg c]
    simp [c]
theorem code_Next_loop (l : Nat → Nat) (n : Nat) (D : Dec l n) (A B : List Int) (d : List Int) (hd : ∀ x ∈ d, 0 ≤ x ∧ x < 256) (hl : d.length ≤ 33554432) (a : Nat) (ha : a ≤ 8 * d.length)
    (t : List Bool) (ht : t = (unpack d).drop a) (R : Int × Int × List Int × Int)
    (r1 : ∀ s, hits l n t s → R = ((s : Int), 0, d, ((a + l s : Nat) : Int))) (r2 : (∀ s, ¬ hits l n t s) → R = (0, if usedW l n = 1 ∧ 0 < t.length then 55 else 54, d, (a : Int))) (m : Nat) : ∀ (k v : Nat), v + m = 16 → m < k → 1 ≤ v → v - 1 ≤ t.length → (∀ s, hits l n t s → v ≤ l s) → (2 ≤ v → usedW l n ≠ 1) →
    code_Decoder_Next.l1 k (mval (t.take (v - 1)) : Int) (wupto l n v : Int) (v : Int) A B (cl l n) (fsL l n) (symsL l n 16) d (a : Int) (val (t.take 15) : Int) ((min 15 t.length : Nat) : Int) = some (.inl R) := by
  have tl : t.length = 8 * d.length - a := by rw [ht, List.length_drop, unpack_length]
  have hU : (symsL l n 16).length = usedW l n := symsL_used D.ok
  have hn := D.small
  induction m with
  | zero =>
    intro k v hv hk h1 hvt hh hsg
    exfalso
    have full : takeW l n = 2 ^ 15 := by
      rcases D.full with e | e
      · omega
      · exact absurd e.1 (hsg (by omega))
    obtain ⟨s, hs⟩ := hits_full (l := l) (n := n) D.ok full (t := t) (by omega)
    have := hh s hs
    have := D.ok s hs.1
    omega
  | succ m ih =>
    intro k v hv hk h1 hvt hh hsg
    obtain ⟨k, rfl⟩ : ∃ j, k = j + 1 := ⟨k - 1, by omega⟩
    have e1 : IntKind.i64.wrap ((v : Int) - 1) = ((v - 1 : Nat) : Int) := by rw [wr_i64 (by omega)]; omega
    rw [code_Decoder_Next.l1, if_pos (by omega), e1]
    by_cases c : t.length < v
    · have nh : ∀ s, ¬ hits l n t s := fun s hs => by
        have := hh s hs
        have := ((hits_iff D.ok D.take hs.1 hs.2.1).1 hs).1
        omega
      have e2 : (decide (0 < ((v - 1 : Nat) : Int) ∧ (symsL l n 16).length = 1 ∧ (0 : Int) < (mval (t.take (v - 1)) : Int))) = false := decide_eq_false (by
        intro f
        have := hsg (by omega)
        omega)
      rw [if_pos (by omega), code_none_spec, e2, r2 nh]
      simp only [Option.bind_some, Bool.false_eq_true, if_false]
      rw [if_neg (by
        intro f
        have := hsg (by omega)
        omega)]
    · have hvl : v - 1 < t.length := by omega
      have hx : t.take v = t.take (v - 1) ++ [t[v - 1]] := by have := take_step t hvl; rwa [show v - 1 + 1 = v by omega] at this
      have hm : mval (t.take v) = 2 * mval (t.take (v - 1)) + (t[v - 1]).toNat := by rw [hx, mval_snoc]
      have hb : val (t.take 15) / 2 ^ (v - 1) % 2 = (t[v - 1]).toNat := by
        rw [val_bit _ (by rw [List.length_take]; omega), List.getElem_take]
      have hml : mval (t.take (v - 1)) < 2 ^ 15 := by
        have := mval_lt (t.take (v - 1))
        have h2 : 2 ^ (t.take (v - 1)).length ≤ 2 ^ 15 := Nat.pow_le_pow_right (by omega) (by rw [List.length_take]; omega)
        omega
      have hm2 : mval (t.take v) < 65536 := by have : (t[v - 1]).toNat < 2 := Bool.toNat_lt _; omega
      have hz : val (t.take 15) < 2 ^ 32 := by
        have := val_lt (t.take 15)
        have h2 : 2 ^ (t.take 15).length ≤ 2 ^ 15 := Nat.pow_le_pow_right (by omega) (by rw [List.length_take]; omega)
        omega
      have e3 : shr .u32 (val (t.take 15) : Int) ((v - 1 : Nat) : Int) = ((val (t.take 15) / 2 ^ (v - 1) : Nat) : Int) := shr_nat (k := .u32) (by simp only [IntKind.bits]; omega)
      have e4 : band .u32 ((val (t.take 15) / 2 ^ (v - 1) : Nat) : Int) 1 = ((t[v - 1]).toNat : Int) := by
        have h2 : val (t.take 15) / 2 ^ (v - 1) ≤ val (t.take 15) := Nat.div_le_self _ _
        have := band_nat (k := .u32) rfl (a := val (t.take 15) / 2 ^ (v - 1)) (b := 1) (by simp only [IntKind.bits]; omega) (by decide)
        rw [show ((1 : Nat) : Int) = 1 from rfl] at this
        rw [this, Nat.and_one_is_mod, hb]
      have e5 : IntKind.i64.wrap ((t[v - 1]).toNat : Int) = ((t[v - 1]).toNat : Int) := by
        have : (t[v - 1]).toNat < 2 := Bool.toNat_lt _
        exact wr_i64 (by omega)
      have e6 : shl .i64 (mval (t.take (v - 1)) : Int) 1 = ((2 * mval (t.take (v - 1)) : Nat) : Int) := by
        have := shl_i64 (mval (t.take (v - 1))) 1 (by omega) (by omega)
        rw [show ((1 : Nat) : Int) = 1 from rfl, Nat.pow_one, Nat.mul_comm] at this
        exact this
      have e7 := bor_i64 (mval (t.take (v - 1))) t[v - 1] (by omega)
      rw [← hm] at e7
      have hf := fstW_le2 (l := l) hn (v := v) (by omega)
      have hc := cntL_le l v n
      have hw := wupto_le l n v
      have hw2 : v * n ≤ 15 * 288 := Nat.mul_le_mul (by omega) hn
      have e8 : IntKind.i64.wrap ((mval (t.take v) : Int) - (fstW l n v : Int)) = (mval (t.take v) : Int) - (fstW l n v : Int) := wr_i64 (by omega)
      rw [if_neg (by omega), gd_pos (by omega), bnd_eq, e3, e4, e5, e6, e7, gd_pos (by omega), gd_pos (fsL_length _ _), gd_pos (cl_length _ _), bnd_eq, rd_fsL (by omega), rd_cl h1 (by omega), e8]
      by_cases g : fstW l n v ≤ mval (t.take v) ∧ mval (t.take v) < fstW l n v + cntL l v n
      · obtain ⟨s, s1, s2, s3⟩ := D.hit_at h1 (by omega) g
        have hsy := symsL_at s1.1 (by omega) (by omega) (l := l) (n := n) (s := s)
        rw [s2, s3] at hsy
        have hlt := lt_of_at hsy
        have e9 : IntKind.i64.wrap ((wupto l n v : Int) + ((mval (t.take v) : Int) - (fstW l n v : Int))) = ((wupto l n v + (mval (t.take v) - fstW l n v) : Nat) : Int) := by rw [wr_i64 (by omega)]; omega
        rw [if_pos (by omega), bits_Reader_Skip_ok d hl v a (by omega)]
        simp only [Option.bind_some]
        rw [if_neg (by decide), e9, gd_pos (by omega), rd_at hsy, r1 s s1, s2]
      · have nv : ∀ s, hits l n t s → v + 1 ≤ l s := fun s hs => by
          have h3 := hh s hs
          by_cases e : l s = v
          · have := D.at_hit hs; rw [e] at this; exact absurd this g
          · omega
        rw [if_neg (by omega), code_none_spec]
        simp only [Option.bind_some]
        by_cases o : usedW l n = 1
        · have v1 : v = 1 := by
            apply Classical.byContradiction
            intro f; exact hsg (by omega) o
          subst v1
          have pos : 0 < mval (t.take 1) := by
            apply Nat.pos_of_ne_zero
            intro f
            obtain ⟨s, s1, s2⟩ := D.single_hit o (t := t) (by omega) f
            have := nv s s2
            omega
          have nh : ∀ s, ¬ hits l n t s := fun s hs => by
            have := nv s hs
            have := D.single_len o hs.1 hs.2.1
            omega
          have e2 : decide (0 < ((1 : Nat) : Int) ∧ (symsL l n 16).length = 1 ∧ (0 : Int) < (mval (t.take 1) : Int)) = true := decide_eq_true (by omega)
          rw [e2, if_pos rfl, r2 nh, if_pos ⟨o, by omega⟩]
        · have e2 : decide (0 < (v : Int) ∧ (symsL l n 16).length = 1 ∧ (0 : Int) < (mval (t.take v) : Int)) = false := decide_eq_false (by omega)
          have e9 : IntKind.i64.wrap ((wupto l n v : Int) + (cntL l v n : Int)) = ((wupto l n (v + 1) : Nat) : Int) := by rw [wr_i64 (by omega), wupto, if_neg (by omega)]; rfl
          rw [e2, if_neg (by decide), bnd_eq, e9, bnd_eq, inc_i (by omega)]
          exact ih k (v + 1) (by omega) (by omega) (by omega) (by omega) nv (fun _ => o)
theorem code_Next_any (l : Nat → Nat) (n : Nat) (D : Dec l n) (A B : List Int) (d : List Int) (hd : ∀ x ∈ d, 0 ≤ x ∧ x < 256) (hl : d.length ≤ 33554432) (a : Nat) (ha : a ≤ 8 * d.length) (R : Int × Int × List Int × Int)
    (r1 : ∀ s, hits l n ((unpack d).drop a) s → R = ((s : Int), 0, d, ((a + l s : Nat) : Int))) (r2 : (∀ s, ¬ hits l n ((unpack d).drop a) s) → R = (0, if usedW l n = 1 ∧ 0 < ((unpack d).drop a).length then 55 else 54, d, (a : Int))) :
    code_Decoder_Next.f A B (cl l n) (fsL l n) (symsL l n 16) d (a : Int) = some R := by
  have tl : ((unpack d).drop a).length = 8 * d.length - a := by rw [List.length_drop, unpack_length]
  have key := code_Next_loop l n D A B d hd hl a ha _ rfl R r1 r2 15 FU 1 (by omega) (by rw [FU_eq]; omega) (by omega) (by omega) (fun s hs => hs.2.1) (fun h => by omega)
  have e1 : wupto l n 1 = 0 := by simp [wupto]
  rw [e1, tl] at key
  have key' : code_Decoder_Next.l1 FU 0 0 1 A B (cl l n) (fsL l n) (symsL l n 16) d (a : Int) (val (((unpack d).drop a).take 15) : Int) ((min 15 (8 * d.length - a) : Nat) : Int) = some (.inl R) := key
  have hp := bits_Reader_Peek_spec d hd hl 15 (by omega) a ha
  rw [show ((15 : Nat) : Int) = 15 from rfl] at hp
  rw [code_Decoder_Next.f, hp]
  simp only [Option.bind_some]
  rw [key']
  rfl
theorem code_Next_hit {l : Nat → Nat} {n : Nat} (D : Dec l n) (A B : List Int) {d : List Int} (hd : ∀ x ∈ d, 0 ≤ x ∧ x < 256) (hl : d.length ≤ 33554432) {a : Nat} (ha : a ≤ 8 * d.length) {s : Nat} (hs : hits l n ((unpack d).drop a) s) :
    code_Decoder_Next.f A B (cl l n) (fsL l n) (symsL l n 16) d (a : Int) = some ((s : Int), 0, d, ((a + l s : Nat) : Int)) :=
  code_Next_any l n D A B d hd hl a ha _ (fun r hr => by rw [hits_one D.ok D.take hr hs]) (fun f => absurd hs (f s))
theorem code_Next_miss {l : Nat → Nat} {n : Nat} (D : Dec l n) (A B : List Int) {d : List Int} (hd : ∀ x ∈ d, 0 ≤ x ∧ x < 256) (hl : d.length ≤ 33554432) {a : Nat} (ha : a ≤ 8 * d.length) (hs : ∀ s, ¬ hits l n ((unpack d).drop a) s) :
    code_Decoder_Next.f A B (cl l n) (fsL l n) (symsL l n 16) d (a : Int) = some (0, if usedW l n = 1 ∧ 0 < ((unpack d).drop a).length then 55 else 54, d, (a : Int)) :=
  code_Next_any l n D A B d hd hl a ha _ (fun r hr => absurd hr (hs r)) (fun _ => rfl)

/-- The error of a list of which no encoder is made. -/
def encE (lens : List Int) : Int := if badL lens ≠ 0 then badL lens else if shapeW (usedW (ln lens) lens.length) (takeW (ln lens) lens.length) = 2 then 52 else if shapeW (usedW (ln lens) lens.length) (takeW (ln lens) lens.length) = 3 then 51 else 0
theorem code_NewEncoder_spec (lens : List Int) : code_NewEncoder.f lens = some (if encE lens = 0 then (some (lens, wsL (ln lens) lens.length, cl (ln lens) lens.length, fsL (ln lens) lens.length), 0) else (none, encE lens)) := by
  rw [code_NewEncoder.f, code_count_spec]
  by_cases a : badL lens = 0
  · obtain ⟨h1, h2⟩ := badL_ok a
    rw [if_pos a]
    simp only [Option.bind_some]
    rw [gd_pos (cl_length _ _), if_neg (by decide), code_shape_spec _ _ h1 (fun j _ => ln_le h2 j)]
    simp only [Option.bind_some]
    have eD : encE lens = if shapeW (usedW (ln lens) lens.length) (takeW (ln lens) lens.length) = 2 then 52 else if shapeW (usedW (ln lens) lens.length) (takeW (ln lens) lens.length) = 3 then 51 else 0 := by
      unfold encE; rw [if_neg (fun f => f a)]
    rw [eD]
    generalize shapeW (usedW (ln lens) lens.length) (takeW (ln lens) lens.length) = S
    rw [code_refused_spec]
    simp only [Option.bind_some]
    by_cases c2 : S = 2
    · rw [if_pos c2]; rfl
    · rw [if_neg c2]
      by_cases c3 : S = 3
      · rw [if_pos c3]; rfl
      · rw [if_neg c3, if_neg (by decide), if_pos rfl, code_makeTable_spec lens h1 h2]
        simp only [Option.bind_some]
        rw [gd_pos (cl_length _ _), gd_pos (fsL_length _ _)]
  · rw [if_neg a]
    simp only [Option.bind_some]
    have eD : encE lens = badL lens := by unfold encE; rw [if_pos a]
    rw [gd_pos (by simp), if_pos a, eD, if_neg a]
theorem encE_ok {lens : List Int} (h : encE lens = 0) : lens.length ≤ 288 ∧ (∀ x ∈ lens, okx x) ∧ takeW (ln lens) lens.length ≤ 32768 := by
  unfold encE at h
  by_cases a : badL lens = 0
  · rw [if_neg (fun f => f a)] at h
    obtain ⟨h1, h2⟩ := badL_ok a
    refine ⟨h1, h2, ?_⟩
    apply Classical.byContradiction
    intro c
    have := shape_over.2 (show 32768 < takeW (ln lens) lens.length by omega)
    rw [this] at h
    simp at h
  · rw [if_pos a] at h; exact absurd h a
/-- A symbol that has a word. -/
def goodS (lens : List Int) (x : Int) : Prop := 0 ≤ x ∧ x < (lens.length : Int) ∧ 0 < ln lens x.toNat
instance (lens : List Int) (x : Int) : Decidable (goodS lens x) := by unfold goodS; exact inferInstance
/-- The bits that a symbol is put as. -/
def encW (lens : List Int) (x : Int) : List Bool := if goodS lens x then wbits (ln lens) lens.length x.toNat else []
theorem encW_length (lens : List Int) (h : ∀ y ∈ lens, okx y) (x : Int) : (encW lens x).length ≤ 15 := by
  unfold encW
  by_cases c : goodS lens x
  · rw [if_pos c, wbits_length]; exact ln_le h _
  · rw [if_neg c]; simp
theorem code_Len_spec (lens : List Int) (h : ∀ y ∈ lens, okx y) (B C D : List Int) (x : Int) : code_Encoder_Len.f lens B C D x = some (if goodS lens x then (ln lens x.toNat : Int) else 0) := by
  rw [code_Encoder_Len.f]
  by_cases c : x < 0 ∨ (lens.length : Int) ≤ x
  · rw [if_pos c, if_neg (fun g => by unfold goodS at g; omega)]
  · obtain ⟨i, rfl⟩ : ∃ i : Nat, x = i := ⟨x.toNat, by omega⟩
    rw [if_neg c, gd_pos (by omega), rd_ln h (by omega), Int.toNat_natCast]
    by_cases g : goodS lens (i : Int)
    · rw [if_pos g]
    · rw [if_neg g]
      have : ¬ 0 < ln lens i := fun f => g ⟨by omega, by omega, by rw [Int.toNat_natCast]; exact f⟩
      congr 1; omega
theorem code_Put_spec (lens : List Int) (hn : lens.length ≤ 288) (h : ∀ y ∈ lens, okx y) (hT : takeW (ln lens) lens.length ≤ 32768) (C D : List Int) (s : List Bool) (hs : s.length + 15 ≤ 268435456) (x : Int) :
    code_Encoder_Put.f lens (wsL (ln lens) lens.length) C D (pack s) (s.length : Int) x = some (if goodS lens x then 0 else 56, pack (s ++ encW lens x), ((s ++ encW lens x).length : Int)) := by
  rw [code_Encoder_Put.f, code_Len_spec lens h]
  simp only [Option.bind_some]
  unfold encW
  by_cases g : goodS lens x
  · obtain ⟨g1, g2, g3⟩ := id g
    obtain ⟨i, rfl⟩ : ∃ i : Nat, x = i := ⟨x.toNat, by omega⟩
    rw [Int.toNat_natCast] at g3
    rw [if_pos g, if_pos g, if_pos g, Int.toNat_natCast]
    have hil : i < lens.length := by omega
    have h15 := ln_le h i
    have hw := word_lt (fun j _ => ln_le h j) hT hil g3
    have hp : 2 ^ ln lens i ≤ 2 ^ 15 := Nat.pow_le_pow_right (by omega) h15
    have e1 : IntKind.u32.wrap (wordW (ln lens) lens.length i : Int) = (wordW (ln lens) lens.length i : Int) := wrap_nat (k := .u32) rfl (by simp only [IntKind.bits]; omega)
    have hr := rev_lt (ln lens i) (wordW (ln lens) lens.length i) 0 0 (by simp)
    rw [Nat.zero_add] at hr
    rw [if_neg (by omega), gd_pos (by rw [wsL_length]; omega), rd_wsL hil, if_pos g3, e1, bits_Reverse_spec _ _ (by omega) hw]
    simp only [Option.bind_some]
    rw [if_neg (by decide), put_ok s _ _ (by omega) (by omega) hr (by omega), tobits_rev]
    rfl
  · rw [if_neg g, if_neg g, if_neg g, List.append_nil]
    simp only [if_true]
theorem good_hits {lens : List Int} {x : Int} (g : goodS lens x) (z : List Bool) : hits (ln lens) lens.length (encW lens x ++ z) x.toNat := by
  obtain ⟨g1, g2, g3⟩ := id g
  unfold encW
  rw [if_pos g]
  exact ⟨by omega, g3, List.prefix_append _ _⟩
theorem flat_le (lens : List Int) (h : ∀ y ∈ lens, okx y) (xs : List Int) : (xs.flatMap (encW lens)).length ≤ 15 * xs.length := by
  induction xs with
  | nil => simp
  | cons x r ih => have := encW_length lens h x; simp only [List.flatMap_cons, List.length_append, List.length_cons]; omega

theorem encE_dec {lens : List Int} (h : decE lens = 0) : encE lens = 0 := by
  obtain ⟨a, _, b⟩ := decE_ok h
  unfold encE
  rw [if_neg (fun f => f a)]
  rcases b with e | e <;> rw [e] <;> simp

theorem ln_lf {n : Nat} {f : Nat → Nat} {j : Nat} (h : j < n) : ln (lf n f) j = f j := by
  have : (lf n f)[j]? = some (f j : Int) := by unfold lf; simp [h]
  rw [ln_at this, Int.toNat_natCast]
theorem lf_okx {n : Nat} {f : Nat → Nat} (h : ∀ i, i < n → f i ≤ 15) : ∀ x ∈ lf n f, okx x := fun x hx => by
  obtain ⟨i, hi, rfl⟩ := List.mem_map.1 hx
  have := h i (List.mem_range.1 hi)
  unfold okx; omega
theorem lf_badL {f : Nat → Nat} (h : ∀ i, i < 256 → f i ≤ 15) : badL (lf 256 f) = 0 := by
  unfold badL
  rw [lf_length, if_neg (by omega), if_pos (lf_okx h)]
theorem sumU_one (a : List Int) : sumU a (fun _ => 1) = (uS a).length := by
  rw [← sumU_us a (fun _ => 1)]
  generalize uS a = l
  induction l with
  | nil => rfl
  | cons x l ih => rw [List.map_cons, List.sum_cons, ih, List.length_cons]; omega
/-- What a list of lengths for just the used symbols takes. -/
theorem lf_used (a : List Int) (ha : a.length = 256) (L : Nat → Nat) (h1 : ∀ i, used a i → 1 ≤ L i) (h0 : ∀ i, i < a.length → ¬ 0 < rd a (i : Int) → L i = 0) : usedW (ln (lf 256 L)) 256 = (uS a).length := by
  rw [← sumU_one]
  unfold usedW sumU
  rw [ha]
  refine sumN_eq fun i hi => ?_
  rw [ln_lf hi]
  by_cases c : 0 < rd a (i : Int)
  · have := h1 i ⟨by omega, c⟩
    rw [if_pos c, if_pos (by omega)]
  · rw [if_neg c, h0 i (by omega) c]; rfl
theorem lf_take (a : List Int) (ha : a.length = 256) (L : Nat → Nat) (h1 : ∀ i, used a i → 1 ≤ L i ∧ L i ≤ 15) (h0 : ∀ i, i < a.length → ¬ 0 < rd a (i : Int) → L i = 0) : takeW (ln (lf 256 L)) 256 * 2 ^ 45 = sumU a (fun i => 2 ^ (60 - L i)) := by
  unfold takeW sumU
  rw [ha, ← sumN_mul]
  refine sumN_eq fun i hi => ?_
  rw [ln_lf hi]
  by_cases c : 0 < rd a (i : Int)
  · have := h1 i ⟨by omega, c⟩
    rw [if_pos c, if_pos (by omega), ← Nat.pow_add]
    congr 1; omega
  · rw [if_neg c, h0 i (by omega) c]; rfl
theorem lf_decE (a : List Int) (ha : a.length = 256) (L : Nat → Nat) (h15 : ∀ i, i < 256 → L i ≤ 15) (h1 : ∀ i, used a i → 1 ≤ L i ∧ L i ≤ 15) (h0 : ∀ i, i < a.length → ¬ 0 < rd a (i : Int) → L i = 0) (hf : 2 ≤ (uS a).length → sumU a (fun i => 2 ^ (60 - L i)) = 2 ^ 60) (ho : (uS a).length < 2 → ∀ i, used a i → L i = 1) (hu : 1 ≤ (uS a).length) : decE (lf 256 L) = 0 := by
  have e1 := lf_used a ha L (fun i hi => (h1 i hi).1) h0
  have e2 := lf_take a ha L h1 h0
  refine decE_of (lf_badL h15) ?_
  rw [lf_length, e1]
  by_cases c : 2 ≤ (uS a).length
  · rw [hf c] at e2
    have e3 : takeW (ln (lf 256 L)) 256 = 32768 := by omega
    rw [e3]
    refine .inr ?_
    unfold shapeW
    rw [if_neg (by omega), if_neg (by omega), if_neg (by omega), if_pos rfl]
  · have e4 : sumU a (fun i => 2 ^ (60 - L i)) = sumU a (fun _ => 1 * 2 ^ 59) := sumU_eq fun i hi => by rw [ho (by omega) i hi]
    rw [e4, sumU_mul, sumU_one] at e2
    have e5 : (uS a).length = 1 := by omega
    rw [e5] at e2 ⊢
    have e3 : takeW (ln (lf 256 L)) 256 = 16384 := by omega
    rw [e3]
    exact .inl rfl
theorem lf_encE_empty (a : List Int) (ha : a.length = 256) (L : Nat → Nat) (h15 : ∀ i, i < 256 → L i ≤ 15) (h0 : ∀ i, i < a.length → ¬ 0 < rd a (i : Int) → L i = 0) (h1 : ∀ i, used a i → 1 ≤ L i) (hu : (uS a).length = 0) : encE (lf 256 L) = 0 := by
  have e1 := lf_used a ha L h1 h0
  unfold encE
  rw [if_neg (fun f => f (lf_badL h15)), lf_length, e1, hu]
  unfold shapeW
  rw [if_pos rfl, if_neg (by decide), if_neg (by decide)]
/-- The counts of a text. -/
def cntF (text : List Int) (i : Nat) : Nat := text.count (i : Int)
theorem counts_spec (text : List Int) (ht : text.length ≤ 16777216) (hb : ∀ x ∈ text, 0 ≤ x ∧ x < 256) : valiselaw6_counts.f text = some (lf 256 (cntF text)) := by
  have loop1 : ∀ (m k i : Nat), i + m = 256 → m < k → valiselaw6_counts.l1 k (List.replicate i 0) (i : Int) = some (List.replicate 256 0) := by
    intro m
    induction m with
    | zero =>
      intro k i hi hk
      obtain ⟨k, rfl⟩ : ∃ q, k = q + 1 := ⟨k - 1, by omega⟩
      rw [valiselaw6_counts.l1, if_neg (by omega), show i = 256 by omega]
    | succ m ih =>
      intro k i hi hk
      obtain ⟨k, rfl⟩ : ∃ q, k = q + 1 := ⟨k - 1, by omega⟩
      have key := ih k (i + 1) (by omega) (by omega)
      rw [List.replicate_succ'] at key
      rw [valiselaw6_counts.l1, if_pos (by omega), bnd_eq, gd_pos (by simp <;> omega), bnd_eq, inc_i (by omega)]
      exact key
  have loop3 : ∀ (R : List Int) (k : Nat) (D : List Int), text = D ++ R → R.length < k → valiselaw6_counts.l3 k (lf 256 (cntF D)) (D.length : Int) text = some (lf 256 (cntF text)) := by
    intro R
    induction R with
    | nil =>
      intro k D e hk
      obtain ⟨k, rfl⟩ : ∃ q, k = q + 1 := ⟨k - 1, by omega⟩
      rw [List.append_nil] at e
      rw [valiselaw6_counts.l3, e, if_neg (by omega)]
    | cons x R ih =>
      intro k D e hk
      obtain ⟨k, rfl⟩ : ∃ q, k = q + 1 := ⟨k - 1, by omega⟩
      simp only [List.length_cons] at hk
      have hat : text[D.length]? = some x := by rw [e, List.getElem?_append_right (Nat.le_refl _), Nat.sub_self]; rfl
      have hlt := lt_of_at hat
      obtain ⟨h0, h1⟩ := hb x (List.mem_of_getElem? hat)
      obtain ⟨s, rfl⟩ : ∃ s : Nat, x = s := ⟨x.toNat, by omega⟩
      have hs : s < 256 := by omega
      have hc : cntF D s ≤ D.length := List.count_le_length
      have key := ih k (D ++ [(s : Int)]) (by rw [e]; simp) (by omega)
      have ef : (lf 256 fun i => if i = s then cntF D s + 1 else cntF D i) = lf 256 (cntF (D ++ [(s : Int)])) := lf_congr fun i _ => by
        unfold cntF
        rw [List.count_append]
        by_cases c : i = s
        · subst c; simp
        · have c2 : ¬ ((s : Int) = (i : Int)) := by omega
          simp [c, c2]
      rw [← ef] at key
      have el := lf_length 256 (cntF D)
      rw [valiselaw6_counts.l3, if_pos (by omega), gd_pos (by omega), rd_at hat, gd_pos (by omega), bnd_eq, lf_rd hs, inc_i (by omega), bnd_eq, inc_i (by omega), Int.toNat_natCast, lf_set]
      simp only [List.length_append, List.length_cons, List.length_nil, Nat.zero_add] at key
      exact key
  have k1 := loop1 256 FU 0 (by omega) (by rw [FU_eq]; omega)
  have k1' : valiselaw6_counts.l1 FU ([] : List Int) 0 = _ := k1
  have k3 := loop3 text FU [] rfl (by rw [FU_eq]; omega)
  have e0 : lf 256 (cntF []) = List.replicate 256 0 := by rw [lf_zero]; exact lf_congr fun i _ => rfl
  rw [e0] at k3
  have k3' : valiselaw6_counts.l3 FU (List.replicate 256 0) 0 text = _ := k3
  rw [valiselaw6_counts.f, k1']
  simp only [Option.bind_some]
  rw [k3']
  rfl
theorem flat_cost (L : Nat → Nat) : ∀ (text : List Int), (∀ x ∈ text, 0 ≤ x ∧ x < 256) → (text.map fun x => L x.toNat).sum = sumN 256 fun i => cntF text i * L i := by
  intro text
  induction text with
  | nil => intro _; exact (sumN_zero fun j _ => by simp [cntF]).symm
  | cons x t ih =>
    intro hb
    obtain ⟨h0, h1⟩ := hb x (by simp)
    obtain ⟨s, rfl⟩ : ∃ s : Nat, x = s := ⟨x.toNat, by omega⟩
    rw [List.map_cons, List.sum_cons, ih fun y hy => hb y (by simp [hy])]
    have h2 := sumN_turn (n := 256) (f := fun i => cntF t i * L i) (g := fun i => cntF ((s : Int) :: t) i * L i) (i := s) (by omega) (fun j _ hj => by
      have c2 : ¬ ((s : Int) = (j : Int)) := by omega
      simp only [cntF, List.count_cons]
      simp [c2])
    have h3 : cntF ((s : Int) :: t) s = cntF t s + 1 := by simp [cntF]
    simp only [h3, Nat.add_mul, Nat.one_mul] at h2
    rw [Int.toNat_natCast]
    omega
theorem flat_len (L : Nat → Nat) (text : List Int) (hg : ∀ x ∈ text, goodS (lf 256 L) x) : (text.flatMap (encW (lf 256 L))).length = (text.map fun x => L x.toNat).sum := by
  induction text with
  | nil => rfl
  | cons x t ih =>
    have g := hg x (by simp)
    obtain ⟨g1, g2, _⟩ := id g
    rw [lf_length] at g2
    rw [List.flatMap_cons, List.length_append, ih fun y hy => hg y (by simp [hy]), List.map_cons, List.sum_cons]
    congr 1
    unfold encW
    rw [if_pos g, wbits_length, ln_lf (by omega)]
theorem coded_put (lens : List Int) (hn : lens.length ≤ 288) (h : ∀ y ∈ lens, okx y) (hT : takeW (ln lens) lens.length ≤ 32768) (C F : List Int) (text : List Int) (ht : text.length ≤ 16777216) (hb : ∀ x ∈ text, 0 ≤ x ∧ x < 256) (hg : ∀ x ∈ text, goodS lens x) : ∀ (R : List Int) (k : Nat) (D : List Int), text = D ++ R → R.length < k →
    valiselaw6_coded.l1 k (pack (D.flatMap (encW lens))) ((D.flatMap (encW lens)).length : Int) (D.length : Int) text lens (wsL (ln lens) lens.length) C F = some (.inr (pack (text.flatMap (encW lens)), ((text.flatMap (encW lens)).length : Int))) := by
  intro R
  induction R with
  | nil =>
    intro k D e hk
    obtain ⟨k, rfl⟩ : ∃ q, k = q + 1 := ⟨k - 1, by omega⟩
    rw [List.append_nil] at e
    rw [valiselaw6_coded.l1, e, if_neg (by omega)]
  | cons x R ih =>
    intro k D e hk
    obtain ⟨k, rfl⟩ : ∃ q, k = q + 1 := ⟨k - 1, by omega⟩
    simp only [List.length_cons] at hk
    have hat : text[D.length]? = some x := by rw [e, List.getElem?_append_right (Nat.le_refl _), Nat.sub_self]; rfl
    have hlt := lt_of_at hat
    have hm := List.mem_of_getElem? hat
    have hx := hb x hm
    have hfl := flat_le lens h D
    have key := ih k (D ++ [x]) (by rw [e]; simp) (by omega)
    have ea : (D ++ [x]).flatMap (encW lens) = D.flatMap (encW lens) ++ encW lens x := by simp
    rw [ea] at key
    rw [valiselaw6_coded.l1, if_pos (by omega), gd_pos (by omega), rd_at hat, wr_i64 (by omega), code_Put_spec lens hn h hT C F _ (by omega), if_pos (hg x hm)]
    simp only [Option.bind_some]
    rw [if_neg (by decide), bnd_eq, inc_i (by omega)]
    simp only [List.length_append, List.length_cons, List.length_nil, Nat.zero_add] at key ⊢
    exact key
theorem coded_next (lens : List Int) (D : Dec (ln lens) lens.length) (A B : List Int) (d : List Int) (hd : ∀ x ∈ d, 0 ≤ x ∧ x < 256) (hl : d.length ≤ 33554432) (K : List Int) (hK : K.length ≤ 16777216) (hb : ∀ x ∈ K, 0 ≤ x ∧ x < 256) (good : ∀ x ∈ K, goodS lens x) (z : List Bool) (m : Nat) : ∀ (k i a : Nat), i + m = K.length → m < k → (unpack d).drop a = (K.drop i).flatMap (encW lens) ++ z → a ≤ 8 * d.length →
    valiselaw6_coded.l3 k d (a : Int) (i : Int) K A B (cl (ln lens) lens.length) (fsL (ln lens) lens.length) (symsL (ln lens) lens.length 16) = some (.inr (d, ((a + ((K.drop i).flatMap (encW lens)).length : Nat) : Int))) := by
  induction m with
  | zero =>
    intro k i a hi hk hu ha
    obtain ⟨k, rfl⟩ : ∃ j, k = j + 1 := ⟨k - 1, by omega⟩
    rw [valiselaw6_coded.l3, if_neg (by omega), List.drop_of_length_le (by omega)]
    rfl
  | succ m ih =>
    intro k i a hi hk hu ha
    obtain ⟨k, rfl⟩ : ∃ j, k = j + 1 := ⟨k - 1, by omega⟩
    have hx : K[i]? = some K[i] := List.getElem?_eq_getElem (by omega)
    have g := good _ (List.getElem_mem (l := K) (n := i) (by omega))
    have hbx := hb _ (List.getElem_mem (l := K) (n := i) (by omega))
    rw [drop_cons hx, List.flatMap_cons, List.append_assoc] at hu
    have hh := good_hits g ((K.drop (i + 1)).flatMap (encW lens) ++ z)
    have ew : (encW lens K[i]).length = ln lens (K[i]).toNat := by unfold encW; rw [if_pos g, wbits_length]
    have hlen := congrArg List.length hu
    rw [List.length_drop, unpack_length, List.length_append] at hlen
    rw [valiselaw6_coded.l3, if_pos (by omega), code_Next_hit D A B hd hl ha (s := (K[i]).toNat) (by rw [hu]; exact hh)]
    simp only [Option.bind_some]
    rw [if_neg (by decide), gd_pos (by omega), rd_at hx, Int.toNat_of_nonneg g.1, wr_i64 (by omega)]
    simp only [Option.bind_some]
    rw [decide_eq_false (fun f => f rfl), if_neg (by decide), bnd_eq, inc_i (by omega), ih k (i + 1) (a + ln lens (K[i]).toNat) (by omega) (by omega) (by rw [← List.drop_drop, hu, ← ew, List.drop_left]) (by omega)]
    rw [drop_cons hx, List.flatMap_cons, List.length_append, ew]
    congr 4; omega
theorem coded_spec (text lens : List Int) (ht : text.length ≤ 16777216) (hb : ∀ x ∈ text, 0 ≤ x ∧ x < 256) (hg : ∀ x ∈ text, goodS lens x) (wl : lens.length * 8 ≤ 140737488351232) (hE : (text = [] ∧ encE lens = 0 ∧ badL lens = 0 ∧ takeW (ln lens) lens.length ≤ 32768) ∨ decE lens = 0) : valiselaw6_coded.f text lens = some (((text.flatMap (encW lens)).length : Int), true) := by
  have enc : encE lens = 0 ∧ badL lens = 0 ∧ takeW (ln lens) lens.length ≤ 32768 := by
    rcases hE with ⟨_, h⟩ | h
    · exact h
    · obtain ⟨h1, h2, _⟩ := decE_ok h
      exact ⟨encE_dec h, h1, h2.take⟩
  obtain ⟨e1, e2, e3⟩ := enc
  obtain ⟨hn, hok⟩ := badL_ok e2
  have hfl := flat_le lens hok text
  have k1 := coded_put lens hn hok e3 (cl (ln lens) lens.length) (fsL (ln lens) lens.length) text ht hb hg text FU [] rfl (by rw [FU_eq]; omega)
  have pk : pack ([] : List Bool) = [] := List.eq_nil_of_length_eq_zero (by rw [pack_length]; rfl)
  rw [List.flatMap_nil, pk, List.length_nil, List.length_nil, show ((0 : Nat) : Int) = 0 from rfl] at k1
  have k1' : valiselaw6_coded.l1 FU ([] : List Int) 0 0 text lens (wsL (ln lens) lens.length) (cl (ln lens) lens.length) (fsL (ln lens) lens.length) = _ := k1
  rw [valiselaw6_coded.f, bits_NewWriter.f]
  simp only [Option.bind_some]
  rw [valiselaw6_copied_spec lens (by omega)]
  simp only [Option.bind_some]
  rw [code_NewEncoder_spec, if_pos e1]
  simp only [Option.bind_some, onO]
  rw [if_neg (by decide), k1']
  simp only [Option.bind_some, onR, bits_Writer_Len.f]
  by_cases c : text.length = 0
  · have := List.eq_nil_of_length_eq_zero c
    subst this
    rw [if_pos (by rfl)]
    rfl
  · rw [if_neg (by omega)]
    have dE : decE lens = 0 := by
      rcases hE with ⟨h, _⟩ | h
      · subst h; simp at c
      · exact h
    obtain ⟨_, D, _⟩ := decE_ok dE
    have hpl := pack_length (text.flatMap (encW lens))
    have hun := unpack_pack (text.flatMap (encW lens))
    rw [bits_Writer_Bytes_spec _ _ (by omega)]
    simp only [Option.bind_some]
    rw [bits_NewReader_spec _ (by omega)]
    simp only [Option.bind_some, onO]
    rw [code_NewDecoder_spec, if_pos dE]
    simp only [Option.bind_some, onO]
    rw [if_neg (by decide)]
    have k2 := coded_next lens D lens (wsL (ln lens) lens.length) (pack (text.flatMap (encW lens))) (pack_byte _) (by omega) text ht hb hg (List.replicate (8 * (((text.flatMap (encW lens)).length + 7) / 8) - (text.flatMap (encW lens)).length) false) text.length FU 0 0 (by omega) (by rw [FU_eq]; omega) (by rw [hun, List.drop_zero, List.drop_zero]) (by omega)
    rw [List.drop_zero, Nat.zero_add, show ((0 : Nat) : Int) = 0 from rfl] at k2
    rw [k2]
    simp only [Option.bind_some, onR, bits_Reader_At.f]
    simp

theorem lf_succ (n : Nat) (f : Nat → Nat) : lf (n + 1) f = lf n f ++ [(f n : Int)] := by unfold lf; rw [List.range_succ, List.map_append]; rfl
theorem set_snoc (l : List Int) (x v : Int) : (l ++ [x]).set l.length v = l ++ [v] := by simp
theorem coded_l1 (a b : List Int) (ha : a.length = 256) (hb : b.length = 256) (G : Nat → Nat) (hG : ∀ i : Nat, i < 256 → (0 < rd a (i : Int) → rd b (i : Int) = (G i : Int)) ∧ (¬ 0 < rd a (i : Int) → G i = 0)) : ∀ (m k s : Nat), s + m = 256 → m < k → valiselaw6_BuildCoded.l1 k (lf s G) (s : Int) b a = some (lf 256 G) := by
  intro m
  induction m with
  | zero =>
    intro k s hs hk
    obtain ⟨k, rfl⟩ : ∃ q, k = q + 1 := ⟨k - 1, by omega⟩
    rw [valiselaw6_BuildCoded.l1, if_neg (by omega), show s = 256 by omega]
  | succ m ih =>
    intro k s hs hk
    obtain ⟨k, rfl⟩ : ∃ q, k = q + 1 := ⟨k - 1, by omega⟩
    have key := ih k (s + 1) (by omega) (by omega)
    have el : (lf s G ++ [(0 : Int)]).length = s + 1 := by simp [lf_length]
    obtain ⟨g1, g2⟩ := hG s (by omega)
    rw [valiselaw6_BuildCoded.l1, if_pos (by omega), bnd_eq, el, gd_pos (by omega), gd_pos (by omega)]
    by_cases c : 0 < rd a (s : Int)
    · have es : (lf s G ++ [(0 : Int)]).set s (G s : Int) = lf (s + 1) G := by
        have := set_snoc (lf s G) 0 (G s : Int)
        rw [lf_length] at this
        rw [this, lf_succ]
      rw [if_pos c, gd_pos (by omega), gd_pos (by omega), g1 c, Int.toNat_natCast, es, bnd_eq]
      simp only [Option.bind_some]
      rw [bnd_eq, inc_i (by omega)]
      exact key
    · rw [if_neg c]
      simp only [Option.bind_some]
      rw [bnd_eq, inc_i (by omega)]
      rw [lf_succ, g2 c] at key
      exact key
theorem coded_good (text : List Int) (hb : ∀ x ∈ text, 0 ≤ x ∧ x < 256) {L : Nat → Nat} (h : ∀ i, used (lf 256 (cntF text)) i → 1 ≤ L i) : ∀ x ∈ text, goodS (lf 256 L) x := fun x hx => by
  obtain ⟨h0, h1⟩ := hb x hx
  obtain ⟨s, rfl⟩ : ∃ s : Nat, x = s := ⟨x.toNat, by omega⟩
  have hs : s < 256 := by omega
  have hc : 0 < cntF text s := List.count_pos_iff.2 hx
  have hu : used (lf 256 (cntF text)) s := ⟨by rw [lf_length]; exact hs, by rw [lf_rd hs]; omega⟩
  have := h s hu
  unfold goodS
  rw [lf_length, Int.toNat_natCast, ln_lf hs]
  omega
theorem coded_cost (text : List Int) (L : Nat → Nat) : costU (lf 256 (cntF text)) L = sumN 256 fun i => cntF text i * L i := by
  unfold costU sumU
  rw [lf_length]
  refine sumN_eq fun i hi => ?_
  rw [lf_rd hi]
  by_cases c : 0 < cntF text i
  · rw [if_pos (by omega)]
    show (rd (lf 256 (cntF text)) (i : Int)).toNat * L i = _
    rw [lf_rd hi, Int.toNat_natCast]
  · rw [if_neg (by omega), show cntF text i = 0 by omega, Nat.zero_mul]
theorem coded_lens (text : List Int) (ht : text.length ≤ 16777216) (hb : ∀ x ∈ text, 0 ≤ x ∧ x < 256) (L : Nat → Nat) (h15 : ∀ i, i < 256 → L i ≤ 15) (h1 : ∀ i, used (lf 256 (cntF text)) i → 1 ≤ L i) (h0 : ∀ i : Nat, i < 256 → ¬ 0 < rd (lf 256 (cntF text)) (i : Int) → L i = 0)
    (hf : 2 ≤ (uS (lf 256 (cntF text))).length → sumU (lf 256 (cntF text)) (fun i => 2 ^ (60 - L i)) = 2 ^ 60) (ho : (uS (lf 256 (cntF text))).length < 2 → ∀ i, used (lf 256 (cntF text)) i → L i = 1) : valiselaw6_coded.f text (lf 256 L) = some (((costU (lf 256 (cntF text)) L : Nat) : Int), true) := by
  have la := lf_length 256 (cntF text)
  have hg := coded_good text hb h1
  have h1' : ∀ i, used (lf 256 (cntF text)) i → 1 ≤ L i ∧ L i ≤ 15 := fun i hi => ⟨h1 i hi, h15 i (by have := hi.1; omega)⟩
  have h0' : ∀ i, i < (lf 256 (cntF text)).length → ¬ 0 < rd (lf 256 (cntF text)) (i : Int) → L i = 0 := fun i hi hn => h0 i (by omega) hn
  have e := coded_spec text (lf 256 L) ht hb hg (by rw [lf_length]; omega) (by
    by_cases c : 1 ≤ (uS (lf 256 (cntF text))).length
    · exact .inr (lf_decE _ la L h15 h1' h0' hf ho c)
    · refine .inl ⟨?_, lf_encE_empty _ la L h15 h0' h1 (by omega), lf_badL h15, ?_⟩
      · cases text with
        | nil => rfl
        | cons x t =>
          have hx := hb x (by simp)
          have hc : 0 < cntF (x :: t) x.toNat := by
            unfold cntF
            rw [Int.toNat_of_nonneg hx.1]
            exact List.count_pos_iff.2 (by simp)
          have hm := uS_of (a := lf 256 (cntF (x :: t))) (i := x.toNat) (by rw [lf_length]; omega) (by rw [lf_rd (by omega)]; omega)
          have := List.length_pos_of_mem hm
          omega
      · rw [lf_length]
        have e1 := lf_used _ la L h1 h0'
        have e2 := takeW_le (ln (lf 256 L)) 256
        rw [e1] at e2
        omega)
  rw [e, flat_len L text hg, flat_cost L text hb, coded_cost]
theorem valiselaw6_BuildCoded_true (text : List Int) (limit : Int) (b : List Int) (ht : ∀ x ∈ text, (Lit.int .u8 x).wf = true) (wt : text.length * 1 ≤ 140737488351232) (hl : (Lit.int .i64 limit).wf = true) (hb : ∀ x ∈ b, (Lit.int .i64 x).wf = true) (wb : b.length * 8 ≤ 140737488351232) : valiselaw6_BuildCoded.f text limit b = some true := by
  have hw := wf_i64 hl
  have hbw : ∀ x ∈ b, -9223372036854775808 ≤ x ∧ x ≤ 9223372036854775807 := fun x hx => wf_i64 (hb x hx)
  have htb : ∀ x ∈ text, 0 ≤ x ∧ x < 256 := fun x hx => by
    obtain ⟨n, rfl, h⟩ := wf_u (k := .u8) rfl (ht x hx)
    have h : n < 2 ^ 8 := h
    omega
  rw [valiselaw6_BuildCoded.f]
  by_cases c0 : 16777216 < (text.length : Int)
  · rw [if_pos (.inl (.inl c0))]
  by_cases c2 : limit < 1 ∨ 15 < limit
  · rw [if_pos (by omega)]
  obtain ⟨lim, rfl⟩ : ∃ m : Nat, limit = m := ⟨limit.toNat, by omega⟩
  have la := lf_length 256 (cntF text)
  have hcnt : ∀ i, cntF text i ≤ 16777216 := fun i => Nat.le_trans List.count_le_length (by omega)
  have b2 : ∀ x ∈ lf 256 (cntF text), okF x := fun x hx => by
    obtain ⟨i, hi, rfl⟩ := List.mem_map.1 hx
    have := hcnt i
    unfold okF; omega
  have b1 : (lf 256 (cntF text)).length ≤ 288 := by omega
  have c1 : badF (lf 256 (cntF text)) = 0 := by unfold badF; rw [la, if_neg (by omega), if_pos b2]
  rw [if_neg (by omega), counts_spec text (by omega) htb]
  simp only [Option.bind_some]
  rw [law6_uses_spec _ b1]
  simp only [Option.bind_some]
  rw [wr_u64 (by omega), gd_pos (by omega), shl_one lim (by omega)]
  by_cases c3 : 2 ^ lim < (uS (lf 256 (cntF text))).length
  · rw [if_pos (by omega)]
  obtain ⟨M, e1, e2, e3, e4, e5, e6, e7, e8⟩ := limited_good _ c1 lim (by omega) (by omega) (by omega)
  rw [la] at e1 e2 e6 e8
  have e4' : (uS (lf 256 (cntF text))).length < 2 → ∀ i, used (lf 256 (cntF text)) i → M i = 1 := fun c i hi => few_one (e4 c) hi
  have z : ∀ i : Nat, i < 256 → ¬ 0 < rd (lf 256 (cntF text)) (i : Int) → M i = 0 := fun i hi hn => zero_of e4 e5 (by omega) hn
  have k1 := coded_lens text (by omega) htb M (fun i hi => by
    by_cases c : 0 < rd (lf 256 (cntF text)) (i : Int)
    · have := e3 i ⟨by omega, c⟩; omega
    · rw [z i hi c]; omega) (fun i hi => (e3 i hi).1) z (fun c => (e5 c).full) e4'
  have cst := build_Cost_spec _ c1 M (fun i hi => e6 i (by omega))
  rw [la] at cst
  rw [if_neg (by omega), valiselaw6_copied_spec _ (by omega)]
  simp only [Option.bind_some]
  rw [e1]
  simp only [Option.bind_some]
  rw [if_neg (by decide), e2]
  simp only [Option.bind_some]
  rw [if_neg (by decide), cst]
  simp only [Option.bind_some]
  rw [k1]
  simp only [Option.bind_some]
  rw [if_neg (by simp)]
  simp only [Option.bind_some]
  rw [if_neg (by decide)]
  by_cases c4 : (b.length : Int) ≠ 256
  · rw [if_pos c4]
    simp only [Option.bind_some, if_true]
  · rw [if_neg c4]
    have hbl : b.length = 256 := by omega
    rcases law6_kraft_spec _ b b1 b2 lim hbw with ⟨hk, e⟩ | ⟨_, e⟩
    · rw [e]
      simp only [Option.bind_some]
      by_cases c5 : sumU (lf 256 (cntF text)) (fun i => 2 ^ (60 - lenN b i)) = 2 ^ 60
      · rw [c5, decide_eq_false (by decide), if_neg (by decide)]
        simp only [Option.bind_some]
        by_cases c6 : (uS (lf 256 (cntF text))).length < 2
        · rw [decide_eq_true (by omega), if_pos rfl]
        · rw [decide_eq_false (by omega), if_neg (by decide)]
          have gu : ∀ i, used (lf 256 (cntF text)) i → 1 ≤ lenN b i ∧ lenN b i ≤ lim := fun i hi => by
            have := hk.2.1 i hi
            unfold lenN; omega
          have gpos : ∀ i, used (lf 256 (cntF text)) i → (if 0 < rd (lf 256 (cntF text)) (i : Int) then lenN b i else 0) = lenN b i := fun i hi => if_pos hi.2
          have l1 := coded_l1 (lf 256 (cntF text)) b la hbl (fun i => if 0 < rd (lf 256 (cntF text)) (i : Int) then lenN b i else 0) (fun i hi => ⟨fun c => by
            have := hk.2.1 i ⟨by omega, c⟩
            show _ = ((if 0 < rd (lf 256 (cntF text)) (i : Int) then lenN b i else 0 : Nat) : Int)
            rw [if_pos c]
            unfold lenN; omega, fun c => if_neg c⟩) 256 FU 0 (by omega) (by rw [FU_eq]; omega)
          have l1' : valiselaw6_BuildCoded.l1 FU ([] : List Int) 0 b (lf 256 (cntF text)) = _ := l1
          have k2 := coded_lens text (by omega) htb (fun i => if 0 < rd (lf 256 (cntF text)) (i : Int) then lenN b i else 0) (fun i hi => by
            show (if 0 < rd (lf 256 (cntF text)) (i : Int) then lenN b i else 0) ≤ 15
            by_cases c : 0 < rd (lf 256 (cntF text)) (i : Int)
            · rw [if_pos c]; have := gu i ⟨by omega, c⟩; omega
            · rw [if_neg c]; omega) (fun i hi => by
            show 1 ≤ (if 0 < rd (lf 256 (cntF text)) (i : Int) then lenN b i else 0)
            rw [gpos i hi]; exact (gu i hi).1) (fun i hi hn => if_neg hn) (fun _ => by
            rw [← c5]
            exact sumU_eq fun i hi => by rw [gpos i hi]) (fun c => by omega)
          have lec : costU (lf 256 (cntF text)) M ≤ costU (lf 256 (cntF text)) (fun i => if 0 < rd (lf 256 (cntF text)) (i : Int) then lenN b i else 0) := by
            refine (e5 (by omega)).best _ (fun i hi => ?_) ?_
            · show (if 0 < rd (lf 256 (cntF text)) (i : Int) then lenN b i else 0) ≤ lim
              rw [gpos i hi]; exact (gu i hi).2
            · rw [sumU_eq (G := fun i => 2 ^ (60 - lenN b i)) (fun i hi => by rw [gpos i hi])]
              exact hk.2.2
          rw [l1']
          simp only [Option.bind_some]
          rw [k2]
          simp only [Option.bind_some]
          rw [decide_eq_true ⟨trivial, by omega⟩]
      · rw [decide_eq_true (by omega), if_pos rfl]
        simp only [Option.bind_some, if_true]
    · rw [e]
      rfl
end Go.V.Pu
