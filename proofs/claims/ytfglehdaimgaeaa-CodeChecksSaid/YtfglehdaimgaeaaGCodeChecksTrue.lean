/- The plain law: the program's shape of every list of code lengths, and its errors, are the document's. -/
import Derived.Test.YtfglehdaimgaeaaGCodeChecksPure
import Derived.Test.YtfglehdaimgaeaaQ7
set_option linter.unusedVariables false
set_option linter.unusedSimpArgs false
namespace Go.V.Pu
open Go Go.V

theorem code_count_loop (lens : List Int) (hl : lens.length ≤ 288) (m : Nat) : ∀ (k i : Nat), i + m = lens.length → m < k → (∀ j x, j < i → lens[j]? = some x → okx x) →
    code_count.l1 k (cl0 (ln lens) i) (i : Int) lens = if (∀ x ∈ lens, okx x) then some (.inr (cl0 (ln lens) lens.length)) else some (.inl (List.replicate 16 (0 : Int), 50)) := by
  induction m with
  | zero =>
    intro k i hi hk ho
    obtain ⟨k, rfl⟩ : ∃ j, k = j + 1 := ⟨k - 1, by omega⟩
    have hall : ∀ x ∈ lens, okx x := fun x hx => by
      obtain ⟨j, hj⟩ := List.getElem?_of_mem hx
      exact ho j x (by have := (List.getElem?_eq_some_iff.1 hj).1; omega) hj
    rw [code_count.l1, if_neg (by omega), if_pos hall, show i = lens.length by omega]
  | succ m ih =>
    intro k i hi hk ho
    obtain ⟨k, rfl⟩ : ∃ j, k = j + 1 := ⟨k - 1, by omega⟩
    have hx : lens[i]? = some lens[i] := List.getElem?_eq_getElem (by omega)
    rw [code_count.l1, if_pos (by omega), gd_pos (by omega), bnd_eq, rd_at hx]
    by_cases c : okx lens[i]
    · have c' := c
      unfold okx at c'
      have e : ln lens i = (lens[i]).toNat := ln_at hx
      have hle : ln lens i ≤ 15 := by omega
      have e2 : lens[i] = (ln lens i : Int) := by omega
      have hc := cntL_le (ln lens) (ln lens i) i
      rw [if_neg (by omega), gd_pos (by omega), gd_pos (cl0_length _ _), bnd_eq, e2, rd_cl0 (by omega), wr_i64 (x := (cntL (ln lens) (ln lens i) i : Int) + 1) (by omega), Int.toNat_natCast, cl0_step _ _ hle, inc_i (by omega)]
      exact ih k (i + 1) (by omega) (by omega) (fun j x hj hjx => by
        by_cases e3 : j = i
        · subst e3; rw [hx] at hjx; cases hjx; exact c
        · exact ho j x (by omega) hjx)
    · have c' := c
      unfold okx at c'
      rw [if_pos (by omega), if_neg fun h => c (h _ (List.getElem_mem (by omega)))]
theorem code_count_spec (lens : List Int) : code_count.f lens = some (if badL lens = 0 then (cl (ln lens) lens.length, 0) else (List.replicate 16 (0 : Int), badL lens)) := by
  unfold code_count.f
  by_cases h : 288 < (lens.length : Int)
  · have e : badL lens = 1 := by unfold badL; rw [if_pos (by omega)]
    rw [if_pos h, e, if_neg (by decide)]
  · have key := code_count_loop lens (by omega) lens.length FU 0 (by omega) (by rw [FU_eq]; omega) (fun j x hj => by omega)
    rw [cl0_zero] at key
    have e0 : ((0 : Nat) : Int) = 0 := rfl
    rw [e0] at key
    rw [if_neg h, key]
    by_cases c : ∀ x ∈ lens, okx x
    · rw [if_pos c, if_pos (badL_zero (by omega) c)]
      simp only [Option.bind_some, onR]
      rw [gd_pos (cl0_length _ _), bnd_eq, show (0 : Int).toNat = 0 from rfl, cl_of]
    · have e : badL lens = 50 := by unfold badL; rw [if_neg (by omega), if_neg c]
      rw [if_neg c, e, if_neg (by decide)]
      rfl

theorem code_shape_loop (l : Nat → Nat) (n : Nat) (hn : n ≤ 288) (h : ∀ j, j < n → l j ≤ 15) (m : Nat) : ∀ (k v : Nat), v + m = 16 → m < k → 1 ≤ v →
    code_shape.l1 k (wupto l n v : Int) (upto l n v : Int) (v : Int) (cl l n) = some ((usedW l n : Int), (takeW l n : Int)) := by
  have hW := wupto_all h
  have hT := upto_take h
  have hW2 := usedW_le l n
  have hT2 := takeW_le l n
  have wm : ∀ v, v ≤ 16 → wupto l n v ≤ usedW l n := by
    intro v hv
    rw [← hW]
    have : ∀ d v, v + d = 16 → wupto l n v ≤ wupto l n 16 := by
      intro d
      induction d with
      | zero => intro v hv; rw [show v = 16 by omega]; exact Nat.le_refl _
      | succ d ih => intro v hv; have := ih (v + 1) (by omega); rw [wupto] at this; omega
    exact this (16 - v) v (by omega)
  have um : ∀ v, v ≤ 16 → upto l n v ≤ takeW l n := fun v hv => by rw [← hT]; exact upto_mono l n hv
  induction m with
  | zero =>
    intro k v hv hk h1
    obtain ⟨k, rfl⟩ : ∃ j, k = j + 1 := ⟨k - 1, by omega⟩
    rw [code_shape.l1, if_neg (by omega), show v = 16 by omega, hW, hT]
  | succ m ih =>
    intro k v hv hk h1
    obtain ⟨k, rfl⟩ : ∃ j, k = j + 1 := ⟨k - 1, by omega⟩
    have a := wm (v + 1) (by omega)
    have b := um (v + 1) (by omega)
    rw [wupto, if_neg (by omega)] at a
    rw [upto_succ, if_neg (by omega)] at b
    have e1 : IntKind.i64.wrap (15 - (v : Int)) = ((15 - v : Nat) : Int) := by rw [wr_i64 (by omega)]; omega
    have e2 : shl .i64 (cntL l v n : Int) ((15 - v : Nat) : Int) = ((cntL l v n * 2 ^ (15 - v) : Nat) : Int) := by
      unfold shl
      rw [Int.toNat_natCast, Nat.min_eq_left (by simp only [IntKind.bits]; omega), wr_i64]
      · simp
      · have e3 : (cntL l v n : Int) * 2 ^ (15 - v) = ((cntL l v n * 2 ^ (15 - v) : Nat) : Int) := by simp
        rw [e3]; omega
    have e3 : IntKind.i64.wrap ((wupto l n v : Int) + (cntL l v n : Int)) = (wupto l n (v + 1) : Int) := by rw [wr_i64 (by omega), wupto, if_neg (by omega)]; rfl
    have e4 : IntKind.i64.wrap ((upto l n v : Int) + ((cntL l v n * 2 ^ (15 - v) : Nat) : Int)) = (upto l n (v + 1) : Int) := by rw [wr_i64 (by omega), upto_succ, if_neg (by omega)]; rfl
    rw [code_shape.l1, if_pos (by omega), gd_pos (by omega), gd_pos (cl_length _ _), bnd_eq, rd_cl (by omega) (by omega), e1, gd_pos (by omega), bnd_eq, e2, e3, e4, bnd_eq, inc_i (by omega)]
    exact ih k (v + 1) (by omega) (by omega) (by omega)
theorem code_shape_spec (l : Nat → Nat) (n : Nat) (hn : n ≤ 288) (h : ∀ j, j < n → l j ≤ 15) : code_shape.f (cl l n) = some (shapeW (usedW l n) (takeW l n)) := by
  have key := code_shape_loop l n hn h 15 FU 1 (by omega) (by rw [FU_eq]; omega) (by omega)
  have key' : code_shape.l1 FU 0 0 1 (cl l n) = some ((usedW l n : Int), (takeW l n : Int)) := key
  rw [code_shape.f, key']
  simp only [Option.bind_some]
  unfold shapeW
  by_cases h0 : usedW l n = 0
  · rw [if_pos (by omega), if_pos h0]
  · rw [if_neg (by omega), if_neg h0]
    by_cases h1 : usedW l n = 1
    · have e1 : rd (cl l n) 1 = (cntL l 1 n : Int) := rd_cl (v := 1) (by omega) (by omega)
      rw [if_pos (by omega), gd_pos (cl_length _ _), e1]
      simp only [Option.bind_some]
      have hs := single_iff h1
      by_cases h2 : takeW l n = 16384
      · have := hs.2 h2
        rw [if_pos (by simp; omega), if_pos ⟨h1, h2⟩]
      · have : ¬ cntL l 1 n = 1 := fun e => h2 (hs.1 e)
        rw [if_neg (by simp; omega), if_neg (show ¬ (usedW l n = 1 ∧ takeW l n = 16384) by omega)]
        by_cases h3 : 32768 < takeW l n
        · rw [if_pos (by omega), if_pos h3]
        · rw [if_neg (by omega), if_neg h3]
          by_cases h4 : takeW l n = 32768
          · rw [if_pos (by omega), if_pos h4]
          · rw [if_neg (by omega), if_neg h4]
    · rw [if_neg (by omega)]
      simp only [Option.bind_some, Bool.false_eq_true, if_false]
      rw [if_neg (show ¬ (usedW l n = 1 ∧ takeW l n = 16384) by omega)]
      by_cases h3 : 32768 < takeW l n
      · rw [if_pos (by omega), if_pos h3]
      · rw [if_neg (by omega), if_neg h3]
        by_cases h4 : takeW l n = 32768
        · rw [if_pos (by omega), if_pos h4]
        · rw [if_neg (by omega), if_neg h4]

theorem code_Check_spec (lens : List Int) : code_Check.f lens = some (if badL lens = 0 then (shapeW (usedW (ln lens) lens.length) (takeW (ln lens) lens.length), 0) else (0, badL lens)) := by
  rw [code_Check.f, code_count_spec]
  by_cases h : badL lens = 0
  · rw [if_pos h, if_pos h]
    obtain ⟨h1, h2⟩ := badL_ok h
    simp only [Option.bind_some]
    rw [gd_pos (cl_length _ _), if_neg (by decide), code_shape_spec _ _ h1 (fun j _ => ln_le h2 j)]
    rfl
  · rw [if_neg h, if_neg h]
    simp only [Option.bind_some]
    rw [gd_pos (by simp), if_pos h]

theorem ref5_valid_spec (lens : List Int) : valiseref5_valid.f lens = some (badL lens) := by
  unfold valiseref5_valid.f badL
  by_cases h : 288 < lens.length
  · rw [if_pos (by omega), if_pos h]
  · rw [if_neg (by omega), if_neg h]
    have key := list_loop1 lens (by omega) (fun k i (_ : Unit) => valiseref5_valid.l1 k i lens) (fun i x _ => if okx x then .inr () else .inl (.inl 50)) (fun s => .inr ())
      (fun k s => by rw [valiseref5_valid.l1, if_neg (by omega)])
      (fun k i x s hx hi => by
        rw [valiseref5_valid.l1, if_pos (by omega), gd_pos (by omega), rd_at hx]
        by_cases hb : okx x
        · simp only [if_pos hb]
          unfold okx at hb
          rw [if_neg (by omega), bnd_eq, inc_i (by omega)]
        · simp only [if_neg hb]
          unfold okx at hb
          rw [if_pos (by omega)]) ()
    have key' : valiseref5_valid.l1 FU 0 lens = _ := key
    rw [key']
    by_cases c : ∀ x ∈ lens, okx x
    · rw [if_pos c, foldE_ok lens 0 (fun j x hx => if_pos (c x (List.mem_of_getElem? hx)))]
      rfl
    · rw [if_neg c, foldE_bad (bad := .inl 50) lens 0 (fun j x hx => by by_cases hb : okx x <;> simp [hb]) ?_]
      · rfl
      · apply Classical.byContradiction
        intro hn
        apply c
        intro x hx
        apply Classical.byContradiction
        intro hb
        obtain ⟨j, hj⟩ := List.getElem?_of_mem hx
        exact hn ⟨j, x, hj, by rw [if_neg hb]; intro h3; cases h3⟩
theorem ref5_rows_loop (m : Nat) : ∀ (k i n : Nat), i + m = 15 → m < k → n * 2 ^ m ≤ 32768 → valiseref5_rows.l1 k (n : Int) (i : Int) = some ((n * 2 ^ m : Nat) : Int) := by
  induction m with
  | zero =>
    intro k i n hi hk hn
    obtain ⟨k, rfl⟩ : ∃ j, k = j + 1 := ⟨k - 1, by omega⟩
    rw [valiseref5_rows.l1, if_neg (by omega)]; simp
  | succ m ih =>
    intro k i n hi hk hn
    obtain ⟨k, rfl⟩ : ∃ j, k = j + 1 := ⟨k - 1, by omega⟩
    have e : n * 2 ^ (m + 1) = 2 * n * 2 ^ m := by rw [Nat.pow_succ, Nat.mul_comm 2 n, Nat.mul_assoc, Nat.mul_comm 2]
    have h1 : 1 ≤ 2 ^ m := Nat.pow_pos (by omega)
    have h2 : 2 * n ≤ 2 * n * 2 ^ m := Nat.le_mul_of_pos_right _ h1
    rw [e] at hn
    have e1 : IntKind.i64.wrap (2 * (n : Int)) = ((2 * n : Nat) : Int) := by rw [wr_i64 (by omega)]; omega
    rw [valiseref5_rows.l1, if_pos (by omega), bnd_eq, bnd_eq, e1, inc_i (by omega), ih k (i + 1) (2 * n) (by omega) (by omega) hn, e]
theorem ref5_rows_spec (v : Nat) (h : v ≤ 15) : valiseref5_rows.f (v : Int) = some ((2 ^ (15 - v) : Nat) : Int) := by
  have h1 : 2 ^ (15 - v) ≤ 2 ^ 15 := Nat.pow_le_pow_right (by omega) (by omega)
  have key := ref5_rows_loop (15 - v) FU v 1 (by omega) (by rw [FU_eq]; omega) (by omega)
  rw [Nat.one_mul] at key
  have key' : valiseref5_rows.l1 FU 1 (v : Int) = _ := key
  rw [valiseref5_rows.f, key']; rfl
theorem ref5_used_loop (lens : List Int) (hl : lens.length ≤ 288) (h : ∀ x ∈ lens, okx x) (m : Nat) : ∀ (k i : Nat), i + m = lens.length → m < k →
    valiseref5_used.l1 k (takeW (ln lens) i : Int) (usedW (ln lens) i : Int) (i : Int) lens = some ((takeW (ln lens) lens.length : Int), (usedW (ln lens) lens.length : Int)) := by
  induction m with
  | zero =>
    intro k i hi hk
    obtain ⟨k, rfl⟩ : ∃ j, k = j + 1 := ⟨k - 1, by omega⟩
    rw [valiseref5_used.l1, if_neg (by omega), show i = lens.length by omega]
  | succ m ih =>
    intro k i hi hk
    obtain ⟨k, rfl⟩ : ∃ j, k = j + 1 := ⟨k - 1, by omega⟩
    have a := usedW_le (ln lens) (i + 1)
    have b := takeW_le (ln lens) (i + 1)
    have e1 : takeW (ln lens) (i + 1) = takeW (ln lens) i + (if 0 < ln lens i then 2 ^ (15 - ln lens i) else 0) := rfl
    have e2 : usedW (ln lens) (i + 1) = usedW (ln lens) i + (if 0 < ln lens i then 1 else 0) := rfl
    rw [valiseref5_used.l1, if_pos (by omega), gd_pos (by omega), rd_ln h (by omega)]
    by_cases c : 0 < ln lens i
    · rw [if_pos c] at e1 e2
      rw [if_pos (by omega), ref5_rows_spec _ (ln_le h i)]
      simp only [Option.bind_some, bnd_eq]
      have e3 : IntKind.i64.wrap ((takeW (ln lens) i : Int) + ((2 ^ (15 - ln lens i) : Nat) : Int)) = (takeW (ln lens) (i + 1) : Int) := by rw [wr_i64 (by omega), e1]; rfl
      have e4 : IntKind.i64.wrap ((usedW (ln lens) i : Int) + 1) = (usedW (ln lens) (i + 1) : Int) := by rw [wr_i64 (by omega), e2]; rfl
      rw [e3, e4, inc_i (by omega)]
      exact ih k (i + 1) (by omega) (by omega)
    · rw [if_neg c] at e1 e2
      rw [if_neg (by omega)]
      simp only [Option.bind_some, bnd_eq]
      have e5 := ih k (i + 1) (by omega) (by omega)
      rw [e1, e2] at e5
      rw [inc_i (by omega)]
      exact e5
theorem ref5_Check_spec (lens : List Int) : valiseref5_Check.f lens = some (if badL lens = 0 then (shapeW (usedW (ln lens) lens.length) (takeW (ln lens) lens.length), 0) else (0, badL lens)) := by
  rw [valiseref5_Check.f, ref5_valid_spec]
  simp only [Option.bind_some]
  by_cases h : badL lens = 0
  · obtain ⟨h1, h2⟩ := badL_ok h
    have key := ref5_used_loop lens h1 h2 lens.length FU 0 (by omega) (by rw [FU_eq]; omega)
    have key' : valiseref5_used.l1 FU 0 0 0 lens = some ((takeW (ln lens) lens.length : Int), (usedW (ln lens) lens.length : Int)) := key
    rw [if_neg (by simp [h]), if_pos h, valiseref5_used.f, key']
    simp only [Option.bind_some]
    unfold shapeW
    generalize usedW (ln lens) lens.length = W
    generalize takeW (ln lens) lens.length = T
    by_cases c0 : W = 0
    · rw [if_pos (by omega), if_pos c0]
    · rw [if_neg (by omega), if_neg c0]
      by_cases c1 : W = 1 ∧ T = 16384
      · rw [if_pos (by omega), if_pos c1]
      · rw [if_neg (by omega), if_neg c1]
        by_cases c2 : 32768 < T
        · rw [if_pos (by omega), if_pos c2]
        · rw [if_neg (by omega), if_neg c2]
          by_cases c3 : T = 32768
          · rw [if_pos (by omega), if_pos c3]
          · rw [if_neg (by omega), if_neg c3]
  · rw [if_pos (by simpa using h), if_neg h]

theorem valiselaw5_same_spec (a b : List Int) (h : a.length < 4611686018427387904) : valiselaw5_same.f a b = some (decide (a = b)) := by
  unfold valiselaw5_same.f
  by_cases hl : a.length = b.length
  · rw [if_neg (by omega)]
    have key := list_loop1 a (by omega) (fun k i (_ : Unit) => valiselaw5_same.l1 k i a b) (fun i x _ => if rd b (i : Int) = x then .inr () else .inl (.inl false)) (fun _ => .inr ())
      (fun k _ => by rw [valiselaw5_same.l1, if_neg (by omega)])
      (fun k i x _ hx hi => by
        have e1 : rd a (i : Int) = x := rd_at hx
        rw [valiselaw5_same.l1, if_pos (by omega), gd_pos (by omega), gd_pos (by omega), e1]
        by_cases e : rd b (i : Int) = x
        · simp only [if_pos e]
          rw [if_neg (fun e' => e' e.symm), bnd_eq, inc_i (by omega)]
        · simp only [if_neg e]
          rw [if_pos (fun e' => e e'.symm)]) ()
    rw [show valiselaw5_same.l1 FU 0 a b = _ from key]
    by_cases e : a = b
    · rw [foldE_ok a 0 (fun j x hx => by rw [if_pos ((all_eq hl).2 e j x hx)])]
      simp [onR, e]
    · rw [foldE_bad (bad := .inl false) a 0 (fun j x hx => by
        by_cases e2 : rd b ((0 + j : Nat) : Int) = x
        · left; rw [if_pos e2]
        · right; rw [if_neg e2]) ?_]
      · simp [onR, e]
      · apply Classical.byContradiction
        intro hn
        apply e
        rw [← all_eq hl]
        intro j x hx
        apply Classical.byContradiction
        intro h2
        exact hn ⟨j, x, hx, by rw [if_neg h2]; intro h3; cases h3⟩
  · rw [if_pos (by omega)]
    simp
    intro e
    exact hl (by rw [e])

theorem copied5 (a : List Int) (h : a.length * 8 ≤ 140737488351232) : valiselaw5_copied.f a = some a := by
  have e : IntKind.i64.wrap ((a.length : Int) + 4) = ((a.length + 4 : Nat) : Int) := by rw [wr_i64 (by omega)]; rfl
  have hc : cpy (List.replicate ((a.length : Int)).toNat (0 : Int)) a = a := by
    unfold cpy
    rw [List.length_replicate, Int.toNat_natCast, List.take_length, List.drop_eq_nil_of_le (by simp), List.append_nil]
  rw [valiselaw5_copied.f, e, gd_pos (by omega), gd_pos (by omega), bnd_eq, bnd_eq, hc]

theorem framed5 (a : List Int) (h : a.length * 8 ≤ 140737488351232) : valiselaw5_framed.f a = some (a ++ [-71, -72, -73]) := by
  rw [valiselaw5_framed.f, copied5 a h]
  simp only [Option.bind_some, bnd_eq]
  rw [gd_pos (by simp; omega)]
theorem whole5 (a : List Int) (h : a.length * 8 ≤ 140737488351232) : valiselaw5_whole.f (a ++ [-71, -72, -73]) a = some true := by
  have e1 : IntKind.i64.wrap ((a.length : Int) + 3) = ((a.length + 3 : Nat) : Int) := by rw [wr_i64 (by omega)]; rfl
  have e2 : IntKind.i64.wrap ((a.length : Int) + 1) = ((a.length + 1 : Nat) : Int) := by rw [wr_i64 (by omega)]; rfl
  have e3 : IntKind.i64.wrap ((a.length : Int) + 2) = ((a.length + 2 : Nat) : Int) := by rw [wr_i64 (by omega)]; rfl
  have hl : (a ++ [-71, -72, -73]).length = a.length + 3 := by simp
  have r0 : rd (a ++ [-71, -72, -73]) (a.length : Int) = -71 := rd_at (by rw [List.getElem?_append_right (Nat.le_refl _)]; simp)
  have r1 : rd (a ++ [-71, -72, -73]) ((a.length + 1 : Nat) : Int) = -72 := rd_at (by rw [List.getElem?_append_right (by omega)]; simp)
  have r2 : rd (a ++ [-71, -72, -73]) ((a.length + 2 : Nat) : Int) = -73 := rd_at (by rw [List.getElem?_append_right (by omega)]; simp)
  rw [valiselaw5_whole.f]
  simp only [bnd_eq, e1, e2, e3, hl, r0, r1, r2]
  rw [if_neg (by simp), gd_pos (by omega)]
  simp only [Option.bind_some, ne_eq, not_true_eq_false, decide_false, Bool.false_eq_true, if_false]
  rw [gd_pos (by omega)]
  simp only [Option.bind_some, Bool.false_eq_true, if_false]
  rw [gd_pos (by omega)]
  simp only [Option.bind_some, Bool.false_eq_true, if_false]
  rw [gd_pos (by omega), Int.toNat_natCast, List.take_left, valiselaw5_same_spec a a (by omega)]
  simp


theorem valiselaw5_CodeChecks_true (a : List Int) (ha : ∀ x ∈ a, (Lit.int .i64 x).wf = true) (wa : a.length * 8 ≤ 140737488351232) : valiselaw5_CodeChecks.f a = some true := by
  rw [valiselaw5_CodeChecks.f, framed5 a wa]
  simp only [Option.bind_some]
  rw [gd_pos (by simp; omega), Int.toNat_natCast, List.take_left, code_Check_spec, ref5_Check_spec]
  simp only [Option.bind_some, and_self, if_true, whole5 a wa]
end Go.V.Pu
