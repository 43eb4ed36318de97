/- The plain law: the words of every list are the document's; new memory each time. -/
import Derived.Test.YtfglehdaimgaeaaGCodeWordsPure
import Derived.Test.YtfglehdaimgaeaaQ9
set_option linter.unusedVariables false
set_option linter.unusedSimpArgs false
namespace Go.V.Pu
open Go Go.V

theorem copied5 (a : List Int) (h : a.length * 8 ≤ 140737488351232) : valiselaw5_copied.f a = some a := by
  have e : IntKind.i64.wrap ((a.length : Int) + 4) = ((a.length + 4 : Nat) : Int) := by rw [wr_i64 (by omega)]; rfl
  have hc : cpy (List.replicate ((a.length : Int)).toNat (0 : Int)) a = a := by
    unfold cpy
    rw [List.length_replicate, Int.toNat_natCast, List.take_length, List.drop_eq_nil_of_le (by simp), List.append_nil]
  rw [valiselaw5_copied.f, e, gd_pos (by omega), gd_pos (by omega), bnd_eq, bnd_eq, hc]

theorem valiselaw5_same_spec (a b : List Int) (h : a.length < 4611686018427387904) : valiselaw5_same.f a b = some (decide (a = b)) := by
  unfold valiselaw5_same.f
  by_cases hl : a.length = b.length
  · rw [if_neg (by omega)]
    have key := list_loop1 a (by omega) (fun k i (_ : Unit) => valiselaw5_same.l1 k i a b) (fun i x _ => if rd b (i : Int) = x then .inr () else .inl (.inl false)) (fun _ => .inr ())
      (fun k _ => by rw [valiselaw5_same.l1, if_neg (by omega)])
      (fun k i x _ hx hi => by
        have e1 : rd a (i : Int) = x := rd_at hx
        rw [valiselaw5_same.l1, if_pos (by omega), gd_pos (by omega), gd_pos (by omega), e1]
        by_cases e : rd b (i : Int) = x
        · simp only [if_pos e]
          rw [if_neg (fun e' => e' e.symm), bnd_eq, inc_i (by omega)]
        · simp only [if_neg e]
          rw [if_pos (fun e' => e e'.symm)]) ()
    rw [show valiselaw5_same.l1 FU 0 a b = _ from key]
    by_cases e : a = b
    · rw [foldE_ok a 0 (fun j x hx => by rw [if_pos ((all_eq hl).2 e j x hx)])]
      simp [onR, e]
    · rw [foldE_bad (bad := .inl false) a 0 (fun j x hx => by
        by_cases e2 : rd b ((0 + j : Nat) : Int) = x
        · left; rw [if_pos e2]
        · right; rw [if_neg e2]) ?_]
      · simp [onR, e]
      · apply Classical.byContradiction
        intro hn
        apply e
        rw [← all_eq hl]
        intro j x hx
        apply Classical.byContradiction
        intro h2
        exact hn ⟨j, x, hx, by rw [if_neg h2]; intro h3; cases h3⟩
  · rw [if_pos (by omega)]
    simp
    intro e
    exact hl (by rw [e])

theorem framed5 (a : List Int) (h : a.length * 8 ≤ 140737488351232) : valiselaw5_framed.f a = some (a ++ [-71, -72, -73]) := by
  rw [valiselaw5_framed.f, copied5 a h]
  simp only [Option.bind_some, bnd_eq]
  rw [gd_pos (by simp; omega)]
theorem whole5 (a : List Int) (h : a.length * 8 ≤ 140737488351232) : valiselaw5_whole.f (a ++ [-71, -72, -73]) a = some true := by
  have e1 : IntKind.i64.wrap ((a.length : Int) + 3) = ((a.length + 3 : Nat) : Int) := by rw [wr_i64 (by omega)]; rfl
  have e2 : IntKind.i64.wrap ((a.length : Int) + 1) = ((a.length + 1 : Nat) : Int) := by rw [wr_i64 (by omega)]; rfl
  have e3 : IntKind.i64.wrap ((a.length : Int) + 2) = ((a.length + 2 : Nat) : Int) := by rw [wr_i64 (by omega)]; rfl
  have hl : (a ++ [-71, -72, -73]).length = a.length + 3 := by simp
  have r0 : rd (a ++ [-71, -72, -73]) (a.length : Int) = -71 := rd_at (by rw [List.getElem?_append_right (Nat.le_refl _)]; simp)
  have r1 : rd (a ++ [-71, -72, -73]) ((a.length + 1 : Nat) : Int) = -72 := rd_at (by rw [List.getElem?_append_right (by omega)]; simp)
  have r2 : rd (a ++ [-71, -72, -73]) ((a.length + 2 : Nat) : Int) = -73 := rd_at (by rw [List.getElem?_append_right (by omega)]; simp)
  rw [valiselaw5_whole.f]
  simp only [bnd_eq, e1, e2, e3, hl, r0, r1, r2]
  rw [if_neg (by simp), gd_pos (by omega)]
  simp only [Option.bind_some, ne_eq, not_true_eq_false, decide_false, Bool.false_eq_true, if_false]
  rw [gd_pos (by omega)]
  simp only [Option.bind_some, Bool.false_eq_true, if_false]
  rw [gd_pos (by omega)]
  simp only [Option.bind_some, Bool.false_eq_true, if_false]
  rw [gd_pos (by omega), Int.toNat_natCast, List.take_left, valiselaw5_same_spec a a (by omega)]
  simp

theorem code_count_loop (lens : List Int) (hl : lens.length ≤ 288) (m : Nat) : ∀ (k i : Nat), i + m = lens.length → m < k → (∀ j x, j < i → lens[j]? = some x → okx x) →
    code_count.l1 k (cl0 (ln lens) i) (i : Int) lens = if (∀ x ∈ lens, okx x) then some (.inr (cl0 (ln lens) lens.length)) else some (.inl (List.replicate 16 (0 : Int), 50)) := by
  induction m with
  | zero =>
    intro k i hi hk ho
    obtain ⟨k, rfl⟩ : ∃ j, k = j + 1 := ⟨k - 1, by omega⟩
    have hall : ∀ x ∈ lens, okx x := fun x hx => by
      obtain ⟨j, hj⟩ := List.getElem?_of_mem hx
      exact ho j x (by have := (List.getElem?_eq_some_iff.1 hj).1; omega) hj
    rw [code_count.l1, if_neg (by omega), if_pos hall, show i = lens.length by omega]
  | succ m ih =>
    intro k i hi hk ho
    obtain ⟨k, rfl⟩ : ∃ j, k = j + 1 := ⟨k - 1, by omega⟩
    have hx : lens[i]? = some lens[i] := List.getElem?_eq_getElem (by omega)
    rw [code_count.l1, if_pos (by omega), gd_pos (by omega), bnd_eq, rd_at hx]
    by_cases c : okx lens[i]
    · have c' := c
      unfold okx at c'
      have e : ln lens i = (lens[i]).toNat := ln_at hx
      have hle : ln lens i ≤ 15 := by omega
      have e2 : lens[i] = (ln lens i : Int) := by omega
      have hc := cntL_le (ln lens) (ln lens i) i
      rw [if_neg (by omega), gd_pos (by omega), gd_pos (cl0_length _ _), bnd_eq, e2, rd_cl0 (by omega), wr_i64 (x := (cntL (ln lens) (ln lens i) i : Int) + 1) (by omega), Int.toNat_natCast, cl0_step _ _ hle, inc_i (by omega)]
      exact ih k (i + 1) (by omega) (by omega) (fun j x hj hjx => by
        by_cases e3 : j = i
        · subst e3; rw [hx] at hjx; cases hjx; exact c
        · exact ho j x (by omega) hjx)
    · have c' := c
      unfold okx at c'
      rw [if_pos (by omega), if_neg fun h => c (h _ (List.getElem_mem (by omega)))]
theorem code_count_spec (lens : List Int) : code_count.f lens = some (if badL lens = 0 then (cl (ln lens) lens.length, 0) else (List.replicate 16 (0 : Int), badL lens)) := by
  unfold code_count.f
  by_cases h : 288 < (lens.length : Int)
  · have e : badL lens = 1 := by unfold badL; rw [if_pos (by omega)]
    rw [if_pos h, e, if_neg (by decide)]
  · have key := code_count_loop lens (by omega) lens.length FU 0 (by omega) (by rw [FU_eq]; omega) (fun j x hj => by omega)
    rw [cl0_zero] at key
    have e0 : ((0 : Nat) : Int) = 0 := rfl
    rw [e0] at key
    rw [if_neg h, key]
    by_cases c : ∀ x ∈ lens, okx x
    · rw [if_pos c, if_pos (badL_zero (by omega) c)]
      simp only [Option.bind_some, onR]
      rw [gd_pos (cl0_length _ _), bnd_eq, show (0 : Int).toNat = 0 from rfl, cl_of]
    · have e : badL lens = 50 := by unfold badL; rw [if_neg (by omega), if_neg c]
      rw [if_neg c, e, if_neg (by decide)]
      rfl

theorem code_shape_loop (l : Nat → Nat) (n : Nat) (hn : n ≤ 288) (h : ∀ j, j < n → l j ≤ 15) (m : Nat) : ∀ (k v : Nat), v + m = 16 → m < k → 1 ≤ v →
    code_shape.l1 k (wupto l n v : Int) (upto l n v : Int) (v : Int) (cl l n) = some ((usedW l n : Int), (takeW l n : Int)) := by
  have hW := wupto_all h
  have hT := upto_take h
  have hW2 := usedW_le l n
  have hT2 := takeW_le l n
  have wm : ∀ v, v ≤ 16 → wupto l n v ≤ usedW l n := by
    intro v hv
    rw [← hW]
    have : ∀ d v, v + d = 16 → wupto l n v ≤ wupto l n 16 := by
      intro d
      induction d with
      | zero => intro v hv; rw [show v = 16 by omega]; exact Nat.le_refl _
      | succ d ih => intro v hv; have := ih (v + 1) (by omega); rw [wupto] at this; omega
    exact this (16 - v) v (by omega)
  have um : ∀ v, v ≤ 16 → upto l n v ≤ takeW l n := fun v hv => by rw [← hT]; exact upto_mono l n hv
  induction m with
  | zero =>
    intro k v hv hk h1
    obtain ⟨k, rfl⟩ : ∃ j, k = j + 1 := ⟨k - 1, by omega⟩
    rw [code_shape.l1, if_neg (by omega), show v = 16 by omega, hW, hT]
  | succ m ih =>
    intro k v hv hk h1
    obtain ⟨k, rfl⟩ : ∃ j, k = j + 1 := ⟨k - 1, by omega⟩
    have a := wm (v + 1) (by omega)
    have b := um (v + 1) (by omega)
    rw [wupto, if_neg (by omega)] at a
    rw [upto_succ, if_neg (by omega)] at b
    have e1 : IntKind.i64.wrap (15 - (v : Int)) = ((15 - v : Nat) : Int) := by rw [wr_i64 (by omega)]; omega
    have e2 : shl .i64 (cntL l v n : Int) ((15 - v : Nat) : Int) = ((cntL l v n * 2 ^ (15 - v) : Nat) : Int) := by
      unfold shl
      rw [Int.toNat_natCast, Nat.min_eq_left (by simp only [IntKind.bits]; omega), wr_i64]
      · simp
      · have e3 : (cntL l v n : Int) * 2 ^ (15 - v) = ((cntL l v n * 2 ^ (15 - v) : Nat) : Int) := by simp
        rw [e3]; omega
    have e3 : IntKind.i64.wrap ((wupto l n v : Int) + (cntL l v n : Int)) = (wupto l n (v + 1) : Int) := by rw [wr_i64 (by omega), wupto, if_neg (by omega)]; rfl
    have e4 : IntKind.i64.wrap ((upto l n v : Int) + ((cntL l v n * 2 ^ (15 - v) : Nat) : Int)) = (upto l n (v + 1) : Int) := by rw [wr_i64 (by omega), upto_succ, if_neg (by omega)]; rfl
    rw [code_shape.l1, if_pos (by omega), gd_pos (by omega), gd_pos (cl_length _ _), bnd_eq, rd_cl (by omega) (by omega), e1, gd_pos (by omega), bnd_eq, e2, e3, e4, bnd_eq, inc_i (by omega)]
    exact ih k (v + 1) (by omega) (by omega) (by omega)
theorem code_shape_spec (l : Nat → Nat) (n : Nat) (hn : n ≤ 288) (h : ∀ j, j < n → l j ≤ 15) : code_shape.f (cl l n) = some (shapeW (usedW l n) (takeW l n)) := by
  have key := code_shape_loop l n hn h 15 FU 1 (by omega) (by rw [FU_eq]; omega) (by omega)
  have key' : code_shape.l1 FU 0 0 1 (cl l n) = some ((usedW l n : Int), (takeW l n : Int)) := key
  rw [code_shape.f, key']
  simp only [Option.bind_some]
  unfold shapeW
  by_cases h0 : usedW l n = 0
  · rw [if_pos (by omega), if_pos h0]
  · rw [if_neg (by omega), if_neg h0]
    by_cases h1 : usedW l n = 1
    · have e1 : rd (cl l n) 1 = (cntL l 1 n : Int) := rd_cl (v := 1) (by omega) (by omega)
      rw [if_pos (by omega), gd_pos (cl_length _ _), e1]
      simp only [Option.bind_some]
      have hs := single_iff h1
      by_cases h2 : takeW l n = 16384
      · have := hs.2 h2
        rw [if_pos (by simp; omega), if_pos ⟨h1, h2⟩]
      · have : ¬ cntL l 1 n = 1 := fun e => h2 (hs.1 e)
        rw [if_neg (by simp; omega), if_neg (show ¬ (usedW l n = 1 ∧ takeW l n = 16384) by omega)]
        by_cases h3 : 32768 < takeW l n
        · rw [if_pos (by omega), if_pos h3]
        · rw [if_neg (by omega), if_neg h3]
          by_cases h4 : takeW l n = 32768
          · rw [if_pos (by omega), if_pos h4]
          · rw [if_neg (by omega), if_neg h4]
    · rw [if_neg (by omega)]
      simp only [Option.bind_some, Bool.false_eq_true, if_false]
      rw [if_neg (show ¬ (usedW l n = 1 ∧ takeW l n = 16384) by omega)]
      by_cases h3 : 32768 < takeW l n
      · rw [if_pos (by omega), if_pos h3]
      · rw [if_neg (by omega), if_neg h3]
        by_cases h4 : takeW l n = 32768
        · rw [if_pos (by omega), if_pos h4]
        · rw [if_neg (by omega), if_neg h4]

theorem code_first_loop (l : Nat → Nat) (n : Nat) (hn : n ≤ 288) (m : Nat) : ∀ (k v : Nat), v + m = 16 → m < k → 1 ≤ v →
    code_first.l1 k ((List.range 16).map fun u => if u < v then (fstW l n u : Int) else 0) (fstW l n (v - 1) : Int) (v : Int) (cl l n) = some (fsL l n) := by
  induction m with
  | zero =>
    intro k v hv hk h1
    obtain ⟨k, rfl⟩ : ∃ j, k = j + 1 := ⟨k - 1, by omega⟩
    rw [code_first.l1, if_neg (by omega)]
    congr 1
    unfold fsL
    refine List.map_congr_left fun u hu => if_pos ?_
    have := List.mem_range.1 hu; omega
  | succ m ih =>
    intro k v hv hk h1
    obtain ⟨k, rfl⟩ : ∃ j, k = j + 1 := ⟨k - 1, by omega⟩
    obtain ⟨u, rfl⟩ : ∃ u, v = u + 1 := ⟨v - 1, by omega⟩
    have e1 : IntKind.i64.wrap (((u + 1 : Nat) : Int) - 1) = (u : Int) := by rw [wr_i64 (by omega)]; omega
    have hf := fstW_le2 (l := l) hn (v := u) (by omega)
    have hc := cntL_le l u n
    have e2 : rd (cl l n) (u : Int) = ((if u = 0 then 0 else cntL l u n : Nat) : Int) := by
      unfold cl
      rw [rd_map (by omega)]
      split <;> simp
    have hx : (if u = 0 then 0 else cntL l u n : Nat) ≤ n := by split <;> omega
    have e3 : shl .i64 (IntKind.i64.wrap ((fstW l n u : Int) + ((if u = 0 then 0 else cntL l u n : Nat) : Int))) 1 = (fstW l n (u + 1) : Int) := by
      rw [wr_i64 (by omega)]
      unfold shl
      rw [show min (1 : Int).toNat IntKind.i64.bits = 1 from rfl, wr_i64 (by omega)]
      simp only [fstW]; omega
    rw [code_first.l1, if_pos (by omega), e1, gd_pos (by omega), gd_pos (cl_length _ _), bnd_eq, Nat.add_sub_cancel, e2, e3, gd_pos (by omega), gd_pos (by simp), bnd_eq, bnd_eq, Int.toNat_natCast, map_set, inc_i (by omega)]
    have e4 : ((List.range 16).map fun w => if w = u + 1 then (fstW l n (u + 1) : Int) else if w < u + 1 then (fstW l n w : Int) else 0) = (List.range 16).map fun w => if w < u + 1 + 1 then (fstW l n w : Int) else 0 := by
      refine List.map_congr_left fun w hw => ?_
      by_cases c : w = u + 1
      · subst c; rw [if_pos rfl, if_pos (by omega)]
      · rw [if_neg c]
        by_cases d : w < u + 1
        · rw [if_pos d, if_pos (by omega)]
        · rw [if_neg d, if_neg (by omega)]
    rw [e4]
    exact ih k (u + 1 + 1) (by omega) (by omega) (by omega)
theorem code_first_spec (l : Nat → Nat) (n : Nat) (hn : n ≤ 288) : code_first.f (cl l n) = some (fsL l n) := by
  have key := code_first_loop l n hn 15 FU 1 (by omega) (by rw [FU_eq]; omega) (by omega)
  have e : ((List.range 16).map fun u => if u < 1 then (fstW l n u : Int) else 0) = List.replicate 16 (0 : Int) := by
    rw [zeros_map]
    refine List.map_congr_left fun u hu => ?_
    by_cases c : u < 1
    · rw [if_pos c, show u = 0 by omega]; rfl
    · rw [if_neg c]
  rw [e] at key
  have key' : code_first.l1 FU (List.replicate 16 (0 : Int)) 0 1 (cl l n) = some (fsL l n) := key
  rw [code_first.f, key']
  simp only [Option.bind_some]
  rw [gd_pos (fsL_length _ _)]
theorem code_words_loop (lens : List Int) (hn : lens.length ≤ 288) (h : ∀ x ∈ lens, okx x) (m : Nat) : ∀ (k i : Nat), i + m = lens.length → m < k →
    code_words.l1 k ((List.range lens.length).map fun j => if j < i ∧ 0 < ln lens j then (wordW (ln lens) lens.length j : Int) else 0) ((List.range 16).map fun v => (fstW (ln lens) lens.length v : Int) + if v = 0 then 0 else (cntL (ln lens) v i : Int)) (i : Int) lens = some (wsL (ln lens) lens.length) := by
  induction m with
  | zero =>
    intro k i hi hk
    obtain ⟨k, rfl⟩ : ∃ j, k = j + 1 := ⟨k - 1, by omega⟩
    rw [code_words.l1, if_neg (by omega)]
    congr 1
    unfold wsL
    refine List.map_congr_left fun j hj => ?_
    have := List.mem_range.1 hj
    by_cases c : 0 < ln lens j
    · rw [if_pos c, if_pos ⟨by omega, c⟩]
    · rw [if_neg c, if_neg (by omega)]
  | succ m ih =>
    intro k i hi hk
    obtain ⟨k, rfl⟩ : ∃ j, k = j + 1 := ⟨k - 1, by omega⟩
    have hle := ln_le h i
    rw [code_words.l1, if_pos (by omega), gd_pos (by omega), bnd_eq, rd_ln h (by omega)]
    by_cases c : 0 < ln lens i
    · have hf := fstW_le2 (l := ln lens) hn hle
      have hc := cntL_le (ln lens) (ln lens i) i
      have e1 : rd ((List.range 16).map fun v => (fstW (ln lens) lens.length v : Int) + if v = 0 then 0 else (cntL (ln lens) v i : Int)) (ln lens i : Int) = (wordW (ln lens) lens.length i : Int) := by
        rw [rd_map (by omega), if_neg (by omega)]; unfold wordW; omega
      have hw : wordW (ln lens) lens.length i = fstW (ln lens) lens.length (ln lens i) + cntL (ln lens) (ln lens i) i := rfl
      rw [if_pos (by omega), gd_pos (by omega), gd_pos (by simp), gd_pos (by simp; omega), bnd_eq, bnd_eq, e1, wr_i64 (x := (wordW (ln lens) lens.length i : Int) + 1) (by omega), Int.toNat_natCast, Int.toNat_natCast, map_set, map_set]
      simp only [Option.bind_some]
      rw [inc_i (by omega)]
      have e2 : ((List.range lens.length).map fun j => if j = i then (wordW (ln lens) lens.length i : Int) else if j < i ∧ 0 < ln lens j then (wordW (ln lens) lens.length j : Int) else 0) = (List.range lens.length).map fun j => if j < i + 1 ∧ 0 < ln lens j then (wordW (ln lens) lens.length j : Int) else 0 := by
        refine List.map_congr_left fun j hj => ?_
        by_cases e : j = i
        · subst e; rw [if_pos rfl, if_pos ⟨by omega, c⟩]
        · rw [if_neg e]
          by_cases d : j < i ∧ 0 < ln lens j
          · rw [if_pos d, if_pos ⟨by omega, d.2⟩]
          · rw [if_neg d, if_neg (by omega)]
      have e3 : ((List.range 16).map fun v => if v = ln lens i then (wordW (ln lens) lens.length i : Int) + 1 else (fstW (ln lens) lens.length v : Int) + if v = 0 then 0 else (cntL (ln lens) v i : Int)) = (List.range 16).map fun v => (fstW (ln lens) lens.length v : Int) + if v = 0 then 0 else (cntL (ln lens) v (i + 1) : Int) := by
        refine List.map_congr_left fun v hv => ?_
        by_cases e : v = ln lens i
        · subst e
          rw [if_pos rfl, if_neg (by omega), cntL_succ, if_pos rfl, hw]; omega
        · rw [if_neg e, cntL_succ, if_neg (show ¬ ln lens i = v from fun e' => e e'.symm)]; rfl
      rw [e2, e3]
      exact ih k (i + 1) (by omega) (by omega)
    · rw [if_neg (by omega)]
      simp only [Option.bind_some]
      rw [inc_i (by omega)]
      have e2 : ((List.range lens.length).map fun j => if j < i ∧ 0 < ln lens j then (wordW (ln lens) lens.length j : Int) else 0) = (List.range lens.length).map fun j => if j < i + 1 ∧ 0 < ln lens j then (wordW (ln lens) lens.length j : Int) else 0 := by
        refine List.map_congr_left fun j hj => ?_
        by_cases d : j < i ∧ 0 < ln lens j
        · rw [if_pos d, if_pos ⟨by omega, d.2⟩]
        · rw [if_neg d, if_neg (fun d' => d ⟨by
            apply Classical.byContradiction
            intro h3
            have : j = i := by omega
            subst this; exact c d'.2, d'.2⟩)]
      have e3 : ((List.range 16).map fun v => (fstW (ln lens) lens.length v : Int) + if v = 0 then 0 else (cntL (ln lens) v i : Int)) = (List.range 16).map fun v => (fstW (ln lens) lens.length v : Int) + if v = 0 then 0 else (cntL (ln lens) v (i + 1) : Int) := by
        refine List.map_congr_left fun v hv => ?_
        by_cases e : v = 0
        · rw [if_pos e, if_pos e]
        · rw [if_neg e, if_neg e, cntL_succ, if_neg (by omega)]; rfl
      rw [e2, e3]
      exact ih k (i + 1) (by omega) (by omega)
theorem code_words_spec (lens : List Int) (hn : lens.length ≤ 288) (h : ∀ x ∈ lens, okx x) : code_words.f lens (fsL (ln lens) lens.length) = some (wsL (ln lens) lens.length) := by
  have key := code_words_loop lens hn h lens.length FU 0 (by omega) (by rw [FU_eq]; omega)
  have e1 : ((List.range lens.length).map fun j => if j < 0 ∧ 0 < ln lens j then (wordW (ln lens) lens.length j : Int) else 0) = List.replicate lens.length (0 : Int) := by
    rw [zeros_map]
    exact List.map_congr_left fun j _ => if_neg (by omega)
  have e2 : ((List.range 16).map fun v => (fstW (ln lens) lens.length v : Int) + if v = 0 then 0 else (cntL (ln lens) v 0 : Int)) = fsL (ln lens) lens.length := by
    unfold fsL
    refine List.map_congr_left fun v _ => ?_
    split <;> simp [cntL, sumN]
  rw [e1, e2] at key
  have key' : code_words.l1 FU (List.replicate lens.length (0 : Int)) (fsL (ln lens) lens.length) 0 lens = _ := key
  rw [code_words.f, gd_pos (by omega), bnd_eq, Int.toNat_natCast, key']
  rfl

theorem code_Codes_spec (lens : List Int) : code_Codes.f lens = some (if badL lens = 0 then (if 32768 < takeW (ln lens) lens.length then ([], 51) else (wsL (ln lens) lens.length, 0)) else ([], badL lens)) := by
  rw [code_Codes.f, code_count_spec]
  by_cases h : badL lens = 0
  · obtain ⟨h1, h2⟩ := badL_ok h
    rw [if_pos h, if_pos h]
    simp only [Option.bind_some]
    rw [gd_pos (cl_length _ _), if_neg (by decide), code_shape_spec _ _ h1 (fun j _ => ln_le h2 j)]
    simp only [Option.bind_some]
    by_cases c : 32768 < takeW (ln lens) lens.length
    · rw [if_pos (shape_over.2 c), if_pos c]
    · rw [if_neg (fun e => c (shape_over.1 e)), if_neg c, code_first_spec _ _ h1]
      simp only [Option.bind_some]
      rw [code_words_spec lens h1 h2]
      rfl
  · rw [if_neg h, if_neg h]
    simp only [Option.bind_some]
    rw [gd_pos (by simp), if_pos h]

theorem ref5_valid_spec (lens : List Int) : valiseref5_valid.f lens = some (badL lens) := by
  unfold valiseref5_valid.f badL
  by_cases h : 288 < lens.length
  · rw [if_pos (by omega), if_pos h]
  · rw [if_neg (by omega), if_neg h]
    have key := list_loop1 lens (by omega) (fun k i (_ : Unit) => valiseref5_valid.l1 k i lens) (fun i x _ => if okx x then .inr () else .inl (.inl 50)) (fun s => .inr ())
      (fun k s => by rw [valiseref5_valid.l1, if_neg (by omega)])
      (fun k i x s hx hi => by
        rw [valiseref5_valid.l1, if_pos (by omega), gd_pos (by omega), rd_at hx]
        by_cases hb : okx x
        · simp only [if_pos hb]
          unfold okx at hb
          rw [if_neg (by omega), bnd_eq, inc_i (by omega)]
        · simp only [if_neg hb]
          unfold okx at hb
          rw [if_pos (by omega)]) ()
    have key' : valiseref5_valid.l1 FU 0 lens = _ := key
    rw [key']
    by_cases c : ∀ x ∈ lens, okx x
    · rw [if_pos c, foldE_ok lens 0 (fun j x hx => if_pos (c x (List.mem_of_getElem? hx)))]
      rfl
    · rw [if_neg c, foldE_bad (bad := .inl 50) lens 0 (fun j x hx => by by_cases hb : okx x <;> simp [hb]) ?_]
      · rfl
      · apply Classical.byContradiction
        intro hn
        apply c
        intro x hx
        apply Classical.byContradiction
        intro hb
        obtain ⟨j, hj⟩ := List.getElem?_of_mem hx
        exact hn ⟨j, x, hj, by rw [if_neg hb]; intro h3; cases h3⟩
theorem ref5_rows_loop (m : Nat) : ∀ (k i n : Nat), i + m = 15 → m < k → n * 2 ^ m ≤ 32768 → valiseref5_rows.l1 k (n : Int) (i : Int) = some ((n * 2 ^ m : Nat) : Int) := by
  induction m with
  | zero =>
    intro k i n hi hk hn
    obtain ⟨k, rfl⟩ : ∃ j, k = j + 1 := ⟨k - 1, by omega⟩
    rw [valiseref5_rows.l1, if_neg (by omega)]; simp
  | succ m ih =>
    intro k i n hi hk hn
    obtain ⟨k, rfl⟩ : ∃ j, k = j + 1 := ⟨k - 1, by omega⟩
    have e : n * 2 ^ (m + 1) = 2 * n * 2 ^ m := by rw [Nat.pow_succ, Nat.mul_comm 2 n, Nat.mul_assoc, Nat.mul_comm 2]
    have h1 : 1 ≤ 2 ^ m := Nat.pow_pos (by omega)
    have h2 : 2 * n ≤ 2 * n * 2 ^ m := Nat.le_mul_of_pos_right _ h1
    rw [e] at hn
    have e1 : IntKind.i64.wrap (2 * (n : Int)) = ((2 * n : Nat) : Int) := by rw [wr_i64 (by omega)]; omega
    rw [valiseref5_rows.l1, if_pos (by omega), bnd_eq, bnd_eq, e1, inc_i (by omega), ih k (i + 1) (2 * n) (by omega) (by omega) hn, e]
theorem ref5_rows_spec (v : Nat) (h : v ≤ 15) : valiseref5_rows.f (v : Int) = some ((2 ^ (15 - v) : Nat) : Int) := by
  have h1 : 2 ^ (15 - v) ≤ 2 ^ 15 := Nat.pow_le_pow_right (by omega) (by omega)
  have key := ref5_rows_loop (15 - v) FU v 1 (by omega) (by rw [FU_eq]; omega) (by omega)
  rw [Nat.one_mul] at key
  have key' : valiseref5_rows.l1 FU 1 (v : Int) = _ := key
  rw [valiseref5_rows.f, key']; rfl
theorem ref5_used_loop (lens : List Int) (hl : lens.length ≤ 288) (h : ∀ x ∈ lens, okx x) (m : Nat) : ∀ (k i : Nat), i + m = lens.length → m < k →
    valiseref5_used.l1 k (takeW (ln lens) i : Int) (usedW (ln lens) i : Int) (i : Int) lens = some ((takeW (ln lens) lens.length : Int), (usedW (ln lens) lens.length : Int)) := by
  induction m with
  | zero =>
    intro k i hi hk
    obtain ⟨k, rfl⟩ : ∃ j, k = j + 1 := ⟨k - 1, by omega⟩
    rw [valiseref5_used.l1, if_neg (by omega), show i = lens.length by omega]
  | succ m ih =>
    intro k i hi hk
    obtain ⟨k, rfl⟩ : ∃ j, k = j + 1 := ⟨k - 1, by omega⟩
    have a := usedW_le (ln lens) (i + 1)
    have b := takeW_le (ln lens) (i + 1)
    have e1 : takeW (ln lens) (i + 1) = takeW (ln lens) i + (if 0 < ln lens i then 2 ^ (15 - ln lens i) else 0) := rfl
    have e2 : usedW (ln lens) (i + 1) = usedW (ln lens) i + (if 0 < ln lens i then 1 else 0) := rfl
    rw [valiseref5_used.l1, if_pos (by omega), gd_pos (by omega), rd_ln h (by omega)]
    by_cases c : 0 < ln lens i
    · rw [if_pos c] at e1 e2
      rw [if_pos (by omega), ref5_rows_spec _ (ln_le h i)]
      simp only [Option.bind_some, bnd_eq]
      have e3 : IntKind.i64.wrap ((takeW (ln lens) i : Int) + ((2 ^ (15 - ln lens i) : Nat) : Int)) = (takeW (ln lens) (i + 1) : Int) := by rw [wr_i64 (by omega), e1]; rfl
      have e4 : IntKind.i64.wrap ((usedW (ln lens) i : Int) + 1) = (usedW (ln lens) (i + 1) : Int) := by rw [wr_i64 (by omega), e2]; rfl
      rw [e3, e4, inc_i (by omega)]
      exact ih k (i + 1) (by omega) (by omega)
    · rw [if_neg c] at e1 e2
      rw [if_neg (by omega)]
      simp only [Option.bind_some, bnd_eq]
      have e5 := ih k (i + 1) (by omega) (by omega)
      rw [e1, e2] at e5
      rw [inc_i (by omega)]
      exact e5
theorem ref5_Check_spec (lens : List Int) : valiseref5_Check.f lens = some (if badL lens = 0 then (shapeW (usedW (ln lens) lens.length) (takeW (ln lens) lens.length), 0) else (0, badL lens)) := by
  rw [valiseref5_Check.f, ref5_valid_spec]
  simp only [Option.bind_some]
  by_cases h : badL lens = 0
  · obtain ⟨h1, h2⟩ := badL_ok h
    have key := ref5_used_loop lens h1 h2 lens.length FU 0 (by omega) (by rw [FU_eq]; omega)
    have key' : valiseref5_used.l1 FU 0 0 0 lens = some ((takeW (ln lens) lens.length : Int), (usedW (ln lens) lens.length : Int)) := key
    rw [if_neg (by simp [h]), if_pos h, valiseref5_used.f, key']
    simp only [Option.bind_some]
    unfold shapeW
    generalize usedW (ln lens) lens.length = W
    generalize takeW (ln lens) lens.length = T
    by_cases c0 : W = 0
    · rw [if_pos (by omega), if_pos c0]
    · rw [if_neg (by omega), if_neg c0]
      by_cases c1 : W = 1 ∧ T = 16384
      · rw [if_pos (by omega), if_pos c1]
      · rw [if_neg (by omega), if_neg c1]
        by_cases c2 : 32768 < T
        · rw [if_pos (by omega), if_pos c2]
        · rw [if_neg (by omega), if_neg c2]
          by_cases c3 : T = 32768
          · rw [if_pos (by omega), if_pos c3]
          · rw [if_neg (by omega), if_neg c3]
  · rw [if_pos (by simpa using h), if_neg h]

theorem ref5_words_inner (lens : List Int) (hn : lens.length ≤ 288) (h : ∀ x ∈ lens, okx x) (v : Nat) (h1 : 1 ≤ v) (hv : v ≤ 15) (m : Nat) : ∀ (k i : Nat), i + m = lens.length → m < k →
    valiseref5_Codes.l13 k ((List.range lens.length).map fun j => if (1 ≤ ln lens j ∧ ln lens j < v) ∨ (ln lens j = v ∧ j < i) then (wordW (ln lens) lens.length j : Int) else 0) ((fstW (ln lens) lens.length v + cntL (ln lens) v i : Nat) : Int) (i : Int) lens (v : Int) =
      some ((List.range lens.length).map fun j => if 1 ≤ ln lens j ∧ ln lens j < v + 1 then (wordW (ln lens) lens.length j : Int) else 0, ((fstW (ln lens) lens.length v + cntL (ln lens) v lens.length : Nat) : Int)) := by
  induction m with
  | zero =>
    intro k i hi hk
    obtain ⟨k, rfl⟩ : ∃ j, k = j + 1 := ⟨k - 1, by omega⟩
    rw [valiseref5_Codes.l13, if_neg (by omega), show i = lens.length by omega]
    congr 2
    refine List.map_congr_left fun j hj => ?_
    have := List.mem_range.1 hj
    by_cases c : 1 ≤ ln lens j ∧ ln lens j < v + 1
    · rw [if_pos c, if_pos (by omega)]
    · rw [if_neg c, if_neg (by omega)]
  | succ m ih =>
    intro k i hi hk
    obtain ⟨k, rfl⟩ : ∃ j, k = j + 1 := ⟨k - 1, by omega⟩
    have hf := fstW_le2 (l := ln lens) hn hv
    have hc := cntL_le (ln lens) v i
    rw [valiseref5_Codes.l13, if_pos (by omega), gd_pos (by omega), rd_ln h (by omega)]
    by_cases c : ln lens i = v
    · have hw : wordW (ln lens) lens.length i = fstW (ln lens) lens.length v + cntL (ln lens) v i := by unfold wordW; rw [c]
      rw [if_pos (by omega), gd_pos (by simp; omega), bnd_eq, bnd_eq, Int.toNat_natCast, map_set, wr_i64 (x := ((fstW (ln lens) lens.length v + cntL (ln lens) v i : Nat) : Int) + 1) (by omega)]
      simp only [Option.bind_some]
      rw [bnd_eq, inc_i (by omega)]
      have e2 : ((List.range lens.length).map fun j => if j = i then ((fstW (ln lens) lens.length v + cntL (ln lens) v i : Nat) : Int) else if (1 ≤ ln lens j ∧ ln lens j < v) ∨ (ln lens j = v ∧ j < i) then (wordW (ln lens) lens.length j : Int) else 0) = (List.range lens.length).map fun j => if (1 ≤ ln lens j ∧ ln lens j < v) ∨ (ln lens j = v ∧ j < i + 1) then (wordW (ln lens) lens.length j : Int) else 0 := by
        refine List.map_congr_left fun j hj => ?_
        by_cases e : j = i
        · subst e; rw [if_pos rfl, if_pos (.inr ⟨c, by omega⟩), hw]
        · rw [if_neg e]
          by_cases d : (1 ≤ ln lens j ∧ ln lens j < v) ∨ (ln lens j = v ∧ j < i)
          · rw [if_pos d, if_pos (by omega)]
          · rw [if_neg d, if_neg (by omega)]
      have e3 : ((fstW (ln lens) lens.length v + cntL (ln lens) v i : Nat) : Int) + 1 = ((fstW (ln lens) lens.length v + cntL (ln lens) v (i + 1) : Nat) : Int) := by rw [cntL_succ, if_pos c]; omega
      rw [e2, e3]
      exact ih k (i + 1) (by omega) (by omega)
    · rw [if_neg (by omega)]
      simp only [Option.bind_some]
      rw [bnd_eq, inc_i (by omega)]
      have e2 : ((List.range lens.length).map fun j => if (1 ≤ ln lens j ∧ ln lens j < v) ∨ (ln lens j = v ∧ j < i) then (wordW (ln lens) lens.length j : Int) else 0) = (List.range lens.length).map fun j => if (1 ≤ ln lens j ∧ ln lens j < v) ∨ (ln lens j = v ∧ j < i + 1) then (wordW (ln lens) lens.length j : Int) else 0 := by
        refine List.map_congr_left fun j hj => ?_
        by_cases e : j = i
        · subst e
          by_cases d : 1 ≤ ln lens j ∧ ln lens j < v
          · rw [if_pos (.inl d), if_pos (.inl d)]
          · rw [if_neg (by omega), if_neg (by omega)]
        · by_cases d : (1 ≤ ln lens j ∧ ln lens j < v) ∨ (ln lens j = v ∧ j < i)
          · rw [if_pos d, if_pos (by omega)]
          · rw [if_neg d, if_neg (by omega)]
      have e3 : cntL (ln lens) v (i + 1) = cntL (ln lens) v i := by rw [cntL_succ, if_neg c]; rfl
      rw [e2, ← e3]
      exact ih k (i + 1) (by omega) (by omega)
theorem ref5_words_outer (lens : List Int) (hn : lens.length ≤ 288) (h : ∀ x ∈ lens, okx x) (m : Nat) : ∀ (k v : Nat), v + m = 16 → m < k → 1 ≤ v →
    valiseref5_Codes.l11 k ((List.range lens.length).map fun j => if 1 ≤ ln lens j ∧ ln lens j < v then (wordW (ln lens) lens.length j : Int) else 0) ((fstW (ln lens) lens.length (v - 1) + (if v - 1 = 0 then 0 else cntL (ln lens) (v - 1) lens.length) : Nat) : Int) (v : Int) lens = some (wsL (ln lens) lens.length) := by
  induction m with
  | zero =>
    intro k v hv hk h1
    obtain ⟨k, rfl⟩ : ∃ j, k = j + 1 := ⟨k - 1, by omega⟩
    rw [valiseref5_Codes.l11, if_neg (by omega)]
    congr 1
    unfold wsL
    refine List.map_congr_left fun j hj => ?_
    have := ln_le h j
    by_cases c : 0 < ln lens j
    · rw [if_pos c, if_pos (by omega)]
    · rw [if_neg c, if_neg (by omega)]
  | succ m ih =>
    intro k v hv hk h1
    obtain ⟨k, rfl⟩ : ∃ j, k = j + 1 := ⟨k - 1, by omega⟩
    obtain ⟨u, rfl⟩ : ∃ u, v = u + 1 := ⟨v - 1, by omega⟩
    have hf := fstW_le2 (l := ln lens) hn (v := u) (by omega)
    have hc := cntL_le (ln lens) u lens.length
    have hx : (if u = 0 then 0 else cntL (ln lens) u lens.length : Nat) ≤ lens.length := by split <;> omega
    have e1 : IntKind.i64.wrap (2 * ((fstW (ln lens) lens.length u + (if u = 0 then 0 else cntL (ln lens) u lens.length) : Nat) : Int)) = ((fstW (ln lens) lens.length (u + 1) + cntL (ln lens) (u + 1) 0 : Nat) : Int) := by
      have e0 : cntL (ln lens) (u + 1) 0 = 0 := rfl
      rw [wr_i64 (by omega), e0]; simp only [fstW]; omega
    have key := ref5_words_inner lens hn h (u + 1) (by omega) (by omega) lens.length FU 0 (by omega) (by rw [FU_eq]; omega)
    have e2 : ((List.range lens.length).map fun j => if (1 ≤ ln lens j ∧ ln lens j < u + 1) ∨ (ln lens j = u + 1 ∧ j < 0) then (wordW (ln lens) lens.length j : Int) else 0) = (List.range lens.length).map fun j => if 1 ≤ ln lens j ∧ ln lens j < u + 1 then (wordW (ln lens) lens.length j : Int) else 0 := by
      refine List.map_congr_left fun j hj => ?_
      by_cases d : 1 ≤ ln lens j ∧ ln lens j < u + 1
      · rw [if_pos d, if_pos (.inl d)]
      · rw [if_neg d, if_neg (by omega)]
    rw [e2, show ((0 : Nat) : Int) = 0 from rfl] at key
    rw [valiseref5_Codes.l11, if_pos (by omega), Nat.add_sub_cancel, bnd_eq, e1, key]
    simp only [Option.bind_some]
    rw [bnd_eq, inc_i (by omega)]
    have := ih k (u + 1 + 1) (by omega) (by omega) (by omega)
    rw [Nat.add_sub_cancel, if_neg (by omega)] at this
    exact this
theorem ref5_Codes_spec (lens : List Int) : valiseref5_Codes.f lens = some (if badL lens = 0 then (if 32768 < takeW (ln lens) lens.length then ([], 51) else (wsL (ln lens) lens.length, 0)) else ([], badL lens)) := by
  rw [valiseref5_Codes.f, ref5_Check_spec]
  by_cases h : badL lens = 0
  · obtain ⟨h1, h2⟩ := badL_ok h
    rw [if_pos h, if_pos h]
    simp only [Option.bind_some]
    rw [if_neg (by decide)]
    by_cases c : 32768 < takeW (ln lens) lens.length
    · rw [if_pos (shape_over.2 c), if_pos c]
    · rw [if_neg (fun e => c (shape_over.1 e)), if_neg c, gd_pos (by omega), bnd_eq, Int.toNat_natCast]
      have key := ref5_words_outer lens h1 h2 15 FU 1 (by omega) (by rw [FU_eq]; omega) (by omega)
      have e : ((List.range lens.length).map fun j => if 1 ≤ ln lens j ∧ ln lens j < 1 then (wordW (ln lens) lens.length j : Int) else 0) = List.replicate lens.length (0 : Int) := by
        rw [zeros_map]
        exact List.map_congr_left fun j _ => if_neg (by omega)
      rw [e] at key
      have key' : valiseref5_Codes.l11 FU (List.replicate lens.length (0 : Int)) 0 1 lens = some (wsL (ln lens) lens.length) := key
      rw [key']
      rfl
  · rw [if_neg h, if_neg h]
    simp only [Option.bind_some]
    rw [if_pos h]

theorem valiselaw5_spoil_loop (n : Nat) (hn : n ≤ 17592186043904) (m : Nat) : ∀ (k i : Nat) (l : List Int), i + m = n → l.length = n → m < k → valiselaw5_spoil.l1 k (List.replicate i 9 ++ l.drop i) (i : Int) = some (List.replicate n 9) := by
  induction m with
  | zero =>
    intro k i l hi hl hk
    obtain ⟨k, rfl⟩ : ∃ j, k = j + 1 := ⟨k - 1, by omega⟩
    rw [List.drop_of_length_le (by omega), List.append_nil, valiselaw5_spoil.l1, if_neg (by rw [List.length_replicate]; omega), show i = n by omega]
  | succ m ih =>
    intro k i l hi hl hk
    obtain ⟨k, rfl⟩ : ∃ j, k = j + 1 := ⟨k - 1, by omega⟩
    have hlen : (List.replicate i (9 : Int) ++ l.drop i).length = n := by rw [List.length_append, List.length_replicate, List.length_drop]; omega
    have hd : l.drop i = l[i]'(by omega) :: l.drop (i + 1) := drop_cons (List.getElem?_eq_getElem (by omega))
    have es : (List.replicate i (9 : Int) ++ l.drop i).set i 9 = List.replicate (i + 1) 9 ++ l.drop (i + 1) := by
      rw [hd, List.set_append_right _ _ (by rw [List.length_replicate]; exact Nat.le_refl _), List.length_replicate, Nat.sub_self, List.set_cons_zero, List.replicate_succ', List.append_assoc]; rfl
    rw [valiselaw5_spoil.l1, if_pos (by rw [hlen]; omega), gd_pos (by rw [hlen]; omega), bnd_eq, Int.toNat_natCast, es, bnd_eq, inc_i (by omega)]
    exact ih k (i + 1) l (by omega) hl (by omega)
theorem valiselaw5_spoil_spec (l : List Int) (h : l.length ≤ 17592186043904) : valiselaw5_spoil.f l = some (List.replicate l.length 9) := by
  have key := valiselaw5_spoil_loop l.length h l.length FU 0 l (by omega) rfl (by rw [FU_eq]; omega)
  have key' : valiselaw5_spoil.l1 FU l 0 = _ := key
  rw [valiselaw5_spoil.f, key']
  simp only [Option.bind_some]
  rw [gd_pos (by simp)]

theorem valiselaw5_apartInts_l1 (n : Nat) (hn : n ≤ 17592186043904) (m : Nat) : ∀ (k i : Nat) (l : List Int), i + m = n → l.length = n → m < k → valiselaw5_apartInts.l1 k (List.replicate i 9 ++ l.drop i) (i : Int) = some (List.replicate n 9) := by
  induction m with
  | zero =>
    intro k i l hi hl hk
    obtain ⟨k, rfl⟩ : ∃ j, k = j + 1 := ⟨k - 1, by omega⟩
    rw [List.drop_of_length_le (by omega), List.append_nil, valiselaw5_apartInts.l1, if_neg (by rw [List.length_replicate]; omega), show i = n by omega]
  | succ m ih =>
    intro k i l hi hl hk
    obtain ⟨k, rfl⟩ : ∃ j, k = j + 1 := ⟨k - 1, by omega⟩
    have hlen : (List.replicate i (9 : Int) ++ l.drop i).length = n := by rw [List.length_append, List.length_replicate, List.length_drop]; omega
    have hd : l.drop i = l[i]'(by omega) :: l.drop (i + 1) := drop_cons (List.getElem?_eq_getElem (by omega))
    have es : (List.replicate i (9 : Int) ++ l.drop i).set i 9 = List.replicate (i + 1) 9 ++ l.drop (i + 1) := by
      rw [hd, List.set_append_right _ _ (by rw [List.length_replicate]; exact Nat.le_refl _), List.length_replicate, Nat.sub_self, List.set_cons_zero, List.replicate_succ', List.append_assoc]; rfl
    rw [valiselaw5_apartInts.l1, if_pos (by rw [hlen]; omega), gd_pos (by rw [hlen]; omega), bnd_eq, Int.toNat_natCast, es, bnd_eq, inc_i (by omega)]
    exact ih k (i + 1) l (by omega) hl (by omega)
theorem valiselaw5_apartInts_l3 (n : Nat) (hn : n ≤ 17592186043904) (m : Nat) : ∀ (k i : Nat) (l : List Int), i + m = n → l.length = n → m < k → valiselaw5_apartInts.l3 k (List.replicate i 8 ++ l.drop i) (i : Int) = some (List.replicate n 8) := by
  induction m with
  | zero =>
    intro k i l hi hl hk
    obtain ⟨k, rfl⟩ : ∃ j, k = j + 1 := ⟨k - 1, by omega⟩
    rw [List.drop_of_length_le (by omega), List.append_nil, valiselaw5_apartInts.l3, if_neg (by rw [List.length_replicate]; omega), show i = n by omega]
  | succ m ih =>
    intro k i l hi hl hk
    obtain ⟨k, rfl⟩ : ∃ j, k = j + 1 := ⟨k - 1, by omega⟩
    have hlen : (List.replicate i (8 : Int) ++ l.drop i).length = n := by rw [List.length_append, List.length_replicate, List.length_drop]; omega
    have hd : l.drop i = l[i]'(by omega) :: l.drop (i + 1) := drop_cons (List.getElem?_eq_getElem (by omega))
    have es : (List.replicate i (8 : Int) ++ l.drop i).set i 8 = List.replicate (i + 1) 8 ++ l.drop (i + 1) := by
      rw [hd, List.set_append_right _ _ (by rw [List.length_replicate]; exact Nat.le_refl _), List.length_replicate, Nat.sub_self, List.set_cons_zero, List.replicate_succ', List.append_assoc]; rfl
    rw [valiselaw5_apartInts.l3, if_pos (by rw [hlen]; omega), gd_pos (by rw [hlen]; omega), bnd_eq, Int.toNat_natCast, es, bnd_eq, inc_i (by omega)]
    exact ih k (i + 1) l (by omega) hl (by omega)
theorem rd_replicate (n : Nat) (c : Int) {i : Nat} (h : i < n) : rd (List.replicate n c) (i : Int) = c := rd_at (by rw [List.getElem?_replicate, if_pos h])
theorem valiselaw5_apartInts_l5 (A B : List Int) (p q : Nat) (hp : p ≤ 17592186043904) (m : Nat) : ∀ (k i : Nat), i + m = p → m < k → valiselaw5_apartInts.l5 k (i : Int) A B (List.replicate p 9) (List.replicate q 8) = some (.inr ()) := by
  induction m with
  | zero =>
    intro k i hi hk
    obtain ⟨k, rfl⟩ : ∃ j, k = j + 1 := ⟨k - 1, by omega⟩
    rw [valiselaw5_apartInts.l5, if_neg (by rw [List.length_replicate]; omega)]
  | succ m ih =>
    intro k i hi hk
    obtain ⟨k, rfl⟩ : ∃ j, k = j + 1 := ⟨k - 1, by omega⟩
    rw [valiselaw5_apartInts.l5, if_pos (by rw [List.length_replicate]; omega), gd_pos (by rw [List.length_replicate]; omega), rd_replicate p 9 (by omega), if_neg (by decide), bnd_eq, inc_i (by omega)]
    exact ih k (i + 1) (by omega) (by omega)
theorem valiselaw5_apartInts_l7 (A B : List Int) (p q : Nat) (hq : q ≤ 17592186043904) (m : Nat) : ∀ (k i : Nat), i + m = q → m < k → valiselaw5_apartInts.l7 k (i : Int) A B (List.replicate p 9) (List.replicate q 8) = some (.inr ()) := by
  induction m with
  | zero =>
    intro k i hi hk
    obtain ⟨k, rfl⟩ : ∃ j, k = j + 1 := ⟨k - 1, by omega⟩
    rw [valiselaw5_apartInts.l7, if_neg (by rw [List.length_replicate]; omega)]
  | succ m ih =>
    intro k i hi hk
    obtain ⟨k, rfl⟩ : ∃ j, k = j + 1 := ⟨k - 1, by omega⟩
    rw [valiselaw5_apartInts.l7, if_pos (by rw [List.length_replicate]; omega), gd_pos (by rw [List.length_replicate]; omega), rd_replicate q 8 (by omega), if_neg (by decide), bnd_eq, inc_i (by omega)]
    exact ih k (i + 1) (by omega) (by omega)
theorem valiselaw5_apartInts_spec (a b : List Int) (ha : a.length * 8 ≤ 140737488351232) (hb : b.length * 8 ≤ 140737488351232) : valiselaw5_apartInts.f a b = some (true, List.replicate a.length 9, List.replicate b.length 8) := by
  have k1 := valiselaw5_apartInts_l1 a.length (by omega) a.length FU 0 a (by omega) rfl (by rw [FU_eq]; omega)
  have k1' : valiselaw5_apartInts.l1 FU a 0 = _ := k1
  have k3 := valiselaw5_apartInts_l3 b.length (by omega) b.length FU 0 b (by omega) rfl (by rw [FU_eq]; omega)
  have k3' : valiselaw5_apartInts.l3 FU b 0 = _ := k3
  have k5 := valiselaw5_apartInts_l5 a b a.length b.length (by omega) a.length FU 0 (by omega) (by rw [FU_eq]; omega)
  rw [show ((0 : Nat) : Int) = 0 from rfl] at k5
  have k7 := valiselaw5_apartInts_l7 a b a.length b.length (by omega) b.length FU 0 (by omega) (by rw [FU_eq]; omega)
  rw [show ((0 : Nat) : Int) = 0 from rfl] at k7
  have la : (List.replicate a.length (9 : Int) ++ [5]).length = a.length + 1 := by simp
  have lb : (List.replicate b.length (8 : Int) ++ [6]).length = b.length + 1 := by simp
  have ra : rd (List.replicate a.length (9 : Int) ++ [5]) (a.length : Int) = 5 := rd_at (by rw [List.getElem?_append_right (by simp)]; simp)
  have rb : rd (List.replicate b.length (8 : Int) ++ [6]) (b.length : Int) = 6 := rd_at (by rw [List.getElem?_append_right (by simp)]; simp)
  rw [valiselaw5_apartInts.f, k1']
  simp only [Option.bind_some]
  rw [k3']
  simp only [Option.bind_some]
  rw [bnd_eq, gd_pos (by rw [la]; omega), bnd_eq, gd_pos (by rw [lb]; omega), k5]
  simp only [Option.bind_some, onR]
  rw [k7]
  simp only [Option.bind_some, onR]
  rw [List.length_replicate, List.length_replicate, gd_pos (by rw [la]; omega), ra, if_pos rfl, gd_pos (by rw [lb]; omega), rb]
  simp only [Option.bind_some]
  rw [gd_pos trivial, gd_pos trivial]
  simp


theorem back_loop (l : List Int) (hl : l.length * 8 ≤ 140737488351232) (i : Nat) : ∀ (k : Nat), i < k → i ≤ l.length → valiselaw5_backward.l1 k ((l.drop i).reverse) ((i : Int) - 1) l = some l.reverse := by
  induction i with
  | zero =>
    intro k hk hi
    obtain ⟨k, rfl⟩ : ∃ j, k = j + 1 := ⟨k - 1, by omega⟩
    rw [valiselaw5_backward.l1, if_neg (by omega), List.drop_zero]
  | succ i ih =>
    intro k hk hi
    obtain ⟨k, rfl⟩ : ∃ j, k = j + 1 := ⟨k - 1, by omega⟩
    have hx : l[i]? = some l[i] := List.getElem?_eq_getElem (by omega)
    have e : ((i + 1 : Nat) : Int) - 1 = (i : Int) := by omega
    have e2 : (l.drop (i + 1)).reverse ++ [l[i]] = (l.drop i).reverse := by rw [drop_cons hx, List.reverse_cons]
    rw [valiselaw5_backward.l1, e, if_pos (by omega), gd_pos (by omega), rd_at hx, e2, bnd_eq, gd_pos (by rw [List.length_reverse, List.length_drop]; omega), bnd_eq, wr_i64 (by omega)]
    exact ih k (by omega) (by omega)
theorem back_spec (l : List Int) (hl : l.length * 8 ≤ 140737488351232) : valiselaw5_backward.f l = some l.reverse := by
  have key := back_loop l hl l.length FU (by rw [FU_eq]; omega) (Nat.le_refl _)
  rw [List.drop_of_length_le (Nat.le_refl _), List.reverse_nil] at key
  rw [valiselaw5_backward.f, bnd_eq, wr_i64 (by omega), key]
  rfl
theorem other_words : code_Codes.f [1, 2, 2] = some ([0, 2, 3], 0) := by
  rw [code_Codes_spec, if_pos (by decide), if_neg (by decide)]
  rfl
theorem valiselaw5_CodeWords_true (a : List Int) (ha : ∀ x ∈ a, (Lit.int .i64 x).wf = true) (wa : a.length * 8 ≤ 140737488351232) : valiselaw5_CodeWords.f a = some true := by
  have tk : (a ++ [-71, -72, -73]).take a.length = a := List.take_left
  have wl : ∀ b : List Int, (if badL b = 0 then (if 32768 < takeW (ln b) b.length then (([] : List Int), (51 : Int)) else (wsL (ln b) b.length, 0)) else ([], badL b)).1.length ≤ 288 := by
    intro b
    by_cases h : badL b = 0
    · rw [if_pos h]
      split
      · simp
      · rw [wsL_length]; exact (badL_ok h).1
    · rw [if_neg h]; simp
  rw [valiselaw5_CodeWords.f, framed5 a wa]
  simp only [Option.bind_some]
  rw [gd_pos (by simp; omega), Int.toNat_natCast, tk, other_words, code_Codes_spec a, ref5_Codes_spec a]
  generalize hW : (if badL a = 0 then (if 32768 < takeW (ln a) a.length then (([] : List Int), (51 : Int)) else (wsL (ln a) a.length, 0)) else ([], badL a)) = W
  have wW := wl a
  rw [hW] at wW
  obtain ⟨W, e⟩ := W
  simp only at wW
  have same0 : valiselaw5_same.f [0, 2, 3] [0, 2, 3] = some true := by rw [valiselaw5_same_spec _ _ (by simp)]; simp
  simp only [Option.bind_some]
  have same : ∀ b : List Int, b.length ≤ 288 → valiselaw5_same.f b b = some true := fun b hb => by rw [valiselaw5_same_spec b b (by omega)]; simp
  rw [if_neg (fun f => f rfl), same W wW, whole5 a wa]
  simp only [Option.bind_some, Bool.not_true, Bool.false_eq_true, if_false]
  rw [same [0, 2, 3] (by simp), valiselaw5_spoil_spec W (by omega)]
  simp only [Option.bind_some, Bool.not_true, Bool.false_eq_true, if_false]
  rw [back_spec a wa]
  simp only [Option.bind_some]
  have cp : cpyV (a ++ [-71, -72, -73]) a.length a.reverse = a.reverse ++ [-71, -72, -73] := by
    unfold cpyV cpy
    rw [tk, List.drop_left, List.take_of_length_le (by rw [List.length_reverse]; exact Nat.le_refl _), List.drop_of_length_le (by rw [List.length_reverse]; exact Nat.le_refl _), List.append_nil]
  have tk2 : (a.reverse ++ [-71, -72, -73]).take a.length = a.reverse := by
    have : (a.reverse ++ [-71, -72, -73]).take a.reverse.length = a.reverse := List.take_left
    rwa [List.length_reverse] at this
  have wr : a.reverse.length * 8 ≤ 140737488351232 := by rw [List.length_reverse]; exact wa
  rw [bnd_eq, cp, tk2, code_Codes_spec a.reverse, ref5_Codes_spec a.reverse, whole5 a.reverse wr]
  have wX := wl a.reverse
  generalize (if badL a.reverse = 0 then (if 32768 < takeW (ln a.reverse) a.reverse.length then (([] : List Int), (51 : Int)) else (wsL (ln a.reverse) a.reverse.length, 0)) else ([], badL a.reverse)) = X at wX
  obtain ⟨X, e2⟩ := X
  simp only at wX
  simp only [Option.bind_some]
  rw [same X wX]
  simp only [Option.bind_some]
  rw [if_pos ⟨trivial, trivial⟩]
  simp only [Option.bind_some, if_true]
  rw [valiselaw5_apartInts_spec _ _ (by rw [List.length_replicate]; omega) (by omega)]
  simp only [Option.bind_some, if_true]
  rw [valiselaw5_apartInts_spec _ _ (by rw [List.length_replicate]; omega) (by omega)]
  simp only [Option.bind_some, if_true]
  rw [valiselaw5_apartInts_spec _ _ (by rw [List.length_replicate]; omega) (by simp)]
  simp only [Option.bind_some, if_true]
  rw [valiselaw5_apartInts_spec _ _ (by rw [List.length_replicate]; simp) (by omega)]
  simp only [Option.bind_some]
end Go.V.Pu
