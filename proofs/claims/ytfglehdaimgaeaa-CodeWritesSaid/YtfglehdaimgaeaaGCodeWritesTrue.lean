/- The plain law: every list, every symbols: errors, lengths and bits are the document's. -/
import Derived.Test.YtfglehdaimgaeaaGCodeWritesPure
import Derived.Test.YtfglehdaimgaeaaQ9
set_option linter.unusedVariables false
set_option linter.unusedSimpArgs false
namespace Go.V.Pu
open Go Go.V

theorem copied5 (a : List Int) (h : a.length * 8 ≤ 140737488351232) : valiselaw5_copied.f a = some a := by
  have e : IntKind.i64.wrap ((a.length : Int) + 4) = ((a.length + 4 : Nat) : Int) := by rw [wr_i64 (by omega)]; rfl
  have hc : cpy (List.replicate ((a.length : Int)).toNat (0 : Int)) a = a := by
    unfold cpy
    rw [List.length_replicate, Int.toNat_natCast, List.take_length, List.drop_eq_nil_of_le (by simp), List.append_nil]
  rw [valiselaw5_copied.f, e, gd_pos (by omega), gd_pos (by omega), bnd_eq, bnd_eq, hc]

theorem valiselaw5_same_spec (a b : List Int) (h : a.length < 4611686018427387904) : valiselaw5_same.f a b = some (decide (a = b)) := by
  unfold valiselaw5_same.f
  by_cases hl : a.length = b.length
  · rw [if_neg (by omega)]
    have key := list_loop1 a (by omega) (fun k i (_ : Unit) => valiselaw5_same.l1 k i a b) (fun i x _ => if rd b (i : Int) = x then .inr () else .inl (.inl false)) (fun _ => .inr ())
      (fun k _ => by rw [valiselaw5_same.l1, if_neg (by omega)])
      (fun k i x _ hx hi => by
        have e1 : rd a (i : Int) = x := rd_at hx
        rw [valiselaw5_same.l1, if_pos (by omega), gd_pos (by omega), gd_pos (by omega), e1]
        by_cases e : rd b (i : Int) = x
        · simp only [if_pos e]
          rw [if_neg (fun e' => e' e.symm), bnd_eq, inc_i (by omega)]
        · simp only [if_neg e]
          rw [if_pos (fun e' => e e'.symm)]) ()
    rw [show valiselaw5_same.l1 FU 0 a b = _ from key]
    by_cases e : a = b
    · rw [foldE_ok a 0 (fun j x hx => by rw [if_pos ((all_eq hl).2 e j x hx)])]
      simp [onR, e]
    · rw [foldE_bad (bad := .inl false) a 0 (fun j x hx => by
        by_cases e2 : rd b ((0 + j : Nat) : Int) = x
        · left; rw [if_pos e2]
        · right; rw [if_neg e2]) ?_]
      · simp [onR, e]
      · apply Classical.byContradiction
        intro hn
        apply e
        rw [← all_eq hl]
        intro j x hx
        apply Classical.byContradiction
        intro h2
        exact hn ⟨j, x, hx, by rw [if_neg h2]; intro h3; cases h3⟩
  · rw [if_pos (by omega)]
    simp
    intro e
    exact hl (by rw [e])

theorem valiselaw5_sameBytes_spec (a b : List Int) (h : a.length < 4611686018427387904) : valiselaw5_sameBytes.f a b = some (decide (a = b)) := by
  unfold valiselaw5_sameBytes.f
  by_cases hl : a.length = b.length
  · rw [if_neg (by omega)]
    have key := list_loop1 a (by omega) (fun k i (_ : Unit) => valiselaw5_sameBytes.l1 k i a b) (fun i x _ => if rd b (i : Int) = x then .inr () else .inl (.inl false)) (fun _ => .inr ())
      (fun k _ => by rw [valiselaw5_sameBytes.l1, if_neg (by omega)])
      (fun k i x _ hx hi => by
        have e1 : rd a (i : Int) = x := rd_at hx
        rw [valiselaw5_sameBytes.l1, if_pos (by omega), gd_pos (by omega), gd_pos (by omega), e1]
        by_cases e : rd b (i : Int) = x
        · simp only [if_pos e]
          rw [if_neg (fun e' => e' e.symm), bnd_eq, inc_i (by omega)]
        · simp only [if_neg e]
          rw [if_pos (fun e' => e e'.symm)]) ()
    rw [show valiselaw5_sameBytes.l1 FU 0 a b = _ from key]
    by_cases e : a = b
    · rw [foldE_ok a 0 (fun j x hx => by rw [if_pos ((all_eq hl).2 e j x hx)])]
      simp [onR, e]
    · rw [foldE_bad (bad := .inl false) a 0 (fun j x hx => by
        by_cases e2 : rd b ((0 + j : Nat) : Int) = x
        · left; rw [if_pos e2]
        · right; rw [if_neg e2]) ?_]
      · simp [onR, e]
      · apply Classical.byContradiction
        intro hn
        apply e
        rw [← all_eq hl]
        intro j x hx
        apply Classical.byContradiction
        intro h2
        exact hn ⟨j, x, hx, by rw [if_neg h2]; intro h3; cases h3⟩
  · rw [if_pos (by omega)]
    simp
    intro e
    exact hl (by rw [e])

theorem framed5 (a : List Int) (h : a.length * 8 ≤ 140737488351232) : valiselaw5_framed.f a = some (a ++ [-71, -72, -73]) := by
  rw [valiselaw5_framed.f, copied5 a h]
  simp only [Option.bind_some, bnd_eq]
  rw [gd_pos (by simp; omega)]
theorem whole5 (a : List Int) (h : a.length * 8 ≤ 140737488351232) : valiselaw5_whole.f (a ++ [-71, -72, -73]) a = some true := by
  have e1 : IntKind.i64.wrap ((a.length : Int) + 3) = ((a.length + 3 : Nat) : Int) := by rw [wr_i64 (by omega)]; rfl
  have e2 : IntKind.i64.wrap ((a.length : Int) + 1) = ((a.length + 1 : Nat) : Int) := by rw [wr_i64 (by omega)]; rfl
  have e3 : IntKind.i64.wrap ((a.length : Int) + 2) = ((a.length + 2 : Nat) : Int) := by rw [wr_i64 (by omega)]; rfl
  have hl : (a ++ [-71, -72, -73]).length = a.length + 3 := by simp
  have r0 : rd (a ++ [-71, -72, -73]) (a.length : Int) = -71 := rd_at (by rw [List.getElem?_append_right (Nat.le_refl _)]; simp)
  have r1 : rd (a ++ [-71, -72, -73]) ((a.length + 1 : Nat) : Int) = -72 := rd_at (by rw [List.getElem?_append_right (by omega)]; simp)
  have r2 : rd (a ++ [-71, -72, -73]) ((a.length + 2 : Nat) : Int) = -73 := rd_at (by rw [List.getElem?_append_right (by omega)]; simp)
  rw [valiselaw5_whole.f]
  simp only [bnd_eq, e1, e2, e3, hl, r0, r1, r2]
  rw [if_neg (by simp), gd_pos (by omega)]
  simp only [Option.bind_some, ne_eq, not_true_eq_false, decide_false, Bool.false_eq_true, if_false]
  rw [gd_pos (by omega)]
  simp only [Option.bind_some, Bool.false_eq_true, if_false]
  rw [gd_pos (by omega)]
  simp only [Option.bind_some, Bool.false_eq_true, if_false]
  rw [gd_pos (by omega), Int.toNat_natCast, List.take_left, valiselaw5_same_spec a a (by omega)]
  simp

theorem code_count_loop (lens : List Int) (hl : lens.length ≤ 288) (m : Nat) : ∀ (k i : Nat), i + m = lens.length → m < k → (∀ j x, j < i → lens[j]? = some x → okx x) →
    code_count.l1 k (cl0 (ln lens) i) (i : Int) lens = if (∀ x ∈ lens, okx x) then some (.inr (cl0 (ln lens) lens.length)) else some (.inl (List.replicate 16 (0 : Int), 50)) := by
  induction m with
  | zero =>
    intro k i hi hk ho
    obtain ⟨k, rfl⟩ : ∃ j, k = j + 1 := ⟨k - 1, by omega⟩
    have hall : ∀ x ∈ lens, okx x := fun x hx => by
      obtain ⟨j, hj⟩ := List.getElem?_of_mem hx
      exact ho j x (by have := (List.getElem?_eq_some_iff.1 hj).1; omega) hj
    rw [code_count.l1, if_neg (by omega), if_pos hall, show i = lens.length by omega]
  | succ m ih =>
    intro k i hi hk ho
    obtain ⟨k, rfl⟩ : ∃ j, k = j + 1 := ⟨k - 1, by omega⟩
    have hx : lens[i]? = some lens[i] := List.getElem?_eq_getElem (by omega)
    rw [code_count.l1, if_pos (by omega), gd_pos (by omega), bnd_eq, rd_at hx]
    by_cases c : okx lens[i]
    · have c' := c
      unfold okx at c'
      have e : ln lens i = (lens[i]).toNat := ln_at hx
      have hle : ln lens i ≤ 15 := by omega
      have e2 : lens[i] = (ln lens i : Int) := by omega
      have hc := cntL_le (ln lens) (ln lens i) i
      rw [if_neg (by omega), gd_pos (by omega), gd_pos (cl0_length _ _), bnd_eq, e2, rd_cl0 (by omega), wr_i64 (x := (cntL (ln lens) (ln lens i) i : Int) + 1) (by omega), Int.toNat_natCast, cl0_step _ _ hle, inc_i (by omega)]
      exact ih k (i + 1) (by omega) (by omega) (fun j x hj hjx => by
        by_cases e3 : j = i
        · subst e3; rw [hx] at hjx; cases hjx; exact c
        · exact ho j x (by omega) hjx)
    · have c' := c
      unfold okx at c'
      rw [if_pos (by omega), if_neg fun h => c (h _ (List.getElem_mem (by omega)))]
theorem code_count_spec (lens : List Int) : code_count.f lens = some (if badL lens = 0 then (cl (ln lens) lens.length, 0) else (List.replicate 16 (0 : Int), badL lens)) := by
  unfold code_count.f
  by_cases h : 288 < (lens.length : Int)
  · have e : badL lens = 1 := by unfold badL; rw [if_pos (by omega)]
    rw [if_pos h, e, if_neg (by decide)]
  · have key := code_count_loop lens (by omega) lens.length FU 0 (by omega) (by rw [FU_eq]; omega) (fun j x hj => by omega)
    rw [cl0_zero] at key
    have e0 : ((0 : Nat) : Int) = 0 := rfl
    rw [e0] at key
    rw [if_neg h, key]
    by_cases c : ∀ x ∈ lens, okx x
    · rw [if_pos c, if_pos (badL_zero (by omega) c)]
      simp only [Option.bind_some, onR]
      rw [gd_pos (cl0_length _ _), bnd_eq, show (0 : Int).toNat = 0 from rfl, cl_of]
    · have e : badL lens = 50 := by unfold badL; rw [if_neg (by omega), if_neg c]
      rw [if_neg c, e, if_neg (by decide)]
      rfl

theorem code_shape_loop (l : Nat → Nat) (n : Nat) (hn : n ≤ 288) (h : ∀ j, j < n → l j ≤ 15) (m : Nat) : ∀ (k v : Nat), v + m = 16 → m < k → 1 ≤ v →
    code_shape.l1 k (wupto l n v : Int) (upto l n v : Int) (v : Int) (cl l n) = some ((usedW l n : Int), (takeW l n : Int)) := by
  have hW := wupto_all h
  have hT := upto_take h
  have hW2 := usedW_le l n
  have hT2 := takeW_le l n
  have wm : ∀ v, v ≤ 16 → wupto l n v ≤ usedW l n := by
    intro v hv
    rw [← hW]
    have : ∀ d v, v + d = 16 → wupto l n v ≤ wupto l n 16 := by
      intro d
      induction d with
      | zero => intro v hv; rw [show v = 16 by omega]; exact Nat.le_refl _
      | succ d ih => intro v hv; have := ih (v + 1) (by omega); rw [wupto] at this; omega
    exact this (16 - v) v (by omega)
  have um : ∀ v, v ≤ 16 → upto l n v ≤ takeW l n := fun v hv => by rw [← hT]; exact upto_mono l n hv
  induction m with
  | zero =>
    intro k v hv hk h1
    obtain ⟨k, rfl⟩ : ∃ j, k = j + 1 := ⟨k - 1, by omega⟩
    rw [code_shape.l1, if_neg (by omega), show v = 16 by omega, hW, hT]
  | succ m ih =>
    intro k v hv hk h1
    obtain ⟨k, rfl⟩ : ∃ j, k = j + 1 := ⟨k - 1, by omega⟩
    have a := wm (v + 1) (by omega)
    have b := um (v + 1) (by omega)
    rw [wupto, if_neg (by omega)] at a
    rw [upto_succ, if_neg (by omega)] at b
    have e1 : IntKind.i64.wrap (15 - (v : Int)) = ((15 - v : Nat) : Int) := by rw [wr_i64 (by omega)]; omega
    have e2 : shl .i64 (cntL l v n : Int) ((15 - v : Nat) : Int) = ((cntL l v n * 2 ^ (15 - v) : Nat) : Int) := by
      unfold shl
      rw [Int.toNat_natCast, Nat.min_eq_left (by simp only [IntKind.bits]; omega), wr_i64]
      · simp
      · have e3 : (cntL l v n : Int) * 2 ^ (15 - v) = ((cntL l v n * 2 ^ (15 - v) : Nat) : Int) := by simp
        rw [e3]; omega
    have e3 : IntKind.i64.wrap ((wupto l n v : Int) + (cntL l v n : Int)) = (wupto l n (v + 1) : Int) := by rw [wr_i64 (by omega), wupto, if_neg (by omega)]; rfl
    have e4 : IntKind.i64.wrap ((upto l n v : Int) + ((cntL l v n * 2 ^ (15 - v) : Nat) : Int)) = (upto l n (v + 1) : Int) := by rw [wr_i64 (by omega), upto_succ, if_neg (by omega)]; rfl
    rw [code_shape.l1, if_pos (by omega), gd_pos (by omega), gd_pos (cl_length _ _), bnd_eq, rd_cl (by omega) (by omega), e1, gd_pos (by omega), bnd_eq, e2, e3, e4, bnd_eq, inc_i (by omega)]
    exact ih k (v + 1) (by omega) (by omega) (by omega)
theorem code_shape_spec (l : Nat → Nat) (n : Nat) (hn : n ≤ 288) (h : ∀ j, j < n → l j ≤ 15) : code_shape.f (cl l n) = some (shapeW (usedW l n) (takeW l n)) := by
  have key := code_shape_loop l n hn h 15 FU 1 (by omega) (by rw [FU_eq]; omega) (by omega)
  have key' : code_shape.l1 FU 0 0 1 (cl l n) = some ((usedW l n : Int), (takeW l n : Int)) := key
  rw [code_shape.f, key']
  simp only [Option.bind_some]
  unfold shapeW
  by_cases h0 : usedW l n = 0
  · rw [if_pos (by omega), if_pos h0]
  · rw [if_neg (by omega), if_neg h0]
    by_cases h1 : usedW l n = 1
    · have e1 : rd (cl l n) 1 = (cntL l 1 n : Int) := rd_cl (v := 1) (by omega) (by omega)
      rw [if_pos (by omega), gd_pos (cl_length _ _), e1]
      simp only [Option.bind_some]
      have hs := single_iff h1
      by_cases h2 : takeW l n = 16384
      · have := hs.2 h2
        rw [if_pos (by simp; omega), if_pos ⟨h1, h2⟩]
      · have : ¬ cntL l 1 n = 1 := fun e => h2 (hs.1 e)
        rw [if_neg (by simp; omega), if_neg (show ¬ (usedW l n = 1 ∧ takeW l n = 16384) by omega)]
        by_cases h3 : 32768 < takeW l n
        · rw [if_pos (by omega), if_pos h3]
        · rw [if_neg (by omega), if_neg h3]
          by_cases h4 : takeW l n = 32768
          · rw [if_pos (by omega), if_pos h4]
          · rw [if_neg (by omega), if_neg h4]
    · rw [if_neg (by omega)]
      simp only [Option.bind_some, Bool.false_eq_true, if_false]
      rw [if_neg (show ¬ (usedW l n = 1 ∧ takeW l n = 16384) by omega)]
      by_cases h3 : 32768 < takeW l n
      · rw [if_pos (by omega), if_pos h3]
      · rw [if_neg (by omega), if_neg h3]
        by_cases h4 : takeW l n = 32768
        · rw [if_pos (by omega), if_pos h4]
        · rw [if_neg (by omega), if_neg h4]

theorem code_first_loop (l : Nat → Nat) (n : Nat) (hn : n ≤ 288) (m : Nat) : ∀ (k v : Nat), v + m = 16 → m < k → 1 ≤ v →
    code_first.l1 k ((List.range 16).map fun u => if u < v then (fstW l n u : Int) else 0) (fstW l n (v - 1) : Int) (v : Int) (cl l n) = some (fsL l n) := by
  induction m with
  | zero =>
    intro k v hv hk h1
    obtain ⟨k, rfl⟩ : ∃ j, k = j + 1 := ⟨k - 1, by omega⟩
    rw [code_first.l1, if_neg (by omega)]
    congr 1
    unfold fsL
    refine List.map_congr_left fun u hu => if_pos ?_
    have := List.mem_range.1 hu; omega
  | succ m ih =>
    intro k v hv hk h1
    obtain ⟨k, rfl⟩ : ∃ j, k = j + 1 := ⟨k - 1, by omega⟩
    obtain ⟨u, rfl⟩ : ∃ u, v = u + 1 := ⟨v - 1, by omega⟩
    have e1 : IntKind.i64.wrap (((u + 1 : Nat) : Int) - 1) = (u : Int) := by rw [wr_i64 (by omega)]; omega
    have hf := fstW_le2 (l := l) hn (v := u) (by omega)
    have hc := cntL_le l u n
    have e2 : rd (cl l n) (u : Int) = ((if u = 0 then 0 else cntL l u n : Nat) : Int) := by
      unfold cl
      rw [rd_map (by omega)]
      split <;> simp
    have hx : (if u = 0 then 0 else cntL l u n : Nat) ≤ n := by split <;> omega
    have e3 : shl .i64 (IntKind.i64.wrap ((fstW l n u : Int) + ((if u = 0 then 0 else cntL l u n : Nat) : Int))) 1 = (fstW l n (u + 1) : Int) := by
      rw [wr_i64 (by omega)]
      unfold shl
      rw [show min (1 : Int).toNat IntKind.i64.bits = 1 from rfl, wr_i64 (by omega)]
      simp only [fstW]; omega
    rw [code_first.l1, if_pos (by omega), e1, gd_pos (by omega), gd_pos (cl_length _ _), bnd_eq, Nat.add_sub_cancel, e2, e3, gd_pos (by omega), gd_pos (by simp), bnd_eq, bnd_eq, Int.toNat_natCast, map_set, inc_i (by omega)]
    have e4 : ((List.range 16).map fun w => if w = u + 1 then (fstW l n (u + 1) : Int) else if w < u + 1 then (fstW l n w : Int) else 0) = (List.range 16).map fun w => if w < u + 1 + 1 then (fstW l n w : Int) else 0 := by
      refine List.map_congr_left fun w hw => ?_
      by_cases c : w = u + 1
      · subst c; rw [if_pos rfl, if_pos (by omega)]
      · rw [if_neg c]
        by_cases d : w < u + 1
        · rw [if_pos d, if_pos (by omega)]
        · rw [if_neg d, if_neg (by omega)]
    rw [e4]
    exact ih k (u + 1 + 1) (by omega) (by omega) (by omega)
theorem code_first_spec (l : Nat → Nat) (n : Nat) (hn : n ≤ 288) : code_first.f (cl l n) = some (fsL l n) := by
  have key := code_first_loop l n hn 15 FU 1 (by omega) (by rw [FU_eq]; omega) (by omega)
  have e : ((List.range 16).map fun u => if u < 1 then (fstW l n u : Int) else 0) = List.replicate 16 (0 : Int) := by
    rw [zeros_map]
    refine List.map_congr_left fun u hu => ?_
    by_cases c : u < 1
    · rw [if_pos c, show u = 0 by omega]; rfl
    · rw [if_neg c]
  rw [e] at key
  have key' : code_first.l1 FU (List.replicate 16 (0 : Int)) 0 1 (cl l n) = some (fsL l n) := key
  rw [code_first.f, key']
  simp only [Option.bind_some]
  rw [gd_pos (fsL_length _ _)]
theorem code_words_loop (lens : List Int) (hn : lens.length ≤ 288) (h : ∀ x ∈ lens, okx x) (m : Nat) : ∀ (k i : Nat), i + m = lens.length → m < k →
    code_words.l1 k ((List.range lens.length).map fun j => if j < i ∧ 0 < ln lens j then (wordW (ln lens) lens.length j : Int) else 0) ((List.range 16).map fun v => (fstW (ln lens) lens.length v : Int) + if v = 0 then 0 else (cntL (ln lens) v i : Int)) (i : Int) lens = some (wsL (ln lens) lens.length) := by
  induction m with
  | zero =>
    intro k i hi hk
    obtain ⟨k, rfl⟩ : ∃ j, k = j + 1 := ⟨k - 1, by omega⟩
    rw [code_words.l1, if_neg (by omega)]
    congr 1
    unfold wsL
    refine List.map_congr_left fun j hj => ?_
    have := List.mem_range.1 hj
    by_cases c : 0 < ln lens j
    · rw [if_pos c, if_pos ⟨by omega, c⟩]
    · rw [if_neg c, if_neg (by omega)]
  | succ m ih =>
    intro k i hi hk
    obtain ⟨k, rfl⟩ : ∃ j, k = j + 1 := ⟨k - 1, by omega⟩
    have hle := ln_le h i
    rw [code_words.l1, if_pos (by omega), gd_pos (by omega), bnd_eq, rd_ln h (by omega)]
    by_cases c : 0 < ln lens i
    · have hf := fstW_le2 (l := ln lens) hn hle
      have hc := cntL_le (ln lens) (ln lens i) i
      have e1 : rd ((List.range 16).map fun v => (fstW (ln lens) lens.length v : Int) + if v = 0 then 0 else (cntL (ln lens) v i : Int)) (ln lens i : Int) = (wordW (ln lens) lens.length i : Int) := by
        rw [rd_map (by omega), if_neg (by omega)]; unfold wordW; omega
      have hw : wordW (ln lens) lens.length i = fstW (ln lens) lens.length (ln lens i) + cntL (ln lens) (ln lens i) i := rfl
      rw [if_pos (by omega), gd_pos (by omega), gd_pos (by simp), gd_pos (by simp; omega), bnd_eq, bnd_eq, e1, wr_i64 (x := (wordW (ln lens) lens.length i : Int) + 1) (by omega), Int.toNat_natCast, Int.toNat_natCast, map_set, map_set]
      simp only [Option.bind_some]
      rw [inc_i (by omega)]
      have e2 : ((List.range lens.length).map fun j => if j = i then (wordW (ln lens) lens.length i : Int) else if j < i ∧ 0 < ln lens j then (wordW (ln lens) lens.length j : Int) else 0) = (List.range lens.length).map fun j => if j < i + 1 ∧ 0 < ln lens j then (wordW (ln lens) lens.length j : Int) else 0 := by
        refine List.map_congr_left fun j hj => ?_
        by_cases e : j = i
        · subst e; rw [if_pos rfl, if_pos ⟨by omega, c⟩]
        · rw [if_neg e]
          by_cases d : j < i ∧ 0 < ln lens j
          · rw [if_pos d, if_pos ⟨by omega, d.2⟩]
          · rw [if_neg d, if_neg (by omega)]
      have e3 : ((List.range 16).map fun v => if v = ln lens i then (wordW (ln lens) lens.length i : Int) + 1 else (fstW (ln lens) lens.length v : Int) + if v = 0 then 0 else (cntL (ln lens) v i : Int)) = (List.range 16).map fun v => (fstW (ln lens) lens.length v : Int) + if v = 0 then 0 else (cntL (ln lens) v (i + 1) : Int) := by
        refine List.map_congr_left fun v hv => ?_
        by_cases e : v = ln lens i
        · subst e
          rw [if_pos rfl, if_neg (by omega), cntL_succ, if_pos rfl, hw]; omega
        · rw [if_neg e, cntL_succ, if_neg (show ¬ ln lens i = v from fun e' => e e'.symm)]; rfl
      rw [e2, e3]
      exact ih k (i + 1) (by omega) (by omega)
    · rw [if_neg (by omega)]
      simp only [Option.bind_some]
      rw [inc_i (by omega)]
      have e2 : ((List.range lens.length).map fun j => if j < i ∧ 0 < ln lens j then (wordW (ln lens) lens.length j : Int) else 0) = (List.range lens.length).map fun j => if j < i + 1 ∧ 0 < ln lens j then (wordW (ln lens) lens.length j : Int) else 0 := by
        refine List.map_congr_left fun j hj => ?_
        by_cases d : j < i ∧ 0 < ln lens j
        · rw [if_pos d, if_pos ⟨by omega, d.2⟩]
        · rw [if_neg d, if_neg (fun d' => d ⟨by
            apply Classical.byContradiction
            intro h3
            have : j = i := by omega
            subst this; exact c d'.2, d'.2⟩)]
      have e3 : ((List.range 16).map fun v => (fstW (ln lens) lens.length v : Int) + if v = 0 then 0 else (cntL (ln lens) v i : Int)) = (List.range 16).map fun v => (fstW (ln lens) lens.length v : Int) + if v = 0 then 0 else (cntL (ln lens) v (i + 1) : Int) := by
        refine List.map_congr_left fun v hv => ?_
        by_cases e : v = 0
        · rw [if_pos e, if_pos e]
        · rw [if_neg e, if_neg e, cntL_succ, if_neg (by omega)]; rfl
      rw [e2, e3]
      exact ih k (i + 1) (by omega) (by omega)
theorem code_words_spec (lens : List Int) (hn : lens.length ≤ 288) (h : ∀ x ∈ lens, okx x) : code_words.f lens (fsL (ln lens) lens.length) = some (wsL (ln lens) lens.length) := by
  have key := code_words_loop lens hn h lens.length FU 0 (by omega) (by rw [FU_eq]; omega)
  have e1 : ((List.range lens.length).map fun j => if j < 0 ∧ 0 < ln lens j then (wordW (ln lens) lens.length j : Int) else 0) = List.replicate lens.length (0 : Int) := by
    rw [zeros_map]
    exact List.map_congr_left fun j _ => if_neg (by omega)
  have e2 : ((List.range 16).map fun v => (fstW (ln lens) lens.length v : Int) + if v = 0 then 0 else (cntL (ln lens) v 0 : Int)) = fsL (ln lens) lens.length := by
    unfold fsL
    refine List.map_congr_left fun v _ => ?_
    split <;> simp [cntL, sumN]
  rw [e1, e2] at key
  have key' : code_words.l1 FU (List.replicate lens.length (0 : Int)) (fsL (ln lens) lens.length) 0 lens = _ := key
  rw [code_words.f, gd_pos (by omega), bnd_eq, Int.toNat_natCast, key']
  rfl

theorem code_makeTable_spec (lens : List Int) (hn : lens.length ≤ 288) (h : ∀ x ∈ lens, okx x) : code_makeTable.f lens (cl (ln lens) lens.length) = some (lens, wsL (ln lens) lens.length, cl (ln lens) lens.length, fsL (ln lens) lens.length) := by
  rw [code_makeTable.f, gd_pos (cl_length _ _), code_first_spec _ _ hn]
  simp only [Option.bind_some]
  rw [gd_pos (fsL_length _ _), bnd_eq, List.nil_append, gd_pos (by omega), code_words_spec lens hn h]
  rfl

theorem code_refused_spec (S : Int) : code_refused.f S = some (if S = 2 then 52 else if S = 3 then 51 else 0) := by
  unfold code_refused.f
  by_cases a : S = 2
  · rw [if_pos a, if_pos a]
  · rw [if_neg a, if_neg a]
    by_cases b : S = 3
    · rw [if_pos b, if_pos b]
    · rw [if_neg b, if_neg b]

theorem ref5_valid_spec (lens : List Int) : valiseref5_valid.f lens = some (badL lens) := by
  unfold valiseref5_valid.f badL
  by_cases h : 288 < lens.length
  · rw [if_pos (by omega), if_pos h]
  · rw [if_neg (by omega), if_neg h]
    have key := list_loop1 lens (by omega) (fun k i (_ : Unit) => valiseref5_valid.l1 k i lens) (fun i x _ => if okx x then .inr () else .inl (.inl 50)) (fun s => .inr ())
      (fun k s => by rw [valiseref5_valid.l1, if_neg (by omega)])
      (fun k i x s hx hi => by
        rw [valiseref5_valid.l1, if_pos (by omega), gd_pos (by omega), rd_at hx]
        by_cases hb : okx x
        · simp only [if_pos hb]
          unfold okx at hb
          rw [if_neg (by omega), bnd_eq, inc_i (by omega)]
        · simp only [if_neg hb]
          unfold okx at hb
          rw [if_pos (by omega)]) ()
    have key' : valiseref5_valid.l1 FU 0 lens = _ := key
    rw [key']
    by_cases c : ∀ x ∈ lens, okx x
    · rw [if_pos c, foldE_ok lens 0 (fun j x hx => if_pos (c x (List.mem_of_getElem? hx)))]
      rfl
    · rw [if_neg c, foldE_bad (bad := .inl 50) lens 0 (fun j x hx => by by_cases hb : okx x <;> simp [hb]) ?_]
      · rfl
      · apply Classical.byContradiction
        intro hn
        apply c
        intro x hx
        apply Classical.byContradiction
        intro hb
        obtain ⟨j, hj⟩ := List.getElem?_of_mem hx
        exact hn ⟨j, x, hj, by rw [if_neg hb]; intro h3; cases h3⟩
theorem ref5_rows_loop (m : Nat) : ∀ (k i n : Nat), i + m = 15 → m < k → n * 2 ^ m ≤ 32768 → valiseref5_rows.l1 k (n : Int) (i : Int) = some ((n * 2 ^ m : Nat) : Int) := by
  induction m with
  | zero =>
    intro k i n hi hk hn
    obtain ⟨k, rfl⟩ : ∃ j, k = j + 1 := ⟨k - 1, by omega⟩
    rw [valiseref5_rows.l1, if_neg (by omega)]; simp
  | succ m ih =>
    intro k i n hi hk hn
    obtain ⟨k, rfl⟩ : ∃ j, k = j + 1 := ⟨k - 1, by omega⟩
    have e : n * 2 ^ (m + 1) = 2 * n * 2 ^ m := by rw [Nat.pow_succ, Nat.mul_comm 2 n, Nat.mul_assoc, Nat.mul_comm 2]
    have h1 : 1 ≤ 2 ^ m := Nat.pow_pos (by omega)
    have h2 : 2 * n ≤ 2 * n * 2 ^ m := Nat.le_mul_of_pos_right _ h1
    rw [e] at hn
    have e1 : IntKind.i64.wrap (2 * (n : Int)) = ((2 * n : Nat) : Int) := by rw [wr_i64 (by omega)]; omega
    rw [valiseref5_rows.l1, if_pos (by omega), bnd_eq, bnd_eq, e1, inc_i (by omega), ih k (i + 1) (2 * n) (by omega) (by omega) hn, e]
theorem ref5_rows_spec (v : Nat) (h : v ≤ 15) : valiseref5_rows.f (v : Int) = some ((2 ^ (15 - v) : Nat) : Int) := by
  have h1 : 2 ^ (15 - v) ≤ 2 ^ 15 := Nat.pow_le_pow_right (by omega) (by omega)
  have key := ref5_rows_loop (15 - v) FU v 1 (by omega) (by rw [FU_eq]; omega) (by omega)
  rw [Nat.one_mul] at key
  have key' : valiseref5_rows.l1 FU 1 (v : Int) = _ := key
  rw [valiseref5_rows.f, key']; rfl
theorem ref5_used_loop (lens : List Int) (hl : lens.length ≤ 288) (h : ∀ x ∈ lens, okx x) (m : Nat) : ∀ (k i : Nat), i + m = lens.length → m < k →
    valiseref5_used.l1 k (takeW (ln lens) i : Int) (usedW (ln lens) i : Int) (i : Int) lens = some ((takeW (ln lens) lens.length : Int), (usedW (ln lens) lens.length : Int)) := by
  induction m with
  | zero =>
    intro k i hi hk
    obtain ⟨k, rfl⟩ : ∃ j, k = j + 1 := ⟨k - 1, by omega⟩
    rw [valiseref5_used.l1, if_neg (by omega), show i = lens.length by omega]
  | succ m ih =>
    intro k i hi hk
    obtain ⟨k, rfl⟩ : ∃ j, k = j + 1 := ⟨k - 1, by omega⟩
    have a := usedW_le (ln lens) (i + 1)
    have b := takeW_le (ln lens) (i + 1)
    have e1 : takeW (ln lens) (i + 1) = takeW (ln lens) i + (if 0 < ln lens i then 2 ^ (15 - ln lens i) else 0) := rfl
    have e2 : usedW (ln lens) (i + 1) = usedW (ln lens) i + (if 0 < ln lens i then 1 else 0) := rfl
    rw [valiseref5_used.l1, if_pos (by omega), gd_pos (by omega), rd_ln h (by omega)]
    by_cases c : 0 < ln lens i
    · rw [if_pos c] at e1 e2
      rw [if_pos (by omega), ref5_rows_spec _ (ln_le h i)]
      simp only [Option.bind_some, bnd_eq]
      have e3 : IntKind.i64.wrap ((takeW (ln lens) i : Int) + ((2 ^ (15 - ln lens i) : Nat) : Int)) = (takeW (ln lens) (i + 1) : Int) := by rw [wr_i64 (by omega), e1]; rfl
      have e4 : IntKind.i64.wrap ((usedW (ln lens) i : Int) + 1) = (usedW (ln lens) (i + 1) : Int) := by rw [wr_i64 (by omega), e2]; rfl
      rw [e3, e4, inc_i (by omega)]
      exact ih k (i + 1) (by omega) (by omega)
    · rw [if_neg c] at e1 e2
      rw [if_neg (by omega)]
      simp only [Option.bind_some, bnd_eq]
      have e5 := ih k (i + 1) (by omega) (by omega)
      rw [e1, e2] at e5
      rw [inc_i (by omega)]
      exact e5
theorem ref5_Check_spec (lens : List Int) : valiseref5_Check.f lens = some (if badL lens = 0 then (shapeW (usedW (ln lens) lens.length) (takeW (ln lens) lens.length), 0) else (0, badL lens)) := by
  rw [valiseref5_Check.f, ref5_valid_spec]
  simp only [Option.bind_some]
  by_cases h : badL lens = 0
  · obtain ⟨h1, h2⟩ := badL_ok h
    have key := ref5_used_loop lens h1 h2 lens.length FU 0 (by omega) (by rw [FU_eq]; omega)
    have key' : valiseref5_used.l1 FU 0 0 0 lens = some ((takeW (ln lens) lens.length : Int), (usedW (ln lens) lens.length : Int)) := key
    rw [if_neg (by simp [h]), if_pos h, valiseref5_used.f, key']
    simp only [Option.bind_some]
    unfold shapeW
    generalize usedW (ln lens) lens.length = W
    generalize takeW (ln lens) lens.length = T
    by_cases c0 : W = 0
    · rw [if_pos (by omega), if_pos c0]
    · rw [if_neg (by omega), if_neg c0]
      by_cases c1 : W = 1 ∧ T = 16384
      · rw [if_pos (by omega), if_pos c1]
      · rw [if_neg (by omega), if_neg c1]
        by_cases c2 : 32768 < T
        · rw [if_pos (by omega), if_pos c2]
        · rw [if_neg (by omega), if_neg c2]
          by_cases c3 : T = 32768
          · rw [if_pos (by omega), if_pos c3]
          · rw [if_neg (by omega), if_neg c3]
  · rw [if_pos (by simpa using h), if_neg h]

theorem ref5_words_inner (lens : List Int) (hn : lens.length ≤ 288) (h : ∀ x ∈ lens, okx x) (v : Nat) (h1 : 1 ≤ v) (hv : v ≤ 15) (m : Nat) : ∀ (k i : Nat), i + m = lens.length → m < k →
    valiseref5_Codes.l13 k ((List.range lens.length).map fun j => if (1 ≤ ln lens j ∧ ln lens j < v) ∨ (ln lens j = v ∧ j < i) then (wordW (ln lens) lens.length j : Int) else 0) ((fstW (ln lens) lens.length v + cntL (ln lens) v i : Nat) : Int) (i : Int) lens (v : Int) =
      some ((List.range lens.length).map fun j => if 1 ≤ ln lens j ∧ ln lens j < v + 1 then (wordW (ln lens) lens.length j : Int) else 0, ((fstW (ln lens) lens.length v + cntL (ln lens) v lens.length : Nat) : Int)) := by
  induction m with
  | zero =>
    intro k i hi hk
    obtain ⟨k, rfl⟩ : ∃ j, k = j + 1 := ⟨k - 1, by omega⟩
    rw [valiseref5_Codes.l13, if_neg (by omega), show i = lens.length by omega]
    congr 2
    refine List.map_congr_left fun j hj => ?_
    have := List.mem_range.1 hj
    by_cases c : 1 ≤ ln lens j ∧ ln lens j < v + 1
    · rw [if_pos c, if_pos (by omega)]
    · rw [if_neg c, if_neg (by omega)]
  | succ m ih =>
    intro k i hi hk
    obtain ⟨k, rfl⟩ : ∃ j, k = j + 1 := ⟨k - 1, by omega⟩
    have hf := fstW_le2 (l := ln lens) hn hv
    have hc := cntL_le (ln lens) v i
    rw [valiseref5_Codes.l13, if_pos (by omega), gd_pos (by omega), rd_ln h (by omega)]
    by_cases c : ln lens i = v
    · have hw : wordW (ln lens) lens.length i = fstW (ln lens) lens.length v + cntL (ln lens) v i := by unfold wordW; rw [c]
      rw [if_pos (by omega), gd_pos (by simp; omega), bnd_eq, bnd_eq, Int.toNat_natCast, map_set, wr_i64 (x := ((fstW (ln lens) lens.length v + cntL (ln lens) v i : Nat) : Int) + 1) (by omega)]
      simp only [Option.bind_some]
      rw [bnd_eq, inc_i (by omega)]
      have e2 : ((List.range lens.length).map fun j => if j = i then ((fstW (ln lens) lens.length v + cntL (ln lens) v i : Nat) : Int) else if (1 ≤ ln lens j ∧ ln lens j < v) ∨ (ln lens j = v ∧ j < i) then (wordW (ln lens) lens.length j : Int) else 0) = (List.range lens.length).map fun j => if (1 ≤ ln lens j ∧ ln lens j < v) ∨ (ln lens j = v ∧ j < i + 1) then (wordW (ln lens) lens.length j : Int) else 0 := by
        refine List.map_congr_left fun j hj => ?_
        by_cases e : j = i
        · subst e; rw [if_pos rfl, if_pos (.inr ⟨c, by omega⟩), hw]
        · rw [if_neg e]
          by_cases d : (1 ≤ ln lens j ∧ ln lens j < v) ∨ (ln lens j = v ∧ j < i)
          · rw [if_pos d, if_pos (by omega)]
          · rw [if_neg d, if_neg (by omega)]
      have e3 : ((fstW (ln lens) lens.length v + cntL (ln lens) v i : Nat) : Int) + 1 = ((fstW (ln lens) lens.length v + cntL (ln lens) v (i + 1) : Nat) : Int) := by rw [cntL_succ, if_pos c]; omega
      rw [e2, e3]
      exact ih k (i + 1) (by omega) (by omega)
    · rw [if_neg (by omega)]
      simp only [Option.bind_some]
      rw [bnd_eq, inc_i (by omega)]
      have e2 : ((List.range lens.length).map fun j => if (1 ≤ ln lens j ∧ ln lens j < v) ∨ (ln lens j = v ∧ j < i) then (wordW (ln lens) lens.length j : Int) else 0) = (List.range lens.length).map fun j => if (1 ≤ ln lens j ∧ ln lens j < v) ∨ (ln lens j = v ∧ j < i + 1) then (wordW (ln lens) lens.length j : Int) else 0 := by
        refine List.map_congr_left fun j hj => ?_
        by_cases e : j = i
        · subst e
          by_cases d : 1 ≤ ln lens j ∧ ln lens j < v
          · rw [if_pos (.inl d), if_pos (.inl d)]
          · rw [if_neg (by omega), if_neg (by omega)]
        · by_cases d : (1 ≤ ln lens j ∧ ln lens j < v) ∨ (ln lens j = v ∧ j < i)
          · rw [if_pos d, if_pos (by omega)]
          · rw [if_neg d, if_neg (by omega)]
      have e3 : cntL (ln lens) v (i + 1) = cntL (ln lens) v i := by rw [cntL_succ, if_neg c]; rfl
      rw [e2, ← e3]
      exact ih k (i + 1) (by omega) (by omega)
theorem ref5_words_outer (lens : List Int) (hn : lens.length ≤ 288) (h : ∀ x ∈ lens, okx x) (m : Nat) : ∀ (k v : Nat), v + m = 16 → m < k → 1 ≤ v →
    valiseref5_Codes.l11 k ((List.range lens.length).map fun j => if 1 ≤ ln lens j ∧ ln lens j < v then (wordW (ln lens) lens.length j : Int) else 0) ((fstW (ln lens) lens.length (v - 1) + (if v - 1 = 0 then 0 else cntL (ln lens) (v - 1) lens.length) : Nat) : Int) (v : Int) lens = some (wsL (ln lens) lens.length) := by
  induction m with
  | zero =>
    intro k v hv hk h1
    obtain ⟨k, rfl⟩ : ∃ j, k = j + 1 := ⟨k - 1, by omega⟩
    rw [valiseref5_Codes.l11, if_neg (by omega)]
    congr 1
    unfold wsL
    refine List.map_congr_left fun j hj => ?_
    have := ln_le h j
    by_cases c : 0 < ln lens j
    · rw [if_pos c, if_pos (by omega)]
    · rw [if_neg c, if_neg (by omega)]
  | succ m ih =>
    intro k v hv hk h1
    obtain ⟨k, rfl⟩ : ∃ j, k = j + 1 := ⟨k - 1, by omega⟩
    obtain ⟨u, rfl⟩ : ∃ u, v = u + 1 := ⟨v - 1, by omega⟩
    have hf := fstW_le2 (l := ln lens) hn (v := u) (by omega)
    have hc := cntL_le (ln lens) u lens.length
    have hx : (if u = 0 then 0 else cntL (ln lens) u lens.length : Nat) ≤ lens.length := by split <;> omega
    have e1 : IntKind.i64.wrap (2 * ((fstW (ln lens) lens.length u + (if u = 0 then 0 else cntL (ln lens) u lens.length) : Nat) : Int)) = ((fstW (ln lens) lens.length (u + 1) + cntL (ln lens) (u + 1) 0 : Nat) : Int) := by
      have e0 : cntL (ln lens) (u + 1) 0 = 0 := rfl
      rw [wr_i64 (by omega), e0]; simp only [fstW]; omega
    have key := ref5_words_inner lens hn h (u + 1) (by omega) (by omega) lens.length FU 0 (by omega) (by rw [FU_eq]; omega)
    have e2 : ((List.range lens.length).map fun j => if (1 ≤ ln lens j ∧ ln lens j < u + 1) ∨ (ln lens j = u + 1 ∧ j < 0) then (wordW (ln lens) lens.length j : Int) else 0) = (List.range lens.length).map fun j => if 1 ≤ ln lens j ∧ ln lens j < u + 1 then (wordW (ln lens) lens.length j : Int) else 0 := by
      refine List.map_congr_left fun j hj => ?_
      by_cases d : 1 ≤ ln lens j ∧ ln lens j < u + 1
      · rw [if_pos d, if_pos (.inl d)]
      · rw [if_neg d, if_neg (by omega)]
    rw [e2, show ((0 : Nat) : Int) = 0 from rfl] at key
    rw [valiseref5_Codes.l11, if_pos (by omega), Nat.add_sub_cancel, bnd_eq, e1, key]
    simp only [Option.bind_some]
    rw [bnd_eq, inc_i (by omega)]
    have := ih k (u + 1 + 1) (by omega) (by omega) (by omega)
    rw [Nat.add_sub_cancel, if_neg (by omega)] at this
    exact this
theorem ref5_Codes_spec (lens : List Int) : valiseref5_Codes.f lens = some (if badL lens = 0 then (if 32768 < takeW (ln lens) lens.length then ([], 51) else (wsL (ln lens) lens.length, 0)) else ([], badL lens)) := by
  rw [valiseref5_Codes.f, ref5_Check_spec]
  by_cases h : badL lens = 0
  · obtain ⟨h1, h2⟩ := badL_ok h
    rw [if_pos h, if_pos h]
    simp only [Option.bind_some]
    rw [if_neg (by decide)]
    by_cases c : 32768 < takeW (ln lens) lens.length
    · rw [if_pos (shape_over.2 c), if_pos c]
    · rw [if_neg (fun e => c (shape_over.1 e)), if_neg c, gd_pos (by omega), bnd_eq, Int.toNat_natCast]
      have key := ref5_words_outer lens h1 h2 15 FU 1 (by omega) (by rw [FU_eq]; omega) (by omega)
      have e : ((List.range lens.length).map fun j => if 1 ≤ ln lens j ∧ ln lens j < 1 then (wordW (ln lens) lens.length j : Int) else 0) = List.replicate lens.length (0 : Int) := by
        rw [zeros_map]
        exact List.map_congr_left fun j _ => if_neg (by omega)
      rw [e] at key
      have key' : valiseref5_Codes.l11 FU (List.replicate lens.length (0 : Int)) 0 1 lens = some (wsL (ln lens) lens.length) := key
      rw [key']
      rfl
  · rw [if_neg h, if_neg h]
    simp only [Option.bind_some]
    rw [if_pos h]

theorem valiselaw5_spoil_v0_loop (n : Nat) (hn : n ≤ 17592186043904) (z : List Int) (m : Nat) : ∀ (k i : Nat) (l : List Int), i + m = n → l.length = n → m < k → valiselaw5_spoil_v0.l1 k (List.replicate i 9 ++ l.drop i ++ z) (i : Int) n = some (List.replicate n 9 ++ z) := by
  induction m with
  | zero =>
    intro k i l hi hl hk
    obtain ⟨k, rfl⟩ : ∃ j, k = j + 1 := ⟨k - 1, by omega⟩
    rw [List.drop_of_length_le (by omega), List.append_nil, valiselaw5_spoil_v0.l1, if_neg (by rw [List.length_take, List.length_append, List.length_replicate]; omega), show i = n by omega]
  | succ m ih =>
    intro k i l hi hl hk
    obtain ⟨k, rfl⟩ : ∃ j, k = j + 1 := ⟨k - 1, by omega⟩
    have hlen : ((List.replicate i (9 : Int) ++ l.drop i ++ z).take n).length = n := by rw [List.length_take, List.length_append, List.length_append, List.length_replicate, List.length_drop]; omega
    have hd : l.drop i = l[i]'(by omega) :: l.drop (i + 1) := drop_cons (List.getElem?_eq_getElem (by omega))
    have es : (List.replicate i (9 : Int) ++ l.drop i ++ z).set i 9 = List.replicate (i + 1) 9 ++ l.drop (i + 1) ++ z := by
      rw [hd, List.append_assoc, List.set_append_right _ _ (by rw [List.length_replicate]; exact Nat.le_refl _), List.length_replicate, Nat.sub_self, List.cons_append, List.set_cons_zero, List.replicate_succ', List.append_assoc, List.append_assoc]; rfl
    rw [valiselaw5_spoil_v0.l1, if_pos (by rw [hlen]; omega), gd_pos (by rw [hlen]; omega), bnd_eq, Int.toNat_natCast, es, bnd_eq, inc_i (by omega)]
    exact ih k (i + 1) l (by omega) hl (by omega)
theorem valiselaw5_spoil_v0_spec (l z : List Int) (h : l.length ≤ 17592186043904) : valiselaw5_spoil_v0.f (l ++ z) l.length = some (List.replicate l.length 9 ++ z) := by
  have key := valiselaw5_spoil_v0_loop l.length h z l.length FU 0 l (by omega) rfl (by rw [FU_eq]; omega)
  have key' : valiselaw5_spoil_v0.l1 FU (l ++ z) 0 l.length = _ := key
  rw [valiselaw5_spoil_v0.f, key']
  simp only [Option.bind_some]
  rw [gd_pos (by simp)]

theorem pack_ne {s : List Bool} (h : s ≠ []) : (pack s).length ≠ 0 := by
  rw [pack_length]
  have := List.length_pos_iff.2 h
  omega
theorem cpy_same {l m : List Int} (h : l.length = m.length) : cpy l m = m := by
  unfold cpy
  rw [h, List.take_length, List.drop_eq_nil_of_le (by omega), List.append_nil]

theorem set_last (l : List Int) (x y : Int) : (l ++ [x]).set l.length y = l ++ [y] := by
  rw [List.set_append_right _ _ (Nat.le_refl _), Nat.sub_self]; rfl
theorem rd_last (l : List Int) (x : Int) : rd (l ++ [x]) (l.length : Int) = x := by
  show (l ++ [x]).getD ((l.length : Int).toNat) 0 = x
  rw [Int.toNat_natCast, List.getD_eq_getElem?_getD, List.getElem?_append_right (Nat.le_refl _), Nat.sub_self]; rfl
/-- One step: k bits of v into the last byte, which holds p. -/
theorem lay_byte (v k i : Nat) (p : List Bool) (hv : v < 2 ^ 64) (hk : k + i ≤ 8) (hp : p.length = i) :
    bor .u8 (val p : Int) (IntKind.u8.wrap (shl .u64 (band .u64 (v : Int) (IntKind.u64.wrap (shl .u64 1 (IntKind.u64.wrap (k : Int)) - 1))) (IntKind.u64.wrap (i : Int)))) = (val (p ++ tobits k v) : Int) := by
  have hk8 : (2 : Nat) ^ k ≤ 2 ^ 8 := Nat.pow_le_pow_right (by omega) (by omega)
  have hk1 : 0 < (2 : Nat) ^ k := Nat.pow_pos (by omega)
  have hi1 : 0 < (2 : Nat) ^ i := Nat.pow_pos (by omega)
  have hki : (2 : Nat) ^ k * 2 ^ i ≤ 2 ^ 8 := by rw [← Nat.pow_add]; exact Nat.pow_le_pow_right (by omega) hk
  have e1 : IntKind.u64.wrap (k : Int) = k := wr_u64 (by omega)
  have e2 : IntKind.u64.wrap (i : Int) = i := wr_u64 (by omega)
  have e3 : shl .u64 1 (k : Int) = ((2 ^ k : Nat) : Int) := by
    have := shl_nat' (k := .u64) rfl (a := 1) (n := k) (by simp only [IntKind.bits]; omega)
    simpa using this
  have e4 : IntKind.u64.wrap (((2 ^ k : Nat) : Int) - 1) = ((2 ^ k - 1 : Nat) : Int) := by rw [wr_u64 (by omega)]; omega
  have e5 : band .u64 (v : Int) ((2 ^ k - 1 : Nat) : Int) = ((v % 2 ^ k : Nat) : Int) := by
    have := band_nat (k := .u64) rfl (a := v) (b := 2 ^ k - 1) hv (by simp only [IntKind.bits]; omega)
    rw [Nat.and_two_pow_sub_one_eq_mod] at this
    exact this
  have hm : v % 2 ^ k < 2 ^ k := Nat.mod_lt _ hk1
  have hmi : v % 2 ^ k * 2 ^ i + 2 ^ i ≤ 2 ^ 8 := by
    have : (v % 2 ^ k + 1) * 2 ^ i ≤ 2 ^ k * 2 ^ i := Nat.mul_le_mul_right _ hm
    rw [Nat.add_mul] at this; omega
  have e6 : shl .u64 ((v % 2 ^ k : Nat) : Int) (i : Int) = ((v % 2 ^ k * 2 ^ i : Nat) : Int) := shl_nat' rfl (by simp only [IntKind.bits]; omega)
  have hpv : val p < 2 ^ i := by have := val_lt p; rwa [hp] at this
  rw [e1, e2, e3, e4, e5, e6, wr_u8 (by omega), bor_nat (k := .u8) rfl (by simp only [IntKind.bits]; omega) (by simp only [IntKind.bits]; omega), val_append, val_tobits, hp, Nat.or_comm]
  have := Nat.shiftLeft_add_eq_or_of_lt (i := i) (b := val p) hpv (v % 2 ^ k)
  rw [Nat.shiftLeft_eq] at this
  rw [← this, Nat.add_comm, Nat.mul_comm]

theorem pack_step (s : List Bool) (t : List Bool) (h0 : t ≠ []) (hl : s.length % 8 + t.length ≤ 8) :
    (s.length % 8 = 0 → pack (s ++ t) = pack s ++ [(val t : Int)]) ∧
    (s.length % 8 ≠ 0 → ∃ l p, pack s = l ++ [(val p : Int)] ∧ p.length = s.length % 8 ∧ pack (s ++ t) = l ++ [(val (p ++ t) : Int)]) := by
  constructor
  · intro h
    rw [pack_append (q := s.length / 8) (by omega), pack_short h0 (by omega)]
  · intro h
    have hs : s = s.take (8 * (s.length / 8)) ++ s.drop (8 * (s.length / 8)) := (List.take_append_drop _ _).symm
    have hp : (s.drop (8 * (s.length / 8))).length = s.length % 8 := by rw [List.length_drop]; omega
    have hq : (s.take (8 * (s.length / 8))).length = 8 * (s.length / 8) := by rw [List.length_take]; omega
    have hpn : s.drop (8 * (s.length / 8)) ≠ [] := by intro e; rw [e] at hp; simp at hp; omega
    refine ⟨pack (s.take (8 * (s.length / 8))), s.drop (8 * (s.length / 8)), ?_, hp, ?_⟩
    · conv => lhs; rw [hs]
      rw [pack_append hq, pack_short hpn (by omega)]
    · conv => lhs; rw [hs, List.append_assoc]
      rw [pack_append hq, pack_short (t := s.drop (8 * (s.length / 8)) ++ t) (fun e => hpn (List.append_eq_nil_iff.1 e).1) (by rw [List.length_append]; omega)]

theorem lay_loop (m : Nat) : ∀ (k n v : Nat) (s : List Bool), n ≤ m → m < k → v < 2 ^ 64 → s.length + n ≤ 1099511627776 →
    bits_Writer_lay.l1 k (pack s) (s.length : Int) (v : Int) (n : Int) = some (pack (s ++ tobits n v), ((s.length + n : Nat) : Int)) := by
  induction m with
  | zero =>
    intro k n v s hn hk hv hs
    obtain ⟨k, rfl⟩ : ∃ j, k = j + 1 := ⟨k - 1, by omega⟩
    obtain rfl : n = 0 := by omega
    rw [bits_Writer_lay.l1, if_neg (by omega)]
    simp [tobits]
  | succ m ih =>
    intro k n v s hn hk hv hs
    obtain ⟨k, rfl⟩ : ∃ j, k = j + 1 := ⟨k - 1, by omega⟩
    by_cases hn0 : n = 0
    · subst hn0
      rw [bits_Writer_lay.l1, if_neg (by omega)]
      simp [tobits]
    · have hpl : (pack s).length = (s.length + 7) / 8 := pack_length s
      have e0 : Int.tmod (s.length : Int) 8 = ((s.length % 8 : Nat) : Int) := by rw [Int.tmod_eq_emod_of_nonneg (by omega)]; omega
      generalize hi : s.length % 8 = i at e0
      have e1 : min (IntKind.i64.wrap (8 - (i : Int))) (n : Int) = ((min (8 - i) n : Nat) : Int) := by rw [wr_i64 (by omega)]; omega
      generalize hj : min (8 - i) n = j at e1
      have hj1 : 1 ≤ j ∧ j + i ≤ 8 ∧ j ≤ n := by omega
      have e2 : shr .u64 (v : Int) (IntKind.u64.wrap (j : Int)) = ((v / 2 ^ j : Nat) : Int) := by rw [wr_u64 (by omega)]; exact shr_nat (k := .u64) hv
      have e3 : IntKind.i64.wrap ((n : Int) - (j : Int)) = ((n - j : Nat) : Int) := by rw [wr_i64 (by omega)]; omega
      have hv2 : v / 2 ^ j < 2 ^ 64 := Nat.lt_of_le_of_lt (Nat.div_le_self _ _) hv
      have htn : tobits j v ≠ [] := by intro e; have := congrArg List.length e; rw [tobits_length] at this; simp at this; omega
      have hsplit : tobits n v = tobits j v ++ tobits (n - j) (v / 2 ^ j) := by rw [← tobits_add]; congr 1; omega
      have goal : ∀ l, l = pack (s ++ tobits j v) → bits_Writer_lay.l1 k l (IntKind.i64.wrap ((s.length : Int) + (j : Int))) ((v / 2 ^ j : Nat) : Int) ((n - j : Nat) : Int) = some (pack (s ++ tobits n v), ((s.length + n : Nat) : Int)) := by
        rintro l rfl
        have hsl : (s ++ tobits j v).length = s.length + j := by rw [List.length_append, tobits_length]
        have e4 : IntKind.i64.wrap ((s.length : Int) + (j : Int)) = ((s ++ tobits j v).length : Int) := by rw [wr_i64 (by omega), hsl]; omega
        rw [e4, ih k (n - j) (v / 2 ^ j) (s ++ tobits j v) (by omega) (by omega) hv2 (by rw [hsl]; omega), hsl, hsplit, List.append_assoc]
        congr 3; omega
      have hw : ∀ q : Nat, q < 1099511627776 → IntKind.u64.wrap ((q : Nat) : Int) = q := fun q hq => wr_u64 (by omega)
      rw [bits_Writer_lay.l1, if_pos (by omega), bnd_eq, e0]
      obtain ⟨p1, p2⟩ := pack_step s (tobits j v) htn (by rw [tobits_length]; omega)
      by_cases hi0 : i = 0
      · subst hi0
        have hlen : (pack s ++ [(0 : Int)]).length = (pack s).length + 1 := by simp
        rw [if_pos (show ((0 : Nat) : Int) = 0 from rfl), bnd_eq, gd_pos (by rw [hlen]; omega), Option.bind_some, bnd_eq, e1, gd_pos (by rw [hw j (by omega)]; omega), bnd_eq]
        have e5 : IntKind.i64.wrap (((pack s ++ [(0 : Int)]).length : Int) - 1) = ((pack s).length : Int) := by rw [wr_i64 (by rw [hlen]; omega), hlen]; omega
        rw [e5, gd_pos (by rw [hlen]; omega), gd_pos (by rw [hw 0 (by omega)]; omega), bnd_eq, bnd_eq, e2, bnd_eq, e3]
        apply goal
        rw [Int.toNat_natCast, set_last, rd_last]
        have := lay_byte v j 0 [] hv (by omega) rfl
        rw [show (val [] : Int) = 0 from rfl] at this
        rw [this, p1 hi]
        rfl
      · rw [if_neg (by omega), Option.bind_some, bnd_eq, e1, gd_pos (by rw [hw j (by omega)]; omega), bnd_eq]
        obtain ⟨l, p, hpk, hpl2, hpk2⟩ := p2 (by omega)
        have hlen : (l ++ [(val p : Int)]).length = l.length + 1 := by simp
        have e5 : IntKind.i64.wrap (((l ++ [(val p : Int)]).length : Int) - 1) = (l.length : Int) := by
          have : l.length + 1 = (s.length + 7) / 8 := by rw [← hlen, ← hpk, hpl]
          rw [wr_i64 (by rw [hlen]; omega), hlen]; omega
        rw [hpk, e5, gd_pos (by rw [hlen]; omega), gd_pos (by rw [hw i (by omega)]; omega), bnd_eq, bnd_eq, e2, bnd_eq, e3]
        apply goal
        rw [Int.toNat_natCast, set_last, rd_last, lay_byte v j i p hv (by omega) (by rw [hpl2, hi]), hpk2]

theorem bits_Writer_lay_spec (s : List Bool) (v n : Nat) (hv : v < 2 ^ 64) (hs : s.length + n ≤ 1099511627776) :
    bits_Writer_lay.f (pack s) (s.length : Int) (v : Int) (n : Int) = some (pack (s ++ tobits n v), ((s.length + n : Nat) : Int)) := by
  rw [bits_Writer_lay.f, lay_loop n FU n v s (Nat.le_refl _) (by rw [FU_eq]; omega) hv hs]
  rfl

theorem bits_Writer_Put_spec (s : List Bool) (v : Nat) (n : Int) (hv : v < 2 ^ 32) (hn : -9223372036854775808 ≤ n ∧ n ≤ 9223372036854775807) (hs : s.length ≤ 268435456) :
    bits_Writer_Put.f (pack s) (s.length : Int) (v : Int) n = if 0 ≤ n ∧ n ≤ 32 ∧ v < 2 ^ n.toNat ∧ s.length + n.toNat ≤ 268435456 then some (0, pack (s ++ tobits n.toNat v), ((s ++ tobits n.toNat v).length : Int)) else some (1, pack s, (s.length : Int)) := by
  unfold bits_Writer_Put.f
  by_cases hb : n < 0 ∨ 32 < n
  · rw [if_pos hb, if_neg (by omega)]
    simp
  · obtain ⟨n, rfl⟩ : ∃ m : Nat, n = m := ⟨n.toNat, by omega⟩
    have e0 : IntKind.u64.wrap (n : Int) = n := wr_u64 (by omega)
    have ev : IntKind.u64.wrap (v : Int) = v := wr_u64 (by omega)
    have e2 : shr .u64 (v : Int) (n : Int) = ((v / 2 ^ n : Nat) : Int) := shr_nat (k := .u64) (by simp only [IntKind.bits]; omega)
    have e3 : IntKind.i64.wrap ((s.length : Int) + (n : Int)) = ((s.length + n : Nat) : Int) := by rw [wr_i64 (by omega)]; rfl
    rw [if_neg hb, e0, ev, gd_pos (by omega), e2, e3, Option.bind_some]
    have hd : (v / 2 ^ n = 0) ↔ v < 2 ^ n := Nat.div_eq_zero_iff_lt (Nat.pow_pos (by omega))
    simp only [Int.toNat_natCast]
    by_cases hl : v < 2 ^ n ∧ s.length + n ≤ 268435456
    · have hq : ((v / 2 ^ n : Nat) : Int) = 0 := by rw [hd.2 hl.1]; rfl
      rw [if_neg (by simp only [hq]; simp; omega), if_pos (by omega), bits_Writer_lay_spec s v n (by omega) (by omega), List.length_append, tobits_length]
      rfl
    · have hc : (decide (((v / 2 ^ n : Nat) : Int) ≠ 0) = true) ∨ (268435456 < ((s.length + n : Nat) : Int)) := by
        by_cases h1 : v < 2 ^ n
        · right; omega
        · left
          have : v / 2 ^ n ≠ 0 := fun e => h1 (hd.1 e)
          exact decide_eq_true (by omega)
      rw [if_pos hc, if_neg (by omega)]

theorem put_ok (s : List Bool) (v n : Nat) (hv : v < 2 ^ 32) (hn : n ≤ 32) (hvn : v < 2 ^ n) (hs : s.length + n ≤ 268435456) :
    bits_Writer_Put.f (pack s) (s.length : Int) (v : Int) (n : Int) = some (0, pack (s ++ tobits n v), ((s ++ tobits n v).length : Int)) := by
  rw [bits_Writer_Put_spec s v n hv (by omega) (by omega), if_pos ⟨by omega, by omega, by rw [Int.toNat_natCast]; exact hvn, by rw [Int.toNat_natCast]; exact hs⟩, Int.toNat_natCast]


theorem bits_Writer_Bytes_spec (d : List Int) (n : Int) (h : d.length ≤ 35184372088832) : bits_Writer_Bytes.f d n = some d := by
  unfold bits_Writer_Bytes.f
  by_cases h0 : (d.length : Int) = 0
  · rw [if_pos h0]
    have : d = [] := List.length_eq_zero_iff.1 (by omega)
    rw [this]
  · rw [if_neg h0, gd_pos (by omega), bnd_eq, bnd_eq, cpy_same (by simp)]

/-- The low n bits of v, turned round, behind acc. -/
def rev : Nat → Nat → Nat → Nat
  | 0, _, acc => acc
  | n + 1, v, acc => rev n (v / 2) (acc * 2 + v % 2)

theorem rev_acc (n : Nat) : ∀ v acc, rev n v acc = acc * 2 ^ n + rev n v 0 := by
  induction n with
  | zero => intro v acc; simp [rev]
  | succ n ih =>
    intro v acc
    rw [rev, rev, ih, ih (v / 2) (0 * 2 + v % 2), Nat.pow_succ]
    generalize rev n (v / 2) 0 = z
    rw [Nat.add_mul, Nat.add_mul, Nat.mul_assoc, Nat.mul_comm 2 (2 ^ n)]
    simp [Nat.add_assoc]
theorem rev_low (m : Nat) : ∀ v, rev (m + 1) v 0 = v / 2 ^ m % 2 + 2 * rev m v 0 := by
  induction m with
  | zero => intro v; simp [rev]
  | succ m ih =>
    intro v
    rw [rev, rev_acc, ih (v / 2), rev, rev_acc m (v / 2) (0 * 2 + v % 2), Nat.div_div_eq_div_mul, Nat.pow_succ, Nat.mul_comm (2 ^ m) 2]
    rw [Nat.mul_add, ← Nat.mul_assoc, ← Nat.mul_assoc]
    simp only [Nat.zero_mul, Nat.zero_add, Nat.mul_comm, Nat.mul_left_comm]
    omega
theorem rev_lt (n : Nat) : ∀ v acc t, acc < 2 ^ t → rev n v acc < 2 ^ (t + n) := by
  induction n with
  | zero => intro v acc t h; exact h
  | succ n ih =>
    intro v acc t h
    rw [rev, show t + (n + 1) = (t + 1) + n by omega]
    apply ih
    rw [Nat.pow_succ]
    omega

theorem or_low (a b : Nat) (h : b < 2) : a * 2 ||| b = a * 2 + b := by
  have := Nat.shiftLeft_add_eq_or_of_lt (i := 1) (b := b) (by simpa using h) a
  rw [Nat.shiftLeft_eq] at this
  simpa using this.symm

theorem reverse_loop (m : Nat) : ∀ (k v out t : Nat), m < k → v < 2 ^ 32 → out < 2 ^ t → t + m ≤ 32 →
    bits_Reverse.l1 k v out t ((t + m : Nat) : Int) = some ((rev m v out : Nat) : Int) := by
  induction m with
  | zero =>
    intro k v out t hk hv ho ht
    obtain ⟨k, rfl⟩ : ∃ j, k = j + 1 := ⟨k - 1, by omega⟩
    rw [bits_Reverse.l1, if_neg (by omega)]
    simp [rev]
  | succ m ih =>
    intro k v out t hk hv ho ht
    obtain ⟨k, rfl⟩ : ∃ j, k = j + 1 := ⟨k - 1, by omega⟩
    have hp : (2 : Nat) ^ (t + 1) ≤ 2 ^ 32 := Nat.pow_le_pow_right (by omega) (by omega)
    rw [Nat.pow_succ] at hp
    have e1 : shl .u32 (out : Int) (1 : Int) = ((out * 2 : Nat) : Int) := by
      have := shl_nat' (k := .u32) rfl (a := out) (n := 1) (by simp [IntKind.bits]; omega)
      simpa using this
    have e2 : band .u32 (v : Int) (1 : Int) = ((v % 2 : Nat) : Int) := by
      have := band_nat (k := .u32) rfl (a := v) (b := 1) hv (by decide)
      rw [Nat.and_one_is_mod] at this
      exact this
    have e3 : shr .u32 (v : Int) (1 : Int) = ((v / 2 : Nat) : Int) := by
      have := shr_nat (k := .u32) (a := v) (n := 1) hv
      simpa using this
    have e4 : bor .u32 ((out * 2 : Nat) : Int) ((v % 2 : Nat) : Int) = ((out * 2 + v % 2 : Nat) : Int) := by
      rw [bor_nat (k := .u32) rfl (by simp [IntKind.bits]; omega) (by simp [IntKind.bits]; omega), or_low _ _ (by omega)]
    have e5 : IntKind.i64.wrap ((t : Int) + 1) = ((t + 1 : Nat) : Int) := by rw [wr_i64 (by omega)]; rfl
    rw [bits_Reverse.l1, if_pos (by omega), e1, e2, e3, e4, e5]
    simp only [bnd]
    rw [show t + (m + 1) = (t + 1) + m by omega, ih k (v / 2) (out * 2 + v % 2) (t + 1) (by omega) (by omega) (by rw [Nat.pow_succ]; omega) (by omega), rev]

theorem tobits_rev (n : Nat) : ∀ v, tobits n (rev n v 0) = (tobits n v).reverse := by
  induction n with
  | zero => intro v; rfl
  | succ m ih =>
    intro v
    have h2 : (v / 2 ^ m % 2 + 2 * rev m v 0) % 2 = v / 2 ^ m % 2 := by omega
    have h3 : (v / 2 ^ m % 2 + 2 * rev m v 0) / 2 = rev m v 0 := by omega
    rw [rev_low, tobits, h2, h3, ih, tobits_add m 1 v, List.reverse_append]
    rfl
theorem bits_Reverse_spec (v n : Nat) (hn : n ≤ 32) (hv : v < 2 ^ n) : bits_Reverse.f (v : Int) (n : Int) = some (((rev n v 0 : Nat) : Int), 0) := by
  have hp : (2 : Nat) ^ n ≤ 2 ^ 32 := Nat.pow_le_pow_right (by omega) hn
  have hv' : v < 2 ^ 32 := by omega
  have e0 : IntKind.u64.wrap (n : Int) = n := wr_u64 (by omega)
  have ev : IntKind.u64.wrap (v : Int) = v := wr_u64 (by omega)
  have e2 : shr .u64 (v : Int) (n : Int) = 0 := by
    have := shr_nat (k := .u64) (a := v) (n := n) (by simp only [IntKind.bits]; omega)
    rw [Nat.div_eq_of_lt hv] at this; exact this
  have r1 : bits_Reverse.l1 FU v 0 0 n = some ((rev n v 0 : Nat) : Int) := by simpa using reverse_loop n FU v 0 0 (by rw [FU_eq]; omega) hv' (by simp) (by omega)
  rw [bits_Reverse.f, if_neg (by omega), e0, ev, gd_pos (by omega), e2]
  simp only [Option.bind_some, ne_eq, not_true_eq_false, decide_false, Bool.false_eq_true, if_false]
  rw [r1]; rfl

/-- The error of a list of which no encoder is made. -/
def encE (lens : List Int) : Int := if badL lens ≠ 0 then badL lens else if shapeW (usedW (ln lens) lens.length) (takeW (ln lens) lens.length) = 2 then 52 else if shapeW (usedW (ln lens) lens.length) (takeW (ln lens) lens.length) = 3 then 51 else 0
theorem code_NewEncoder_spec (lens : List Int) : code_NewEncoder.f lens = some (if encE lens = 0 then (some (lens, wsL (ln lens) lens.length, cl (ln lens) lens.length, fsL (ln lens) lens.length), 0) else (none, encE lens)) := by
  rw [code_NewEncoder.f, code_count_spec]
  by_cases a : badL lens = 0
  · obtain ⟨h1, h2⟩ := badL_ok a
    rw [if_pos a]
    simp only [Option.bind_some]
    rw [gd_pos (cl_length _ _), if_neg (by decide), code_shape_spec _ _ h1 (fun j _ => ln_le h2 j)]
    simp only [Option.bind_some]
    have eD : encE lens = if shapeW (usedW (ln lens) lens.length) (takeW (ln lens) lens.length) = 2 then 52 else if shapeW (usedW (ln lens) lens.length) (takeW (ln lens) lens.length) = 3 then 51 else 0 := by
      unfold encE; rw [if_neg (fun f => f a)]
    rw [eD]
    generalize shapeW (usedW (ln lens) lens.length) (takeW (ln lens) lens.length) = S
    rw [code_refused_spec]
    simp only [Option.bind_some]
    by_cases c2 : S = 2
    · rw [if_pos c2]; rfl
    · rw [if_neg c2]
      by_cases c3 : S = 3
      · rw [if_pos c3]; rfl
      · rw [if_neg c3, if_neg (by decide), if_pos rfl, code_makeTable_spec lens h1 h2]
        simp only [Option.bind_some]
        rw [gd_pos (cl_length _ _), gd_pos (fsL_length _ _)]
  · rw [if_neg a]
    simp only [Option.bind_some]
    have eD : encE lens = badL lens := by unfold encE; rw [if_pos a]
    rw [gd_pos (by simp), if_pos a, eD, if_neg a]
theorem encE_ok {lens : List Int} (h : encE lens = 0) : lens.length ≤ 288 ∧ (∀ x ∈ lens, okx x) ∧ takeW (ln lens) lens.length ≤ 32768 := by
  unfold encE at h
  by_cases a : badL lens = 0
  · rw [if_neg (fun f => f a)] at h
    obtain ⟨h1, h2⟩ := badL_ok a
    refine ⟨h1, h2, ?_⟩
    apply Classical.byContradiction
    intro c
    have := shape_over.2 (show 32768 < takeW (ln lens) lens.length by omega)
    rw [this] at h
    simp at h
  · rw [if_pos a] at h; exact absurd h a
/-- A symbol that has a word. -/
def goodS (lens : List Int) (x : Int) : Prop := 0 ≤ x ∧ x < (lens.length : Int) ∧ 0 < ln lens x.toNat
instance (lens : List Int) (x : Int) : Decidable (goodS lens x) := by unfold goodS; exact inferInstance
/-- The bits that a symbol is put as. -/
def encW (lens : List Int) (x : Int) : List Bool := if goodS lens x then wbits (ln lens) lens.length x.toNat else []
theorem encW_length (lens : List Int) (h : ∀ y ∈ lens, okx y) (x : Int) : (encW lens x).length ≤ 15 := by
  unfold encW
  by_cases c : goodS lens x
  · rw [if_pos c, wbits_length]; exact ln_le h _
  · rw [if_neg c]; simp
theorem code_Len_spec (lens : List Int) (h : ∀ y ∈ lens, okx y) (B C D : List Int) (x : Int) : code_Encoder_Len.f lens B C D x = some (if goodS lens x then (ln lens x.toNat : Int) else 0) := by
  rw [code_Encoder_Len.f]
  by_cases c : x < 0 ∨ (lens.length : Int) ≤ x
  · rw [if_pos c, if_neg (fun g => by unfold goodS at g; omega)]
  · obtain ⟨i, rfl⟩ : ∃ i : Nat, x = i := ⟨x.toNat, by omega⟩
    rw [if_neg c, gd_pos (by omega), rd_ln h (by omega), Int.toNat_natCast]
    by_cases g : goodS lens (i : Int)
    · rw [if_pos g]
    · rw [if_neg g]
      have : ¬ 0 < ln lens i := fun f => g ⟨by omega, by omega, by rw [Int.toNat_natCast]; exact f⟩
      congr 1; omega
theorem code_Put_spec (lens : List Int) (hn : lens.length ≤ 288) (h : ∀ y ∈ lens, okx y) (hT : takeW (ln lens) lens.length ≤ 32768) (C D : List Int) (s : List Bool) (hs : s.length + 15 ≤ 268435456) (x : Int) :
    code_Encoder_Put.f lens (wsL (ln lens) lens.length) C D (pack s) (s.length : Int) x = some (if goodS lens x then 0 else 56, pack (s ++ encW lens x), ((s ++ encW lens x).length : Int)) := by
  rw [code_Encoder_Put.f, code_Len_spec lens h]
  simp only [Option.bind_some]
  unfold encW
  by_cases g : goodS lens x
  · obtain ⟨g1, g2, g3⟩ := id g
    obtain ⟨i, rfl⟩ : ∃ i : Nat, x = i := ⟨x.toNat, by omega⟩
    rw [Int.toNat_natCast] at g3
    rw [if_pos g, if_pos g, if_pos g, Int.toNat_natCast]
    have hil : i < lens.length := by omega
    have h15 := ln_le h i
    have hw := word_lt (fun j _ => ln_le h j) hT hil g3
    have hp : 2 ^ ln lens i ≤ 2 ^ 15 := Nat.pow_le_pow_right (by omega) h15
    have e1 : IntKind.u32.wrap (wordW (ln lens) lens.length i : Int) = (wordW (ln lens) lens.length i : Int) := wrap_nat (k := .u32) rfl (by simp only [IntKind.bits]; omega)
    have hr := rev_lt (ln lens i) (wordW (ln lens) lens.length i) 0 0 (by simp)
    rw [Nat.zero_add] at hr
    rw [if_neg (by omega), gd_pos (by rw [wsL_length]; omega), rd_wsL hil, if_pos g3, e1, bits_Reverse_spec _ _ (by omega) hw]
    simp only [Option.bind_some]
    rw [if_neg (by decide), put_ok s _ _ (by omega) (by omega) hr (by omega), tobits_rev]
    rfl
  · rw [if_neg g, if_neg g, if_neg g, List.append_nil]
    simp only [if_true]
theorem good_hits {lens : List Int} {x : Int} (g : goodS lens x) (z : List Bool) : hits (ln lens) lens.length (encW lens x ++ z) x.toNat := by
  obtain ⟨g1, g2, g3⟩ := id g
  unfold encW
  rw [if_pos g]
  exact ⟨by omega, g3, List.prefix_append _ _⟩
theorem flat_le (lens : List Int) (h : ∀ y ∈ lens, okx y) (xs : List Int) : (xs.flatMap (encW lens)).length ≤ 15 * xs.length := by
  induction xs with
  | nil => simp
  | cons x r ih => have := encW_length lens h x; simp only [List.flatMap_cons, List.length_append, List.length_cons]; omega

/-- A string of bits as the document's row. -/
def rowI (s : List Bool) : List Int := s.map fun b => (b.toNat : Int)
theorem rowI_length (s : List Bool) : (rowI s).length = s.length := by simp [rowI]
theorem rowI_append (s t : List Bool) : rowI (s ++ t) = rowI s ++ rowI t := by simp [rowI]
theorem rowI_at {s : List Bool} {i : Nat} (h : i < s.length) : rd (rowI s) (i : Int) = ((s[i]).toNat : Int) := rd_at (by simp [rowI, h])
theorem ref3_bit_spec (v i : Nat) (hv : v < 2 ^ 32) (hi : i < 64) : valiseref3_bit.f (v : Int) (i : Int) = some ((v / 2 ^ i % 2 : Nat) : Int) := by
  have e1 : IntKind.u64.wrap (i : Int) = (i : Int) := wr_u64 (by omega)
  have e2 : shr .u32 (v : Int) (i : Int) = ((v / 2 ^ i : Nat) : Int) := shr_nat (k := .u32) (by simp only [IntKind.bits]; omega)
  have h2 : v / 2 ^ i ≤ v := Nat.div_le_self _ _
  have e3 : band .u32 ((v / 2 ^ i : Nat) : Int) 1 = ((v / 2 ^ i % 2 : Nat) : Int) := by
    have := band_nat (k := .u32) rfl (a := v / 2 ^ i) (b := 1) (by simp only [IntKind.bits]; omega) (by decide)
    rw [show ((1 : Nat) : Int) = 1 from rfl] at this
    rw [this, Nat.and_one_is_mod]
  rw [valiseref3_bit.f, e1, gd_pos (by omega), e2, e3]
  congr 1
  exact wrap_nat (k := .u8) rfl (by simp only [IntKind.bits]; omega)
theorem tobits_get (n v i : Nat) (h : i < n) : (tobits n v)[i]'(by rw [tobits_length]; exact h) = (v / 2 ^ i % 2 == 1) := by
  have e := val_bit (tobits n v) (v := i) (by rw [tobits_length]; exact h)
  rw [val_tobits] at e
  have e2 : v % 2 ^ n / 2 ^ i % 2 = v / 2 ^ i % 2 := by
    rw [show n = i + (n - i) by omega, Nat.pow_add, Nat.mod_mul_right_div_self, show n - i = (n - i - 1) + 1 by omega, Nat.pow_succ, Nat.mul_comm, Nat.mod_mul_right_mod]
  rw [e2] at e
  cases hb : (tobits n v)[i]'(by rw [tobits_length]; exact h) <;> rw [hb] at e <;> simp at e <;> simp [e]

theorem ref3_put_loop (s : List Bool) (v n : Nat) (hv : v < 2 ^ 32) (hn : n ≤ 32) (hs : s.length + n ≤ 1099511627776) (m : Nat) : ∀ (k i : Nat), i + m = n → m < k →
    valiseref3_Writer_Put.l1 k (rowI (s ++ (tobits n v).take i)) (i : Int) (v : Int) (n : Int) = some (rowI (s ++ tobits n v)) := by
  induction m with
  | zero =>
    intro k i hi hk
    obtain ⟨k, rfl⟩ : ∃ j, k = j + 1 := ⟨k - 1, by omega⟩
    rw [valiseref3_Writer_Put.l1, if_neg (by omega), List.take_of_length_le (by rw [tobits_length]; omega)]
  | succ m ih =>
    intro k i hi hk
    obtain ⟨k, rfl⟩ : ∃ j, k = j + 1 := ⟨k - 1, by omega⟩
    have hil : i < (tobits n v).length := by rw [tobits_length]; omega
    have e : rowI (s ++ (tobits n v).take i) ++ [((v / 2 ^ i % 2 : Nat) : Int)] = rowI (s ++ (tobits n v).take (i + 1)) := by
      rw [take_step _ hil, ← List.append_assoc, rowI_append (s ++ (tobits n v).take i)]
      congr 1
      simp only [rowI, List.map_cons, List.map_nil]
      rw [tobits_get n v i (by omega)]
      rcases Nat.mod_two_eq_zero_or_one (v / 2 ^ i) with h | h <;> rw [h] <;> rfl
    rw [valiseref3_Writer_Put.l1, if_pos (by omega), ref3_bit_spec v i hv (by omega)]
    simp only [Option.bind_some]
    rw [bnd_eq, e, gd_pos (by rw [rowI_length, List.length_append, List.length_take, tobits_length]; omega), bnd_eq, inc_i (by omega)]
    exact ih k (i + 1) (by omega) (by omega)
theorem ref3_below_spec (v n : Nat) (hv : v < 2 ^ 32) (hn : n ≤ 32) : valiseref3_below.f (v : Int) (n : Int) = some (decide (v < 2 ^ n)) := by
  have e1 : IntKind.u64.wrap (n : Int) = (n : Int) := wr_u64 (by omega)
  have e2 : IntKind.u64.wrap (v : Int) = (v : Int) := wr_u64 (by omega)
  have hp : 2 ^ n ≤ 2 ^ 32 := Nat.pow_le_pow_right (by omega) hn
  have e3 : shl .u64 1 (n : Int) = ((2 ^ n : Nat) : Int) := by
    have := shl_nat' (k := .u64) rfl (a := 1) (n := n) (by simp only [IntKind.bits]; omega)
    rw [Nat.one_mul] at this
    exact this
  rw [valiseref3_below.f, e1, gd_pos (by omega), e2, e3]
  congr 1
  exact decide_eq_decide.2 (by omega)
theorem ref3_Put_spec (s : List Bool) (v : Nat) (n : Int) (hv : v < 2 ^ 32) (hn : -9223372036854775808 ≤ n ∧ n ≤ 9223372036854775807) (hs : s.length ≤ 268435456) :
    valiseref3_Writer_Put.f (rowI s) (v : Int) n = if 0 ≤ n ∧ n ≤ 32 ∧ v < 2 ^ n.toNat ∧ s.length + n.toNat ≤ 268435456 then some (0, rowI (s ++ tobits n.toNat v)) else some (1, rowI s) := by
  rw [valiseref3_Writer_Put.f]
  by_cases hb : n < 0 ∨ 32 < n
  · rw [if_pos hb, if_neg (by omega)]
  · obtain ⟨n, rfl⟩ : ∃ m : Nat, n = m := ⟨n.toNat, by omega⟩
    have e3 : IntKind.i64.wrap (((rowI s).length : Int) + (n : Int)) = ((s.length + n : Nat) : Int) := by rw [rowI_length, wr_i64 (by omega)]; rfl
    rw [if_neg hb, ref3_below_spec v n hv (by omega), e3]
    simp only [Option.bind_some, Int.toNat_natCast]
    by_cases hl : v < 2 ^ n ∧ s.length + n ≤ 268435456
    · rw [if_neg (by simp; omega), if_pos (by omega)]
      have key := ref3_put_loop s v n hv (by omega) (by omega) n FU 0 (by omega) (by rw [FU_eq]; omega)
      rw [List.take_zero, List.append_nil, show ((0 : Nat) : Int) = 0 from rfl] at key
      rw [key]
      rfl
    · rw [if_pos (by simp; omega), if_neg (by omega)]

theorem ref3_bytes_loop (s : List Bool) (hs : s.length ≤ 1099511627776) (m : Nat) : ∀ (k i : Nat), i + m = s.length → m < k →
    valiseref3_Writer_Bytes.l1 k (pack (s.take i)) (i : Int) (rowI s) = some (pack s) := by
  induction m with
  | zero =>
    intro k i hi hk
    obtain ⟨k, rfl⟩ : ∃ j, k = j + 1 := ⟨k - 1, by omega⟩
    rw [valiseref3_Writer_Bytes.l1, if_neg (by rw [rowI_length]; omega), List.take_of_length_le (by omega)]
  | succ m ih =>
    intro k i hi hk
    obtain ⟨k, rfl⟩ : ∃ j, k = j + 1 := ⟨k - 1, by omega⟩
    have hil : i < s.length := by omega
    have htl : (s.take i).length = i := by rw [List.length_take]; omega
    have hst := take_step s hil
    have hpl := pack_length (s.take i)
    rw [htl] at hpl
    have e1 : Int.tmod (i : Int) 8 = ((i % 8 : Nat) : Int) := by rw [Int.tmod_eq_emod_of_nonneg (by omega)]; omega
    have e2 : IntKind.i64.wrap (Int.tdiv (i : Int) 8) = ((i / 8 : Nat) : Int) := by rw [Int.tdiv_eq_ediv_of_nonneg (by omega), wr_i64 (by omega)]; omega
    have e3 : IntKind.u64.wrap ((i % 8 : Nat) : Int) = ((i % 8 : Nat) : Int) := wr_u64 (by omega)
    have hb : (s[i]).toNat < 2 := Bool.toNat_lt _
    have hp : 2 ^ (i % 8) ≤ 2 ^ 7 := Nat.pow_le_pow_right (by omega) (by omega)
    have hbp : (s[i]).toNat * 2 ^ (i % 8) ≤ 2 ^ 7 := by
      have : (s[i]).toNat * 2 ^ (i % 8) ≤ 1 * 2 ^ (i % 8) := Nat.mul_le_mul_right _ (by omega)
      omega
    have e4 : shl .u8 ((s[i]).toNat : Int) ((i % 8 : Nat) : Int) = (((s[i]).toNat * 2 ^ (i % 8) : Nat) : Int) := shl_nat' (k := .u8) rfl (by simp only [IntKind.bits]; omega)
    have stp := pack_step (s.take i) [s[i]] (by simp) (by rw [htl]; simp; omega)
    rw [htl, ← hst] at stp
    rw [valiseref3_Writer_Bytes.l1, if_pos (by rw [rowI_length]; omega), e1, e2, e3, rowI_at hil, e4]
    by_cases c : i % 8 = 0
    · have hl : (pack (s.take i)).length = i / 8 := by omega
      rw [if_pos (by omega), bnd_eq, gd_pos (by rw [List.length_append]; simp; omega)]
      simp only [Option.bind_some]
      have er : rd (pack (s.take i) ++ [0]) ((i / 8 : Nat) : Int) = 0 := rd_at (by rw [List.getElem?_append_right (by omega), hl]; simp)
      have ew : IntKind.u8.wrap (0 + (((s[i]).toNat * 2 ^ (i % 8) : Nat) : Int)) = ((s[i]).toNat : Int) := by
        rw [c, Nat.pow_zero, Nat.mul_one, Int.zero_add]
        exact wrap_nat (k := .u8) rfl (by simp only [IntKind.bits]; omega)
      have es : (pack (s.take i) ++ [(0 : Int)]).set (i / 8) ((s[i]).toNat : Int) = pack (s.take (i + 1)) := by
        rw [stp.1 c, ← hl, List.set_append_right _ _ (Nat.le_refl _), Nat.sub_self]
        simp [val]
      rw [gd_pos (by rw [List.length_append]; simp; omega), gd_pos (by rw [rowI_length]; omega), gd_pos (by omega), er, ew, Int.toNat_natCast, es, bnd_eq, bnd_eq, inc_i (by omega)]
      exact ih k (i + 1) (by omega) (by omega)
    · obtain ⟨l, p, q1, q2, q3⟩ := stp.2 c
      have hl : l.length = i / 8 := by rw [q1, List.length_append] at hpl; simp at hpl; omega
      rw [if_neg (by omega)]
      simp only [Option.bind_some]
      have er : rd (pack (s.take i)) ((i / 8 : Nat) : Int) = (val p : Int) := rd_at (by rw [q1, List.getElem?_append_right (by omega), hl]; simp)
      have hv := val_lt (p ++ [s[i]])
      have hv2 : val (p ++ [s[i]]) = val p + 2 ^ (i % 8) * (s[i]).toNat := by rw [val_append, q2]; simp [val]
      have hpw : 2 ^ (p ++ [s[i]]).length ≤ 2 ^ 8 := Nat.pow_le_pow_right (by omega) (by rw [List.length_append, q2]; simp; omega)
      have ew : IntKind.u8.wrap ((val p : Int) + (((s[i]).toNat * 2 ^ (i % 8) : Nat) : Int)) = (val (p ++ [s[i]]) : Int) := by
        rw [hv2, Nat.mul_comm]
        exact wrap_nat (k := .u8) (a := val p + 2 ^ (i % 8) * (s[i]).toNat) rfl (by simp only [IntKind.bits]; rw [← hv2]; omega)
      have es : (pack (s.take i)).set (i / 8) (val (p ++ [s[i]]) : Int) = pack (s.take (i + 1)) := by
        rw [q3, q1, ← hl, List.set_append_right _ _ (Nat.le_refl _), Nat.sub_self]
        rfl
      rw [gd_pos (by omega), gd_pos (by rw [rowI_length]; omega), gd_pos (by omega), er, ew, Int.toNat_natCast, es, bnd_eq, bnd_eq, inc_i (by omega)]
      exact ih k (i + 1) (by omega) (by omega)
theorem ref3_Bytes_spec (s : List Bool) (hs : s.length ≤ 1099511627776) : valiseref3_Writer_Bytes.f (rowI s) = some (pack s) := by
  have key := ref3_bytes_loop s hs s.length FU 0 (by omega) (by rw [FU_eq]; omega)
  rw [List.take_zero, pack_nil, show ((0 : Nat) : Int) = 0 from rfl] at key
  rw [valiseref3_Writer_Bytes.f, key]
  rfl

/-- What putting a symbol makes of the bits, and its error. -/
def putW (lens : List Int) (s : List Bool) (x : Int) : List Bool := if goodS lens x then (if s.length + ln lens x.toNat ≤ 268435456 then s ++ encW lens x else s) else s
def putE (lens : List Int) (s : List Bool) (x : Int) : Int := if goodS lens x then (if s.length + ln lens x.toNat ≤ 268435456 then 0 else 1) else 56
theorem putW_le (lens : List Int) (h : ∀ y ∈ lens, okx y) (s : List Bool) (hs : s.length ≤ 268435456) (x : Int) : (putW lens s x).length ≤ 268435456 := by
  unfold putW
  by_cases g : goodS lens x
  · rw [if_pos g]
    by_cases c : s.length + ln lens x.toNat ≤ 268435456
    · rw [if_pos c, List.length_append]; unfold encW; rw [if_pos g, wbits_length]; exact c
    · rw [if_neg c]; exact hs
  · rw [if_neg g]; exact hs
theorem code_Put_all (lens : List Int) (hn : lens.length ≤ 288) (h : ∀ y ∈ lens, okx y) (hT : takeW (ln lens) lens.length ≤ 32768) (C D : List Int) (s : List Bool) (hs : s.length ≤ 268435456) (x : Int) :
    code_Encoder_Put.f lens (wsL (ln lens) lens.length) C D (pack s) (s.length : Int) x = some (putE lens s x, pack (putW lens s x), ((putW lens s x).length : Int)) := by
  rw [code_Encoder_Put.f, code_Len_spec lens h]
  simp only [Option.bind_some]
  unfold putE putW encW
  by_cases g : goodS lens x
  · obtain ⟨g1, g2, g3⟩ := id g
    obtain ⟨i, rfl⟩ : ∃ i : Nat, x = i := ⟨x.toNat, by omega⟩
    rw [Int.toNat_natCast] at g3
    rw [if_pos g, if_pos g, if_pos g, if_pos g, Int.toNat_natCast]
    have hil : i < lens.length := by omega
    have h15 := ln_le h i
    have hw := word_lt (fun j _ => ln_le h j) hT hil g3
    have hp : 2 ^ ln lens i ≤ 2 ^ 15 := Nat.pow_le_pow_right (by omega) h15
    have e1 : IntKind.u32.wrap (wordW (ln lens) lens.length i : Int) = (wordW (ln lens) lens.length i : Int) := wrap_nat (k := .u32) rfl (by simp only [IntKind.bits]; omega)
    have hr := rev_lt (ln lens i) (wordW (ln lens) lens.length i) 0 0 (by simp)
    rw [Nat.zero_add] at hr
    rw [if_neg (by omega), gd_pos (by rw [wsL_length]; omega), rd_wsL hil, if_pos g3, e1, bits_Reverse_spec _ _ (by omega) hw]
    simp only [Option.bind_some]
    rw [if_neg (by decide), bits_Writer_Put_spec s _ _ (by omega) (by omega) hs, Int.toNat_natCast]
    by_cases c : s.length + ln lens i ≤ 268435456
    · rw [if_pos ⟨by omega, by omega, hr, c⟩, if_pos c, if_pos c, tobits_rev]
      rfl
    · rw [if_neg (fun f => c f.2.2.2), if_neg c, if_neg c]
      rfl
  · rw [if_neg g, if_neg g, if_neg g]
    simp only [if_true]

theorem ref5_NewEncoder_spec (lens : List Int) : valiseref5_NewEncoder.f lens = some (if encE lens = 0 then (some (lens, wsL (ln lens) lens.length), 0) else (none, encE lens)) := by
  rw [valiseref5_NewEncoder.f, ref5_Check_spec]
  by_cases a : badL lens = 0
  · obtain ⟨h1, h2⟩ := badL_ok a
    rw [if_pos a]
    simp only [Option.bind_some]
    rw [if_neg (by decide)]
    have eD : encE lens = if shapeW (usedW (ln lens) lens.length) (takeW (ln lens) lens.length) = 2 then 52 else if shapeW (usedW (ln lens) lens.length) (takeW (ln lens) lens.length) = 3 then 51 else 0 := by
      unfold encE; rw [if_neg (fun f => f a)]
    have ov := shape_over (l := ln lens) (n := lens.length)
    rw [eD, ref5_Codes_spec, if_pos a]
    generalize shapeW (usedW (ln lens) lens.length) (takeW (ln lens) lens.length) = S at ov
    by_cases c2 : S = 2
    · rw [if_pos c2, if_pos c2]; rfl
    · rw [if_neg c2, if_neg c2]
      by_cases c3 : S = 3
      · rw [if_pos c3, if_pos c3]; rfl
      · rw [if_neg c3, if_neg c3, if_neg (fun f => c3 (ov.2 f)), if_pos rfl]
        simp only [Option.bind_some]
        rw [bnd_eq, List.nil_append, gd_pos (by omega)]
  · rw [if_neg a]
    simp only [Option.bind_some]
    have eD : encE lens = badL lens := by unfold encE; rw [if_pos a]
    rw [if_pos a, eD, if_neg a]
theorem ref5_Len_spec (lens : List Int) (h : ∀ y ∈ lens, okx y) (B : List Int) (x : Int) : valiseref5_Encoder_Len.f lens B x = some (if goodS lens x then (ln lens x.toNat : Int) else 0) := by
  rw [valiseref5_Encoder_Len.f]
  by_cases c : x < 0 ∨ (lens.length : Int) ≤ x
  · rw [if_pos c, if_neg (fun g => by unfold goodS at g; omega)]
  · obtain ⟨i, rfl⟩ : ∃ i : Nat, x = i := ⟨x.toNat, by omega⟩
    rw [if_neg c, gd_pos (by omega), rd_ln h (by omega), Int.toNat_natCast]
    by_cases g : goodS lens (i : Int)
    · rw [if_pos g]
    · rw [if_neg g]
      have : ¬ 0 < ln lens i := fun f => g ⟨by omega, by omega, by rw [Int.toNat_natCast]; exact f⟩
      congr 1; omega
theorem ref5_rev_loop (n : Nat) (hn : n ≤ 15) (m : Nat) : ∀ (k i row v : Nat), i + m = n → m < k → v < 32768 → row < 2 ^ i →
    valiseref5_Encoder_Put.l1 k (row : Int) (v : Int) (i : Int) (n : Int) = some ((rev m v row : Nat) : Int) := by
  induction m with
  | zero =>
    intro k i row v hi hk hv hr
    obtain ⟨k, rfl⟩ : ∃ j, k = j + 1 := ⟨k - 1, by omega⟩
    rw [valiseref5_Encoder_Put.l1, if_neg (by omega), rev]
  | succ m ih =>
    intro k i row v hi hk hv hr
    obtain ⟨k, rfl⟩ : ∃ j, k = j + 1 := ⟨k - 1, by omega⟩
    have hp : 2 ^ i ≤ 2 ^ 14 := Nat.pow_le_pow_right (by omega) (by omega)
    have e1 : IntKind.u32.wrap (2 * (row : Int)) = ((2 * row : Nat) : Int) := by
      have := wrap_nat (k := .u32) (a := 2 * row) rfl (by simp only [IntKind.bits]; omega)
      rw [← this]; congr 1
    have e2 : IntKind.u32.wrap (Int.tmod (v : Int) 2) = ((v % 2 : Nat) : Int) := by
      rw [Int.tmod_eq_emod_of_nonneg (by omega)]
      have := wrap_nat (k := .u32) (a := v % 2) rfl (by simp only [IntKind.bits]; omega)
      rw [← this]; congr 1
    have e3 : IntKind.u32.wrap (((2 * row : Nat) : Int) + ((v % 2 : Nat) : Int)) = ((row * 2 + v % 2 : Nat) : Int) := by
      have := wrap_nat (k := .u32) (a := row * 2 + v % 2) rfl (by simp only [IntKind.bits]; omega)
      rw [← this]; congr 1; omega
    have e4 : IntKind.i64.wrap (Int.tdiv (v : Int) 2) = ((v / 2 : Nat) : Int) := by rw [Int.tdiv_eq_ediv_of_nonneg (by omega), wr_i64 (by omega)]; omega
    rw [valiseref5_Encoder_Put.l1, if_pos (by omega), e1, e2, e3, e4, bnd_eq, bnd_eq, bnd_eq, inc_i (by omega), rev]
    exact ih k (i + 1) _ _ (by omega) (by omega) (by omega) (by rw [Nat.pow_succ]; omega)
theorem ref5_Put_all (lens : List Int) (hn : lens.length ≤ 288) (h : ∀ y ∈ lens, okx y) (hT : takeW (ln lens) lens.length ≤ 32768) (s : List Bool) (hs : s.length ≤ 268435456) (x : Int) :
    valiseref5_Encoder_Put.f lens (wsL (ln lens) lens.length) (rowI s) x = some (putE lens s x, rowI (putW lens s x)) := by
  rw [valiseref5_Encoder_Put.f, ref5_Len_spec lens h]
  simp only [Option.bind_some]
  unfold putE putW encW
  by_cases g : goodS lens x
  · obtain ⟨g1, g2, g3⟩ := id g
    obtain ⟨i, rfl⟩ : ∃ i : Nat, x = i := ⟨x.toNat, by omega⟩
    rw [Int.toNat_natCast] at g3
    rw [if_pos g, if_pos g, if_pos g, if_pos g, Int.toNat_natCast]
    have hil : i < lens.length := by omega
    have h15 := ln_le h i
    have hw := word_lt (fun j _ => ln_le h j) hT hil g3
    have hp : 2 ^ ln lens i ≤ 2 ^ 15 := Nat.pow_le_pow_right (by omega) h15
    have hr := rev_lt (ln lens i) (wordW (ln lens) lens.length i) 0 0 (by simp)
    rw [Nat.zero_add] at hr
    have key := ref5_rev_loop (ln lens i) h15 (ln lens i) FU 0 0 (wordW (ln lens) lens.length i) (by omega) (by rw [FU_eq]; omega) (by omega) (by simp)
    have key' : valiseref5_Encoder_Put.l1 FU 0 (wordW (ln lens) lens.length i : Int) 0 (ln lens i : Int) = _ := key
    rw [if_neg (by omega), gd_pos (by rw [wsL_length]; omega), bnd_eq, rd_wsL hil, if_pos g3, key']
    simp only [Option.bind_some]
    rw [ref3_Put_spec s _ _ (by omega) (by omega) hs, Int.toNat_natCast]
    by_cases c : s.length + ln lens i ≤ 268435456
    · rw [if_pos ⟨by omega, by omega, hr, c⟩, if_pos c, if_pos c, tobits_rev]
      rfl
    · rw [if_neg (fun f => c f.2.2.2), if_neg c, if_neg c]
      rfl
  · rw [if_neg g, if_neg g, if_neg g]
    simp only [if_true]


theorem put_loop (lens : List Int) (hn : lens.length ≤ 288) (h : ∀ y ∈ lens, okx y) (hT : takeW (ln lens) lens.length ≤ 32768) (C D : List Int) (sy : List Int) (hsy : sy.length * 8 ≤ 140737488351232) (m : Nat) : ∀ (k i : Nat) (s : List Bool), i + m = sy.length → m < k → s.length ≤ 268435456 →
    ∃ t : List Bool, t.length ≤ 268435456 ∧ valiselaw5_CodeWrites.l1 k (pack s) (rowI s) (s.length : Int) (i : Int) sy lens (wsL (ln lens) lens.length) C D lens (wsL (ln lens) lens.length) = some (.inr (pack t, rowI t, (t.length : Int))) := by
  induction m with
  | zero =>
    intro k i s hi hk hs
    obtain ⟨k, rfl⟩ : ∃ j, k = j + 1 := ⟨k - 1, by omega⟩
    exact ⟨s, hs, by rw [valiselaw5_CodeWrites.l1, if_neg (by omega)]⟩
  | succ m ih =>
    intro k i s hi hk hs
    obtain ⟨k, rfl⟩ : ∃ j, k = j + 1 := ⟨k - 1, by omega⟩
    have hx : sy[i]? = some sy[i] := List.getElem?_eq_getElem (by omega)
    obtain ⟨t, ht, hgo⟩ := ih k (i + 1) (putW lens s sy[i]) (by omega) (by omega) (putW_le lens h s hs _)
    refine ⟨t, ht, ?_⟩
    rw [valiselaw5_CodeWrites.l1, if_pos (by omega), gd_pos (by omega), rd_at hx, code_Put_all lens hn h hT C D s hs, ref5_Put_all lens hn h hT s hs]
    simp only [Option.bind_some]
    rw [if_neg (fun f => f rfl), code_Len_spec lens h, ref5_Len_spec lens h]
    simp only [Option.bind_some, bits_Writer_Len.f, valiseref3_Writer_Len.f, rowI_length]
    simp only [ne_eq, not_true_eq_false, decide_false, Bool.false_eq_true, if_false, Option.bind_some]
    rw [bnd_eq, inc_i (by omega)]
    exact hgo
theorem valiselaw5_CodeWrites_true (a : List Int) (lead : Int) (sy : List Int) (ha : ∀ x ∈ a, (Lit.int .i64 x).wf = true) (wa : a.length * 8 ≤ 140737488351232) (wl : (Lit.int .i64 lead).wf = true) (hs : ∀ x ∈ sy, (Lit.int .i64 x).wf = true) (ws : sy.length * 8 ≤ 140737488351232) : valiselaw5_CodeWrites.f a lead sy = some true := by
  have tk : (a ++ [-71, -72, -73]).take a.length = a := List.take_left
  rw [valiselaw5_CodeWrites.f, framed5 a wa]
  simp only [Option.bind_some]
  rw [gd_pos (by simp; omega), Int.toNat_natCast, tk, code_NewEncoder_spec a, ref5_NewEncoder_spec a, whole5 a wa]
  by_cases hE : encE a = 0
  · obtain ⟨hn, hok, hT⟩ := encE_ok hE
    rw [if_pos hE, if_pos hE]
    simp only [Option.bind_some, ne_eq, not_true_eq_false, if_false, Option.isNone_some, beq_self_eq_true, Bool.not_true, Bool.false_eq_true, bits_NewWriter.f, valiseref3_NewWriter.f, onO]
    rw [valiselaw5_spoil_v0_spec a _ (by omega)]
    simp only [Option.bind_some]
    obtain ⟨P, hP, e, e1, e2⟩ : ∃ P : List Bool, P.length ≤ 268435456 ∧ ∃ e : Int, bits_Writer_Put.f [] 0 0 lead = some (e, pack P, (P.length : Int)) ∧ valiseref3_Writer_Put.f [] 0 lead = some (e, rowI P) := by
      have key := bits_Writer_Put_spec [] 0 lead (by omega) (wf_i64 wl) (by simp)
      have key' : bits_Writer_Put.f [] 0 0 lead = _ := key
      have kez := ref3_Put_spec [] 0 lead (by omega) (wf_i64 wl) (by simp)
      have kez' : valiseref3_Writer_Put.f [] 0 lead = _ := kez
      rw [key', kez']
      by_cases c : 0 ≤ lead ∧ lead ≤ 32 ∧ 0 < 2 ^ lead.toNat ∧ ([] : List Bool).length + lead.toNat ≤ 268435456
      · rw [if_pos c, if_pos c]
        exact ⟨[] ++ tobits lead.toNat 0, by rw [List.nil_append, tobits_length]; omega, _, rfl, rfl⟩
      · rw [if_neg c, if_neg c]
        exact ⟨[], by simp, _, rfl, rfl⟩
    rw [e1]
    simp only [Option.bind_some]
    rw [e2]
    simp only [Option.bind_some]
    obtain ⟨t, ht, hgo⟩ := put_loop a hn hok hT (cl (ln a) a.length) (fsL (ln a) a.length) sy ws sy.length FU 0 P (by omega) (by rw [FU_eq]; omega) hP
    rw [show ((0 : Nat) : Int) = 0 from rfl] at hgo
    have hpl := pack_length t
    rw [hgo]
    simp only [Option.bind_some, onR]
    rw [bits_Writer_Bytes_spec _ _ (by omega)]
    simp only [Option.bind_some]
    rw [ref3_Bytes_spec t (by omega)]
    simp only [Option.bind_some]
    rw [valiselaw5_sameBytes_spec _ _ (by omega)]
    simp
  · rw [if_neg hE, if_neg hE]
    simp only [Option.bind_some, ne_eq, not_true_eq_false, if_false, Option.isNone_none, beq_self_eq_true, Bool.not_true, Bool.false_eq_true, if_true]
end Go.V.Pu
