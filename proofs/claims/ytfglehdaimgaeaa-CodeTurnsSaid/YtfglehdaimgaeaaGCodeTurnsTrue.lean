/- The plain law: two encoders and two decoders in turns have nothing to do with one another. -/
import Derived.Test.YtfglehdaimgaeaaGCodeTurnsPure
import Derived.Test.YtfglehdaimgaeaaQ9
set_option linter.unusedVariables false
set_option linter.unusedSimpArgs false
namespace Go.V.Pu
open Go Go.V

theorem copied5 (a : List Int) (h : a.length * 8 ≤ 140737488351232) : valiselaw5_copied.f a = some a := by
  have e : IntKind.i64.wrap ((a.length : Int) + 4) = ((a.length + 4 : Nat) : Int) := by rw [wr_i64 (by omega)]; rfl
  have hc : cpy (List.replicate ((a.length : Int)).toNat (0 : Int)) a = a := by
    unfold cpy
    rw [List.length_replicate, Int.toNat_natCast, List.take_length, List.drop_eq_nil_of_le (by simp), List.append_nil]
  rw [valiselaw5_copied.f, e, gd_pos (by omega), gd_pos (by omega), bnd_eq, bnd_eq, hc]

theorem code_count_loop (lens : List Int) (hl : lens.length ≤ 288) (m : Nat) : ∀ (k i : Nat), i + m = lens.length → m < k → (∀ j x, j < i → lens[j]? = some x → okx x) →
    code_count.l1 k (cl0 (ln lens) i) (i : Int) lens = if (∀ x ∈ lens, okx x) then some (.inr (cl0 (ln lens) lens.length)) else some (.inl (List.replicate 16 (0 : Int), 50)) := by
  induction m with
  | zero =>
    intro k i hi hk ho
    obtain ⟨k, rfl⟩ : ∃ j, k = j + 1 := ⟨k - 1, by omega⟩
    have hall : ∀ x ∈ lens, okx x := fun x hx => by
      obtain ⟨j, hj⟩ := List.getElem?_of_mem hx
      exact ho j x (by have := (List.getElem?_eq_some_iff.1 hj).1; omega) hj
    rw [code_count.l1, if_neg (by omega), if_pos hall, show i = lens.length by omega]
  | succ m ih =>
    intro k i hi hk ho
    obtain ⟨k, rfl⟩ : ∃ j, k = j + 1 := ⟨k - 1, by omega⟩
    have hx : lens[i]? = some lens[i] := List.getElem?_eq_getElem (by omega)
    rw [code_count.l1, if_pos (by omega), gd_pos (by omega), bnd_eq, rd_at hx]
    by_cases c : okx lens[i]
    · have c' := c
      unfold okx at c'
      have e : ln lens i = (lens[i]).toNat := ln_at hx
      have hle : ln lens i ≤ 15 := by omega
      have e2 : lens[i] = (ln lens i : Int) := by omega
      have hc := cntL_le (ln lens) (ln lens i) i
      rw [if_neg (by omega), gd_pos (by omega), gd_pos (cl0_length _ _), bnd_eq, e2, rd_cl0 (by omega), wr_i64 (x := (cntL (ln lens) (ln lens i) i : Int) + 1) (by omega), Int.toNat_natCast, cl0_step _ _ hle, inc_i (by omega)]
      exact ih k (i + 1) (by omega) (by omega) (fun j x hj hjx => by
        by_cases e3 : j = i
        · subst e3; rw [hx] at hjx; cases hjx; exact c
        · exact ho j x (by omega) hjx)
    · have c' := c
      unfold okx at c'
      rw [if_pos (by omega), if_neg fun h => c (h _ (List.getElem_mem (by omega)))]
theorem code_count_spec (lens : List Int) : code_count.f lens = some (if badL lens = 0 then (cl (ln lens) lens.length, 0) else (List.replicate 16 (0 : Int), badL lens)) := by
  unfold code_count.f
  by_cases h : 288 < (lens.length : Int)
  · have e : badL lens = 1 := by unfold badL; rw [if_pos (by omega)]
    rw [if_pos h, e, if_neg (by decide)]
  · have key := code_count_loop lens (by omega) lens.length FU 0 (by omega) (by rw [FU_eq]; omega) (fun j x hj => by omega)
    rw [cl0_zero] at key
    have e0 : ((0 : Nat) : Int) = 0 := rfl
    rw [e0] at key
    rw [if_neg h, key]
    by_cases c : ∀ x ∈ lens, okx x
    · rw [if_pos c, if_pos (badL_zero (by omega) c)]
      simp only [Option.bind_some, onR]
      rw [gd_pos (cl0_length _ _), bnd_eq, show (0 : Int).toNat = 0 from rfl, cl_of]
    · have e : badL lens = 50 := by unfold badL; rw [if_neg (by omega), if_neg c]
      rw [if_neg c, e, if_neg (by decide)]
      rfl

theorem code_shape_loop (l : Nat → Nat) (n : Nat) (hn : n ≤ 288) (h : ∀ j, j < n → l j ≤ 15) (m : Nat) : ∀ (k v : Nat), v + m = 16 → m < k → 1 ≤ v →
    code_shape.l1 k (wupto l n v : Int) (upto l n v : Int) (v : Int) (cl l n) = some ((usedW l n : Int), (takeW l n : Int)) := by
  have hW := wupto_all h
  have hT := upto_take h
  have hW2 := usedW_le l n
  have hT2 := takeW_le l n
  have wm : ∀ v, v ≤ 16 → wupto l n v ≤ usedW l n := by
    intro v hv
    rw [← hW]
    have : ∀ d v, v + d = 16 → wupto l n v ≤ wupto l n 16 := by
      intro d
      induction d with
      | zero => intro v hv; rw [show v = 16 by omega]; exact Nat.le_refl _
      | succ d ih => intro v hv; have := ih (v + 1) (by omega); rw [wupto] at this; omega
    exact this (16 - v) v (by omega)
  have um : ∀ v, v ≤ 16 → upto l n v ≤ takeW l n := fun v hv => by rw [← hT]; exact upto_mono l n hv
  induction m with
  | zero =>
    intro k v hv hk h1
    obtain ⟨k, rfl⟩ : ∃ j, k = j + 1 := ⟨k - 1, by omega⟩
    rw [code_shape.l1, if_neg (by omega), show v = 16 by omega, hW, hT]
  | succ m ih =>
    intro k v hv hk h1
    obtain ⟨k, rfl⟩ : ∃ j, k = j + 1 := ⟨k - 1, by omega⟩
    have a := wm (v + 1) (by omega)
    have b := um (v + 1) (by omega)
    rw [wupto, if_neg (by omega)] at a
    rw [upto_succ, if_neg (by omega)] at b
    have e1 : IntKind.i64.wrap (15 - (v : Int)) = ((15 - v : Nat) : Int) := by rw [wr_i64 (by omega)]; omega
    have e2 : shl .i64 (cntL l v n : Int) ((15 - v : Nat) : Int) = ((cntL l v n * 2 ^ (15 - v) : Nat) : Int) := by
      unfold shl
      rw [Int.toNat_natCast, Nat.min_eq_left (by simp only [IntKind.bits]; omega), wr_i64]
      · simp
      · have e3 : (cntL l v n : Int) * 2 ^ (15 - v) = ((cntL l v n * 2 ^ (15 - v) : Nat) : Int) := by simp
        rw [e3]; omega
    have e3 : IntKind.i64.wrap ((wupto l n v : Int) + (cntL l v n : Int)) = (wupto l n (v + 1) : Int) := by rw [wr_i64 (by omega), wupto, if_neg (by omega)]; rfl
    have e4 : IntKind.i64.wrap ((upto l n v : Int) + ((cntL l v n * 2 ^ (15 - v) : Nat) : Int)) = (upto l n (v + 1) : Int) := by rw [wr_i64 (by omega), upto_succ, if_neg (by omega)]; rfl
    rw [code_shape.l1, if_pos (by omega), gd_pos (by omega), gd_pos (cl_length _ _), bnd_eq, rd_cl (by omega) (by omega), e1, gd_pos (by omega), bnd_eq, e2, e3, e4, bnd_eq, inc_i (by omega)]
    exact ih k (v + 1) (by omega) (by omega) (by omega)
theorem code_shape_spec (l : Nat → Nat) (n : Nat) (hn : n ≤ 288) (h : ∀ j, j < n → l j ≤ 15) : code_shape.f (cl l n) = some (shapeW (usedW l n) (takeW l n)) := by
  have key := code_shape_loop l n hn h 15 FU 1 (by omega) (by rw [FU_eq]; omega) (by omega)
  have key' : code_shape.l1 FU 0 0 1 (cl l n) = some ((usedW l n : Int), (takeW l n : Int)) := key
  rw [code_shape.f, key']
  simp only [Option.bind_some]
  unfold shapeW
  by_cases h0 : usedW l n = 0
  · rw [if_pos (by omega), if_pos h0]
  · rw [if_neg (by omega), if_neg h0]
    by_cases h1 : usedW l n = 1
    · have e1 : rd (cl l n) 1 = (cntL l 1 n : Int) := rd_cl (v := 1) (by omega) (by omega)
      rw [if_pos (by omega), gd_pos (cl_length _ _), e1]
      simp only [Option.bind_some]
      have hs := single_iff h1
      by_cases h2 : takeW l n = 16384
      · have := hs.2 h2
        rw [if_pos (by simp; omega), if_pos ⟨h1, h2⟩]
      · have : ¬ cntL l 1 n = 1 := fun e => h2 (hs.1 e)
        rw [if_neg (by simp; omega), if_neg (show ¬ (usedW l n = 1 ∧ takeW l n = 16384) by omega)]
        by_cases h3 : 32768 < takeW l n
        · rw [if_pos (by omega), if_pos h3]
        · rw [if_neg (by omega), if_neg h3]
          by_cases h4 : takeW l n = 32768
          · rw [if_pos (by omega), if_pos h4]
          · rw [if_neg (by omega), if_neg h4]
    · rw [if_neg (by omega)]
      simp only [Option.bind_some, Bool.false_eq_true, if_false]
      rw [if_neg (show ¬ (usedW l n = 1 ∧ takeW l n = 16384) by omega)]
      by_cases h3 : 32768 < takeW l n
      · rw [if_pos (by omega), if_pos h3]
      · rw [if_neg (by omega), if_neg h3]
        by_cases h4 : takeW l n = 32768
        · rw [if_pos (by omega), if_pos h4]
        · rw [if_neg (by omega), if_neg h4]

theorem code_first_loop (l : Nat → Nat) (n : Nat) (hn : n ≤ 288) (m : Nat) : ∀ (k v : Nat), v + m = 16 → m < k → 1 ≤ v →
    code_first.l1 k ((List.range 16).map fun u => if u < v then (fstW l n u : Int) else 0) (fstW l n (v - 1) : Int) (v : Int) (cl l n) = some (fsL l n) := by
  induction m with
  | zero =>
    intro k v hv hk h1
    obtain ⟨k, rfl⟩ : ∃ j, k = j + 1 := ⟨k - 1, by omega⟩
    rw [code_first.l1, if_neg (by omega)]
    congr 1
    unfold fsL
    refine List.map_congr_left fun u hu => if_pos ?_
    have := List.mem_range.1 hu; omega
  | succ m ih =>
    intro k v hv hk h1
    obtain ⟨k, rfl⟩ : ∃ j, k = j + 1 := ⟨k - 1, by omega⟩
    obtain ⟨u, rfl⟩ : ∃ u, v = u + 1 := ⟨v - 1, by omega⟩
    have e1 : IntKind.i64.wrap (((u + 1 : Nat) : Int) - 1) = (u : Int) := by rw [wr_i64 (by omega)]; omega
    have hf := fstW_le2 (l := l) hn (v := u) (by omega)
    have hc := cntL_le l u n
    have e2 : rd (cl l n) (u : Int) = ((if u = 0 then 0 else cntL l u n : Nat) : Int) := by
      unfold cl
      rw [rd_map (by omega)]
      split <;> simp
    have hx : (if u = 0 then 0 else cntL l u n : Nat) ≤ n := by split <;> omega
    have e3 : shl .i64 (IntKind.i64.wrap ((fstW l n u : Int) + ((if u = 0 then 0 else cntL l u n : Nat) : Int))) 1 = (fstW l n (u + 1) : Int) := by
      rw [wr_i64 (by omega)]
      unfold shl
      rw [show min (1 : Int).toNat IntKind.i64.bits = 1 from rfl, wr_i64 (by omega)]
      simp only [fstW]; omega
    rw [code_first.l1, if_pos (by omega), e1, gd_pos (by omega), gd_pos (cl_length _ _), bnd_eq, Nat.add_sub_cancel, e2, e3, gd_pos (by omega), gd_pos (by simp), bnd_eq, bnd_eq, Int.toNat_natCast, map_set, inc_i (by omega)]
    have e4 : ((List.range 16).map fun w => if w = u + 1 then (fstW l n (u + 1) : Int) else if w < u + 1 then (fstW l n w : Int) else 0) = (List.range 16).map fun w => if w < u + 1 + 1 then (fstW l n w : Int) else 0 := by
      refine List.map_congr_left fun w hw => ?_
      by_cases c : w = u + 1
      · subst c; rw [if_pos rfl, if_pos (by omega)]
      · rw [if_neg c]
        by_cases d : w < u + 1
        · rw [if_pos d, if_pos (by omega)]
        · rw [if_neg d, if_neg (by omega)]
    rw [e4]
    exact ih k (u + 1 + 1) (by omega) (by omega) (by omega)
theorem code_first_spec (l : Nat → Nat) (n : Nat) (hn : n ≤ 288) : code_first.f (cl l n) = some (fsL l n) := by
  have key := code_first_loop l n hn 15 FU 1 (by omega) (by rw [FU_eq]; omega) (by omega)
  have e : ((List.range 16).map fun u => if u < 1 then (fstW l n u : Int) else 0) = List.replicate 16 (0 : Int) := by
    rw [zeros_map]
    refine List.map_congr_left fun u hu => ?_
    by_cases c : u < 1
    · rw [if_pos c, show u = 0 by omega]; rfl
    · rw [if_neg c]
  rw [e] at key
  have key' : code_first.l1 FU (List.replicate 16 (0 : Int)) 0 1 (cl l n) = some (fsL l n) := key
  rw [code_first.f, key']
  simp only [Option.bind_some]
  rw [gd_pos (fsL_length _ _)]
theorem code_words_loop (lens : List Int) (hn : lens.length ≤ 288) (h : ∀ x ∈ lens, okx x) (m : Nat) : ∀ (k i : Nat), i + m = lens.length → m < k →
    code_words.l1 k ((List.range lens.length).map fun j => if j < i ∧ 0 < ln lens j then (wordW (ln lens) lens.length j : Int) else 0) ((List.range 16).map fun v => (fstW (ln lens) lens.length v : Int) + if v = 0 then 0 else (cntL (ln lens) v i : Int)) (i : Int) lens = some (wsL (ln lens) lens.length) := by
  induction m with
  | zero =>
    intro k i hi hk
    obtain ⟨k, rfl⟩ : ∃ j, k = j + 1 := ⟨k - 1, by omega⟩
    rw [code_words.l1, if_neg (by omega)]
    congr 1
    unfold wsL
    refine List.map_congr_left fun j hj => ?_
    have := List.mem_range.1 hj
    by_cases c : 0 < ln lens j
    · rw [if_pos c, if_pos ⟨by omega, c⟩]
    · rw [if_neg c, if_neg (by omega)]
  | succ m ih =>
    intro k i hi hk
    obtain ⟨k, rfl⟩ : ∃ j, k = j + 1 := ⟨k - 1, by omega⟩
    have hle := ln_le h i
    rw [code_words.l1, if_pos (by omega), gd_pos (by omega), bnd_eq, rd_ln h (by omega)]
    by_cases c : 0 < ln lens i
    · have hf := fstW_le2 (l := ln lens) hn hle
      have hc := cntL_le (ln lens) (ln lens i) i
      have e1 : rd ((List.range 16).map fun v => (fstW (ln lens) lens.length v : Int) + if v = 0 then 0 else (cntL (ln lens) v i : Int)) (ln lens i : Int) = (wordW (ln lens) lens.length i : Int) := by
        rw [rd_map (by omega), if_neg (by omega)]; unfold wordW; omega
      have hw : wordW (ln lens) lens.length i = fstW (ln lens) lens.length (ln lens i) + cntL (ln lens) (ln lens i) i := rfl
      rw [if_pos (by omega), gd_pos (by omega), gd_pos (by simp), gd_pos (by simp; omega), bnd_eq, bnd_eq, e1, wr_i64 (x := (wordW (ln lens) lens.length i : Int) + 1) (by omega), Int.toNat_natCast, Int.toNat_natCast, map_set, map_set]
      simp only [Option.bind_some]
      rw [inc_i (by omega)]
      have e2 : ((List.range lens.length).map fun j => if j = i then (wordW (ln lens) lens.length i : Int) else if j < i ∧ 0 < ln lens j then (wordW (ln lens) lens.length j : Int) else 0) = (List.range lens.length).map fun j => if j < i + 1 ∧ 0 < ln lens j then (wordW (ln lens) lens.length j : Int) else 0 := by
        refine List.map_congr_left fun j hj => ?_
        by_cases e : j = i
        · subst e; rw [if_pos rfl, if_pos ⟨by omega, c⟩]
        · rw [if_neg e]
          by_cases d : j < i ∧ 0 < ln lens j
          · rw [if_pos d, if_pos ⟨by omega, d.2⟩]
          · rw [if_neg d, if_neg (by omega)]
      have e3 : ((List.range 16).map fun v => if v = ln lens i then (wordW (ln lens) lens.length i : Int) + 1 else (fstW (ln lens) lens.length v : Int) + if v = 0 then 0 else (cntL (ln lens) v i : Int)) = (List.range 16).map fun v => (fstW (ln lens) lens.length v : Int) + if v = 0 then 0 else (cntL (ln lens) v (i + 1) : Int) := by
        refine List.map_congr_left fun v hv => ?_
        by_cases e : v = ln lens i
        · subst e
          rw [if_pos rfl, if_neg (by omega), cntL_succ, if_pos rfl, hw]; omega
        · rw [if_neg e, cntL_succ, if_neg (show ¬ ln lens i = v from fun e' => e e'.symm)]; rfl
      rw [e2, e3]
      exact ih k (i + 1) (by omega) (by omega)
    · rw [if_neg (by omega)]
      simp only [Option.bind_some]
      rw [inc_i (by omega)]
      have e2 : ((List.range lens.length).map fun j => if j < i ∧ 0 < ln lens j then (wordW (ln lens) lens.length j : Int) else 0) = (List.range lens.length).map fun j => if j < i + 1 ∧ 0 < ln lens j then (wordW (ln lens) lens.length j : Int) else 0 := by
        refine List.map_congr_left fun j hj => ?_
        by_cases d : j < i ∧ 0 < ln lens j
        · rw [if_pos d, if_pos ⟨by omega, d.2⟩]
        · rw [if_neg d, if_neg (fun d' => d ⟨by
            apply Classical.byContradiction
            intro h3
            have : j = i := by omega
            subst this; exact c d'.2, d'.2⟩)]
      have e3 : ((List.range 16).map fun v => (fstW (ln lens) lens.length v : Int) + if v = 0 then 0 else (cntL (ln lens) v i : Int)) = (List.range 16).map fun v => (fstW (ln lens) lens.length v : Int) + if v = 0 then 0 else (cntL (ln lens) v (i + 1) : Int) := by
        refine List.map_congr_left fun v hv => ?_
        by_cases e : v = 0
        · rw [if_pos e, if_pos e]
        · rw [if_neg e, if_neg e, cntL_succ, if_neg (by omega)]; rfl
      rw [e2, e3]
      exact ih k (i + 1) (by omega) (by omega)
theorem code_words_spec (lens : List Int) (hn : lens.length ≤ 288) (h : ∀ x ∈ lens, okx x) : code_words.f lens (fsL (ln lens) lens.length) = some (wsL (ln lens) lens.length) := by
  have key := code_words_loop lens hn h lens.length FU 0 (by omega) (by rw [FU_eq]; omega)
  have e1 : ((List.range lens.length).map fun j => if j < 0 ∧ 0 < ln lens j then (wordW (ln lens) lens.length j : Int) else 0) = List.replicate lens.length (0 : Int) := by
    rw [zeros_map]
    exact List.map_congr_left fun j _ => if_neg (by omega)
  have e2 : ((List.range 16).map fun v => (fstW (ln lens) lens.length v : Int) + if v = 0 then 0 else (cntL (ln lens) v 0 : Int)) = fsL (ln lens) lens.length := by
    unfold fsL
    refine List.map_congr_left fun v _ => ?_
    split <;> simp [cntL, sumN]
  rw [e1, e2] at key
  have key' : code_words.l1 FU (List.replicate lens.length (0 : Int)) (fsL (ln lens) lens.length) 0 lens = _ := key
  rw [code_words.f, gd_pos (by omega), bnd_eq, Int.toNat_natCast, key']
  rfl

theorem code_makeTable_spec (lens : List Int) (hn : lens.length ≤ 288) (h : ∀ x ∈ lens, okx x) : code_makeTable.f lens (cl (ln lens) lens.length) = some (lens, wsL (ln lens) lens.length, cl (ln lens) lens.length, fsL (ln lens) lens.length) := by
  rw [code_makeTable.f, gd_pos (cl_length _ _), code_first_spec _ _ hn]
  simp only [Option.bind_some]
  rw [gd_pos (fsL_length _ _), bnd_eq, List.nil_append, gd_pos (by omega), code_words_spec lens hn h]
  rfl

theorem code_syms_inner (lens : List Int) (hn : lens.length ≤ 288) (h : ∀ x ∈ lens, okx x) (v : Nat) (h1 : 1 ≤ v) (hv : v ≤ 15) (P : List Int) (hP : P.length ≤ 5000) (m : Nat) : ∀ (k i : Nat), i + m = lens.length → m < k →
    code_NewDecoder.l13 k (P ++ rowS (ln lens) v i) (i : Int) lens (v : Int) = some (P ++ rowS (ln lens) v lens.length) := by
  induction m with
  | zero =>
    intro k i hi hk
    obtain ⟨k, rfl⟩ : ∃ j, k = j + 1 := ⟨k - 1, by omega⟩
    rw [code_NewDecoder.l13, if_neg (by omega), show i = lens.length by omega]
  | succ m ih =>
    intro k i hi hk
    obtain ⟨k, rfl⟩ : ∃ j, k = j + 1 := ⟨k - 1, by omega⟩
    have hc := cntL_le (ln lens) v i
    have hr := rowS_length (ln lens) v i
    rw [code_NewDecoder.l13, if_pos (by omega), gd_pos (by omega), bnd_eq, rd_ln h (by omega)]
    by_cases c : ln lens i = v
    · have e : P ++ rowS (ln lens) v i ++ [(i : Int)] = P ++ rowS (ln lens) v (i + 1) := by rw [rowS, if_pos c, List.append_assoc]
      rw [if_pos (by omega), bnd_eq, e, gd_pos (by rw [← e]; simp only [List.length_append, hr, List.length_cons, List.length_nil]; omega)]
      simp only [Option.bind_some]
      rw [inc_i (by omega)]
      exact ih k (i + 1) (by omega) (by omega)
    · have e : rowS (ln lens) v (i + 1) = rowS (ln lens) v i := by rw [rowS, if_neg c]
      rw [if_neg (by omega)]
      simp only [Option.bind_some]
      rw [inc_i (by omega), ← e]
      exact ih k (i + 1) (by omega) (by omega)
theorem code_syms_outer (lens : List Int) (hn : lens.length ≤ 288) (h : ∀ x ∈ lens, okx x) (m : Nat) : ∀ (k v : Nat), v + m = 16 → m < k → 1 ≤ v →
    code_NewDecoder.l11 k (symsL (ln lens) lens.length v) (v : Int) lens = some (symsL (ln lens) lens.length 16) := by
  induction m with
  | zero =>
    intro k v hv hk h1
    obtain ⟨k, rfl⟩ : ∃ j, k = j + 1 := ⟨k - 1, by omega⟩
    rw [code_NewDecoder.l11, if_neg (by omega), show v = 16 by omega]
  | succ m ih =>
    intro k v hv hk h1
    obtain ⟨k, rfl⟩ : ∃ j, k = j + 1 := ⟨k - 1, by omega⟩
    have hw := wupto_le (ln lens) lens.length v
    have hw2 : v * lens.length ≤ 16 * 288 := Nat.mul_le_mul (by omega) hn
    have key := code_syms_inner lens hn h v h1 (by omega) (symsL (ln lens) lens.length v) (by rw [symsL_length]; omega) lens.length FU 0 (by omega) (by rw [FU_eq]; omega)
    rw [show rowS (ln lens) v 0 = [] from rfl, List.append_nil, show ((0 : Nat) : Int) = 0 from rfl] at key
    have e : symsL (ln lens) lens.length (v + 1) = symsL (ln lens) lens.length v ++ rowS (ln lens) v lens.length := by rw [symsL, if_neg (by omega)]
    rw [code_NewDecoder.l11, if_pos (by omega), key, ← e]
    simp only [Option.bind_some]
    rw [bnd_eq, inc_i (by omega)]
    exact ih k (v + 1) (by omega) (by omega) (by omega)
theorem code_refused_spec (S : Int) : code_refused.f S = some (if S = 2 then 52 else if S = 3 then 51 else 0) := by
  unfold code_refused.f
  by_cases a : S = 2
  · rw [if_pos a, if_pos a]
  · rw [if_neg a, if_neg a]
    by_cases b : S = 3
    · rw [if_pos b, if_pos b]
    · rw [if_neg b, if_neg b]
theorem shapeW_cases (W T : Nat) : shapeW W T = 0 ∨ shapeW W T = 1 ∨ shapeW W T = 2 ∨ shapeW W T = 3 ∨ shapeW W T = 4 := by
  unfold shapeW; split <;> (try split) <;> (try split) <;> (try split) <;> simp
theorem shape_dec {lens : List Int} (hn : lens.length ≤ 288) (h : ∀ x ∈ lens, okx x) (hS : shapeW (usedW (ln lens) lens.length) (takeW (ln lens) lens.length) = 1 ∨ shapeW (usedW (ln lens) lens.length) (takeW (ln lens) lens.length) = 4) : Dec (ln lens) lens.length := by
  refine ⟨hn, fun j _ => ln_le h j, ?_⟩
  unfold shapeW at hS
  by_cases a : usedW (ln lens) lens.length = 0
  · rw [if_pos a] at hS; rcases hS with hS | hS <;> cases hS
  · rw [if_neg a] at hS
    by_cases b : usedW (ln lens) lens.length = 1 ∧ takeW (ln lens) lens.length = 16384
    · exact .inr b
    · rw [if_neg b] at hS
      by_cases c : 32768 < takeW (ln lens) lens.length
      · rw [if_pos c] at hS; rcases hS with hS | hS <;> cases hS
      · rw [if_neg c] at hS
        by_cases d : takeW (ln lens) lens.length = 32768
        · exact .inl d
        · rw [if_neg d] at hS; rcases hS with hS | hS <;> cases hS
/-- The error of a list of which no decoder is made. -/
def decE (lens : List Int) : Int := if badL lens ≠ 0 then badL lens else if shapeW (usedW (ln lens) lens.length) (takeW (ln lens) lens.length) = 0 then 53 else if shapeW (usedW (ln lens) lens.length) (takeW (ln lens) lens.length) = 2 then 52 else if shapeW (usedW (ln lens) lens.length) (takeW (ln lens) lens.length) = 3 then 51 else 0
theorem decE_ok {lens : List Int} (h : decE lens = 0) : badL lens = 0 ∧ Dec (ln lens) lens.length ∧ (shapeW (usedW (ln lens) lens.length) (takeW (ln lens) lens.length) = 1 ∨ shapeW (usedW (ln lens) lens.length) (takeW (ln lens) lens.length) = 4) := by
  unfold decE at h
  by_cases a : badL lens = 0
  · rw [if_neg (fun f => f a)] at h
    obtain ⟨h1, h2⟩ := badL_ok a
    have hS : shapeW (usedW (ln lens) lens.length) (takeW (ln lens) lens.length) = 1 ∨ shapeW (usedW (ln lens) lens.length) (takeW (ln lens) lens.length) = 4 := by
      rcases shapeW_cases (usedW (ln lens) lens.length) (takeW (ln lens) lens.length) with e | e | e | e | e
      · rw [e] at h; simp at h
      · exact .inl e
      · rw [e] at h; simp at h
      · rw [e] at h; simp at h
      · exact .inr e
    exact ⟨a, shape_dec h1 h2 hS, hS⟩
  · rw [if_pos a] at h; exact absurd h a
theorem decE_of {lens : List Int} (a : badL lens = 0) (hS : shapeW (usedW (ln lens) lens.length) (takeW (ln lens) lens.length) = 1 ∨ shapeW (usedW (ln lens) lens.length) (takeW (ln lens) lens.length) = 4) : decE lens = 0 := by
  unfold decE
  rw [if_neg (fun f => f a)]
  rcases hS with e | e <;> rw [e] <;> simp
theorem code_NewDecoder_spec (lens : List Int) : code_NewDecoder.f lens = some (if decE lens = 0 then (some (lens, wsL (ln lens) lens.length, cl (ln lens) lens.length, fsL (ln lens) lens.length, symsL (ln lens) lens.length 16), 0) else (none, decE lens)) := by
  rw [code_NewDecoder.f, code_count_spec]
  by_cases a : badL lens = 0
  · obtain ⟨h1, h2⟩ := badL_ok a
    rw [if_pos a]
    simp only [Option.bind_some]
    rw [gd_pos (cl_length _ _), if_neg (by decide), code_shape_spec _ _ h1 (fun j _ => ln_le h2 j)]
    simp only [Option.bind_some]
    have eD : decE lens = if shapeW (usedW (ln lens) lens.length) (takeW (ln lens) lens.length) = 0 then 53 else if shapeW (usedW (ln lens) lens.length) (takeW (ln lens) lens.length) = 2 then 52 else if shapeW (usedW (ln lens) lens.length) (takeW (ln lens) lens.length) = 3 then 51 else 0 := by
      unfold decE; rw [if_neg (fun f => f a)]
    rw [eD]
    generalize shapeW (usedW (ln lens) lens.length) (takeW (ln lens) lens.length) = S
    by_cases c0 : S = 0
    · rw [if_pos c0, if_pos c0]; rfl
    · rw [if_neg c0, if_neg c0, code_refused_spec]
      simp only [Option.bind_some]
      by_cases c2 : S = 2
      · rw [if_pos c2]; rfl
      · rw [if_neg c2]
        by_cases c3 : S = 3
        · rw [if_pos c3]; rfl
        · rw [if_neg c3, if_neg (by decide), if_pos rfl, code_makeTable_spec lens h1 h2]
          simp only [Option.bind_some]
          have key := code_syms_outer lens h1 h2 15 FU 1 (by omega) (by rw [FU_eq]; omega) (by omega)
          have key' : code_NewDecoder.l11 FU ([] : List Int) 1 lens = _ := key
          rw [gd_pos (cl_length _ _), gd_pos (fsL_length _ _), key']
          rfl
  · rw [if_neg a]
    simp only [Option.bind_some]
    have eD : decE lens = badL lens := by unfold decE; rw [if_pos a]
    rw [gd_pos (by simp), if_pos a, eD, if_neg a]

theorem pack_ne {s : List Bool} (h : s ≠ []) : (pack s).length ≠ 0 := by
  rw [pack_length]
  have := List.length_pos_iff.2 h
  omega
theorem cpy_same {l m : List Int} (h : l.length = m.length) : cpy l m = m := by
  unfold cpy
  rw [h, List.take_length, List.drop_eq_nil_of_le (by omega), List.append_nil]

theorem set_last (l : List Int) (x y : Int) : (l ++ [x]).set l.length y = l ++ [y] := by
  rw [List.set_append_right _ _ (Nat.le_refl _), Nat.sub_self]; rfl
theorem rd_last (l : List Int) (x : Int) : rd (l ++ [x]) (l.length : Int) = x := by
  show (l ++ [x]).getD ((l.length : Int).toNat) 0 = x
  rw [Int.toNat_natCast, List.getD_eq_getElem?_getD, List.getElem?_append_right (Nat.le_refl _), Nat.sub_self]; rfl
/-- One step: k bits of v into the last byte, which holds p. -/
theorem lay_byte (v k i : Nat) (p : List Bool) (hv : v < 2 ^ 64) (hk : k + i ≤ 8) (hp : p.length = i) :
    bor .u8 (val p : Int) (IntKind.u8.wrap (shl .u64 (band .u64 (v : Int) (IntKind.u64.wrap (shl .u64 1 (IntKind.u64.wrap (k : Int)) - 1))) (IntKind.u64.wrap (i : Int)))) = (val (p ++ tobits k v) : Int) := by
  have hk8 : (2 : Nat) ^ k ≤ 2 ^ 8 := Nat.pow_le_pow_right (by omega) (by omega)
  have hk1 : 0 < (2 : Nat) ^ k := Nat.pow_pos (by omega)
  have hi1 : 0 < (2 : Nat) ^ i := Nat.pow_pos (by omega)
  have hki : (2 : Nat) ^ k * 2 ^ i ≤ 2 ^ 8 := by rw [← Nat.pow_add]; exact Nat.pow_le_pow_right (by omega) hk
  have e1 : IntKind.u64.wrap (k : Int) = k := wr_u64 (by omega)
  have e2 : IntKind.u64.wrap (i : Int) = i := wr_u64 (by omega)
  have e3 : shl .u64 1 (k : Int) = ((2 ^ k : Nat) : Int) := by
    have := shl_nat' (k := .u64) rfl (a := 1) (n := k) (by simp only [IntKind.bits]; omega)
    simpa using this
  have e4 : IntKind.u64.wrap (((2 ^ k : Nat) : Int) - 1) = ((2 ^ k - 1 : Nat) : Int) := by rw [wr_u64 (by omega)]; omega
  have e5 : band .u64 (v : Int) ((2 ^ k - 1 : Nat) : Int) = ((v % 2 ^ k : Nat) : Int) := by
    have := band_nat (k := .u64) rfl (a := v) (b := 2 ^ k - 1) hv (by simp only [IntKind.bits]; omega)
    rw [Nat.and_two_pow_sub_one_eq_mod] at this
    exact this
  have hm : v % 2 ^ k < 2 ^ k := Nat.mod_lt _ hk1
  have hmi : v % 2 ^ k * 2 ^ i + 2 ^ i ≤ 2 ^ 8 := by
    have : (v % 2 ^ k + 1) * 2 ^ i ≤ 2 ^ k * 2 ^ i := Nat.mul_le_mul_right _ hm
    rw [Nat.add_mul] at this; omega
  have e6 : shl .u64 ((v % 2 ^ k : Nat) : Int) (i : Int) = ((v % 2 ^ k * 2 ^ i : Nat) : Int) := shl_nat' rfl (by simp only [IntKind.bits]; omega)
  have hpv : val p < 2 ^ i := by have := val_lt p; rwa [hp] at this
  rw [e1, e2, e3, e4, e5, e6, wr_u8 (by omega), bor_nat (k := .u8) rfl (by simp only [IntKind.bits]; omega) (by simp only [IntKind.bits]; omega), val_append, val_tobits, hp, Nat.or_comm]
  have := Nat.shiftLeft_add_eq_or_of_lt (i := i) (b := val p) hpv (v % 2 ^ k)
  rw [Nat.shiftLeft_eq] at this
  rw [← this, Nat.add_comm, Nat.mul_comm]

theorem pack_step (s : List Bool) (t : List Bool) (h0 : t ≠ []) (hl : s.length % 8 + t.length ≤ 8) :
    (s.length % 8 = 0 → pack (s ++ t) = pack s ++ [(val t : Int)]) ∧
    (s.length % 8 ≠ 0 → ∃ l p, pack s = l ++ [(val p : Int)] ∧ p.length = s.length % 8 ∧ pack (s ++ t) = l ++ [(val (p ++ t) : Int)]) := by
  constructor
  · intro h
    rw [pack_append (q := s.length / 8) (by omega), pack_short h0 (by omega)]
  · intro h
    have hs : s = s.take (8 * (s.length / 8)) ++ s.drop (8 * (s.length / 8)) := (List.take_append_drop _ _).symm
    have hp : (s.drop (8 * (s.length / 8))).length = s.length % 8 := by rw [List.length_drop]; omega
    have hq : (s.take (8 * (s.length / 8))).length = 8 * (s.length / 8) := by rw [List.length_take]; omega
    have hpn : s.drop (8 * (s.length / 8)) ≠ [] := by intro e; rw [e] at hp; simp at hp; omega
    refine ⟨pack (s.take (8 * (s.length / 8))), s.drop (8 * (s.length / 8)), ?_, hp, ?_⟩
    · conv => lhs; rw [hs]
      rw [pack_append hq, pack_short hpn (by omega)]
    · conv => lhs; rw [hs, List.append_assoc]
      rw [pack_append hq, pack_short (t := s.drop (8 * (s.length / 8)) ++ t) (fun e => hpn (List.append_eq_nil_iff.1 e).1) (by rw [List.length_append]; omega)]

theorem lay_loop (m : Nat) : ∀ (k n v : Nat) (s : List Bool), n ≤ m → m < k → v < 2 ^ 64 → s.length + n ≤ 1099511627776 →
    bits_Writer_lay.l1 k (pack s) (s.length : Int) (v : Int) (n : Int) = some (pack (s ++ tobits n v), ((s.length + n : Nat) : Int)) := by
  induction m with
  | zero =>
    intro k n v s hn hk hv hs
    obtain ⟨k, rfl⟩ : ∃ j, k = j + 1 := ⟨k - 1, by omega⟩
    obtain rfl : n = 0 := by omega
    rw [bits_Writer_lay.l1, if_neg (by omega)]
    simp [tobits]
  | succ m ih =>
    intro k n v s hn hk hv hs
    obtain ⟨k, rfl⟩ : ∃ j, k = j + 1 := ⟨k - 1, by omega⟩
    by_cases hn0 : n = 0
    · subst hn0
      rw [bits_Writer_lay.l1, if_neg (by omega)]
      simp [tobits]
    · have hpl : (pack s).length = (s.length + 7) / 8 := pack_length s
      have e0 : Int.tmod (s.length : Int) 8 = ((s.length % 8 : Nat) : Int) := by rw [Int.tmod_eq_emod_of_nonneg (by omega)]; omega
      generalize hi : s.length % 8 = i at e0
      have e1 : min (IntKind.i64.wrap (8 - (i : Int))) (n : Int) = ((min (8 - i) n : Nat) : Int) := by rw [wr_i64 (by omega)]; omega
      generalize hj : min (8 - i) n = j at e1
      have hj1 : 1 ≤ j ∧ j + i ≤ 8 ∧ j ≤ n := by omega
      have e2 : shr .u64 (v : Int) (IntKind.u64.wrap (j : Int)) = ((v / 2 ^ j : Nat) : Int) := by rw [wr_u64 (by omega)]; exact shr_nat (k := .u64) hv
      have e3 : IntKind.i64.wrap ((n : Int) - (j : Int)) = ((n - j : Nat) : Int) := by rw [wr_i64 (by omega)]; omega
      have hv2 : v / 2 ^ j < 2 ^ 64 := Nat.lt_of_le_of_lt (Nat.div_le_self _ _) hv
      have htn : tobits j v ≠ [] := by intro e; have := congrArg List.length e; rw [tobits_length] at this; simp at this; omega
      have hsplit : tobits n v = tobits j v ++ tobits (n - j) (v / 2 ^ j) := by rw [← tobits_add]; congr 1; omega
      have goal : ∀ l, l = pack (s ++ tobits j v) → bits_Writer_lay.l1 k l (IntKind.i64.wrap ((s.length : Int) + (j : Int))) ((v / 2 ^ j : Nat) : Int) ((n - j : Nat) : Int) = some (pack (s ++ tobits n v), ((s.length + n : Nat) : Int)) := by
        rintro l rfl
        have hsl : (s ++ tobits j v).length = s.length + j := by rw [List.length_append, tobits_length]
        have e4 : IntKind.i64.wrap ((s.length : Int) + (j : Int)) = ((s ++ tobits j v).length : Int) := by rw [wr_i64 (by omega), hsl]; omega
        rw [e4, ih k (n - j) (v / 2 ^ j) (s ++ tobits j v) (by omega) (by omega) hv2 (by rw [hsl]; omega), hsl, hsplit, List.append_assoc]
        congr 3; omega
      have hw : ∀ q : Nat, q < 1099511627776 → IntKind.u64.wrap ((q : Nat) : Int) = q := fun q hq => wr_u64 (by omega)
      rw [bits_Writer_lay.l1, if_pos (by omega), bnd_eq, e0]
      obtain ⟨p1, p2⟩ := pack_step s (tobits j v) htn (by rw [tobits_length]; omega)
      by_cases hi0 : i = 0
      · subst hi0
        have hlen : (pack s ++ [(0 : Int)]).length = (pack s).length + 1 := by simp
        rw [if_pos (show ((0 : Nat) : Int) = 0 from rfl), bnd_eq, gd_pos (by rw [hlen]; omega), Option.bind_some, bnd_eq, e1, gd_pos (by rw [hw j (by omega)]; omega), bnd_eq]
        have e5 : IntKind.i64.wrap (((pack s ++ [(0 : Int)]).length : Int) - 1) = ((pack s).length : Int) := by rw [wr_i64 (by rw [hlen]; omega), hlen]; omega
        rw [e5, gd_pos (by rw [hlen]; omega), gd_pos (by rw [hw 0 (by omega)]; omega), bnd_eq, bnd_eq, e2, bnd_eq, e3]
        apply goal
        rw [Int.toNat_natCast, set_last, rd_last]
        have := lay_byte v j 0 [] hv (by omega) rfl
        rw [show (val [] : Int) = 0 from rfl] at this
        rw [this, p1 hi]
        rfl
      · rw [if_neg (by omega), Option.bind_some, bnd_eq, e1, gd_pos (by rw [hw j (by omega)]; omega), bnd_eq]
        obtain ⟨l, p, hpk, hpl2, hpk2⟩ := p2 (by omega)
        have hlen : (l ++ [(val p : Int)]).length = l.length + 1 := by simp
        have e5 : IntKind.i64.wrap (((l ++ [(val p : Int)]).length : Int) - 1) = (l.length : Int) := by
          have : l.length + 1 = (s.length + 7) / 8 := by rw [← hlen, ← hpk, hpl]
          rw [wr_i64 (by rw [hlen]; omega), hlen]; omega
        rw [hpk, e5, gd_pos (by rw [hlen]; omega), gd_pos (by rw [hw i (by omega)]; omega), bnd_eq, bnd_eq, e2, bnd_eq, e3]
        apply goal
        rw [Int.toNat_natCast, set_last, rd_last, lay_byte v j i p hv (by omega) (by rw [hpl2, hi]), hpk2]

theorem bits_Writer_lay_spec (s : List Bool) (v n : Nat) (hv : v < 2 ^ 64) (hs : s.length + n ≤ 1099511627776) :
    bits_Writer_lay.f (pack s) (s.length : Int) (v : Int) (n : Int) = some (pack (s ++ tobits n v), ((s.length + n : Nat) : Int)) := by
  rw [bits_Writer_lay.f, lay_loop n FU n v s (Nat.le_refl _) (by rw [FU_eq]; omega) hv hs]
  rfl

theorem bits_Writer_Put_spec (s : List Bool) (v : Nat) (n : Int) (hv : v < 2 ^ 32) (hn : -9223372036854775808 ≤ n ∧ n ≤ 9223372036854775807) (hs : s.length ≤ 268435456) :
    bits_Writer_Put.f (pack s) (s.length : Int) (v : Int) n = if 0 ≤ n ∧ n ≤ 32 ∧ v < 2 ^ n.toNat ∧ s.length + n.toNat ≤ 268435456 then some (0, pack (s ++ tobits n.toNat v), ((s ++ tobits n.toNat v).length : Int)) else some (1, pack s, (s.length : Int)) := by
  unfold bits_Writer_Put.f
  by_cases hb : n < 0 ∨ 32 < n
  · rw [if_pos hb, if_neg (by omega)]
    simp
  · obtain ⟨n, rfl⟩ : ∃ m : Nat, n = m := ⟨n.toNat, by omega⟩
    have e0 : IntKind.u64.wrap (n : Int) = n := wr_u64 (by omega)
    have ev : IntKind.u64.wrap (v : Int) = v := wr_u64 (by omega)
    have e2 : shr .u64 (v : Int) (n : Int) = ((v / 2 ^ n : Nat) : Int) := shr_nat (k := .u64) (by simp only [IntKind.bits]; omega)
    have e3 : IntKind.i64.wrap ((s.length : Int) + (n : Int)) = ((s.length + n : Nat) : Int) := by rw [wr_i64 (by omega)]; rfl
    rw [if_neg hb, e0, ev, gd_pos (by omega), e2, e3, Option.bind_some]
    have hd : (v / 2 ^ n = 0) ↔ v < 2 ^ n := Nat.div_eq_zero_iff_lt (Nat.pow_pos (by omega))
    simp only [Int.toNat_natCast]
    by_cases hl : v < 2 ^ n ∧ s.length + n ≤ 268435456
    · have hq : ((v / 2 ^ n : Nat) : Int) = 0 := by rw [hd.2 hl.1]; rfl
      rw [if_neg (by simp only [hq]; simp; omega), if_pos (by omega), bits_Writer_lay_spec s v n (by omega) (by omega), List.length_append, tobits_length]
      rfl
    · have hc : (decide (((v / 2 ^ n : Nat) : Int) ≠ 0) = true) ∨ (268435456 < ((s.length + n : Nat) : Int)) := by
        by_cases h1 : v < 2 ^ n
        · right; omega
        · left
          have : v / 2 ^ n ≠ 0 := fun e => h1 (hd.1 e)
          exact decide_eq_true (by omega)
      rw [if_pos hc, if_neg (by omega)]

theorem put_ok (s : List Bool) (v n : Nat) (hv : v < 2 ^ 32) (hn : n ≤ 32) (hvn : v < 2 ^ n) (hs : s.length + n ≤ 268435456) :
    bits_Writer_Put.f (pack s) (s.length : Int) (v : Int) (n : Int) = some (0, pack (s ++ tobits n v), ((s ++ tobits n v).length : Int)) := by
  rw [bits_Writer_Put_spec s v n hv (by omega) (by omega), if_pos ⟨by omega, by omega, by rw [Int.toNat_natCast]; exact hvn, by rw [Int.toNat_natCast]; exact hs⟩, Int.toNat_natCast]


theorem bits_Writer_Bytes_spec (d : List Int) (n : Int) (h : d.length ≤ 35184372088832) : bits_Writer_Bytes.f d n = some d := by
  unfold bits_Writer_Bytes.f
  by_cases h0 : (d.length : Int) = 0
  · rw [if_pos h0]
    have : d = [] := List.length_eq_zero_iff.1 (by omega)
    rw [this]
  · rw [if_neg h0, gd_pos (by omega), bnd_eq, bnd_eq, cpy_same (by simp)]

theorem bits_NewReader_spec (d : List Int) (h : d.length ≤ 33554432) : bits_NewReader.f d = some (some (d, 0)) := by
  unfold bits_NewReader.f
  rw [if_neg (by omega), gd_pos (by omega), bnd_eq, bnd_eq, cpy_same (by simp)]
/-- The bits of a byte, cut out. -/
theorem cut_byte (x at_ k i : Nat) (hx : x < 256) (hk : i + k ≤ 8) :
    band .u64 (IntKind.u64.wrap (shr .u8 (x : Int) (IntKind.u64.wrap (i : Int)))) (IntKind.u64.wrap (shl .u64 1 (IntKind.u64.wrap (k : Int)) - 1)) = ((x / 2 ^ i % 2 ^ k : Nat) : Int) := by
  have hk8 : (2 : Nat) ^ k ≤ 2 ^ 8 := Nat.pow_le_pow_right (by omega) (by omega)
  have hk1 : 0 < (2 : Nat) ^ k := Nat.pow_pos (by omega)
  have e1 : IntKind.u64.wrap (k : Int) = k := wr_u64 (by omega)
  have e2 : IntKind.u64.wrap (i : Int) = i := wr_u64 (by omega)
  have e3 : shl .u64 1 (k : Int) = ((2 ^ k : Nat) : Int) := by
    have := shl_nat' (k := .u64) rfl (a := 1) (n := k) (by simp only [IntKind.bits]; omega)
    simpa using this
  have e4 : IntKind.u64.wrap (((2 ^ k : Nat) : Int) - 1) = ((2 ^ k - 1 : Nat) : Int) := by rw [wr_u64 (by omega)]; omega
  have e5 : shr .u8 (x : Int) (i : Int) = ((x / 2 ^ i : Nat) : Int) := shr_nat (k := .u8) (by simp only [IntKind.bits]; omega)
  have hd : x / 2 ^ i < 256 := Nat.lt_of_le_of_lt (Nat.div_le_self _ _) hx
  have e6 : band .u64 ((x / 2 ^ i : Nat) : Int) ((2 ^ k - 1 : Nat) : Int) = ((x / 2 ^ i % 2 ^ k : Nat) : Int) := by
    have := band_nat (k := .u64) rfl (a := x / 2 ^ i) (b := 2 ^ k - 1) (by simp only [IntKind.bits]; omega) (by simp only [IntKind.bits]; omega)
    rw [Nat.and_two_pow_sub_one_eq_mod] at this
    exact this
  have e7 : IntKind.u64.wrap ((x / 2 ^ i : Nat) : Int) = ((x / 2 ^ i : Nat) : Int) := by
    generalize x / 2 ^ i = y at hd
    exact wr_u64 (by omega)
  rw [e1, e2, e3, e4, e5, e7, e6]
/-- .. as bits of the string. -/
theorem cut_bits (d : List Int) (hd : ∀ x ∈ d, 0 ≤ x ∧ x < 256) (a k : Nat) (ha : a < 8 * d.length) (hk : a % 8 + k ≤ 8) :
    val (((unpack d).drop a).take k) = (rd d ((a / 8 : Nat) : Int)).toNat / 2 ^ (a % 8) % 2 ^ k := by
  have hq : a / 8 < d.length := by omega
  have hx : d[a / 8]? = some d[a / 8] := List.getElem?_eq_getElem hq
  have e : d = d.take (a / 8) ++ d[a / 8] :: d.drop (a / 8 + 1) := by rw [← drop_cons hx, List.take_append_drop]
  have e2 : unpack d = unpack (d.take (a / 8)) ++ (tobits 8 (d[a / 8]).toNat ++ unpack (d.drop (a / 8 + 1))) := by
    conv => lhs; rw [e]
    rw [unpack_append]
    congr 1
  have e3 : (unpack (d.take (a / 8))).length = 8 * (a / 8) := by rw [unpack_length, List.length_take]; omega
  have e4 : a = 8 * (a / 8) + a % 8 := by omega
  have e5 : (unpack d).drop a = (tobits 8 (d[a / 8]).toNat).drop (a % 8) ++ unpack (d.drop (a / 8 + 1)) := by
    have e6 : (unpack d).drop a = ((unpack d).drop (8 * (a / 8))).drop (a % 8) := by rw [List.drop_drop]; congr 1
    rw [e6, e2, List.drop_left' e3, List.drop_append_of_le_length (by rw [tobits_length]; omega)]
  rw [e5, List.take_append_of_le_length (by rw [List.length_drop, tobits_length]; omega), val_take, val_drop, val_tobits, rd_at hx]
  have hb := hd _ (List.getElem_mem hq)
  rw [Nat.mod_eq_of_lt (a := (d[a / 8]).toNat) (by omega)]

theorem ahead_loop (d : List Int) (hd : ∀ x ∈ d, 0 ≤ x ∧ x < 256) (hl : d.length ≤ 33554432) (n : Nat) (hn : n ≤ 32) (at0 : Nat) (m : Nat) : ∀ (k got v : Nat), n - got ≤ m → m < k → got ≤ n →
    v = val (((unpack d).drop at0).take got) → at0 + got ≤ 8 * d.length →
    bits_Reader_ahead.l1 k (v : Int) (got : Int) ((at0 + got : Nat) : Int) d (n : Int) = some ((val (((unpack d).drop at0).take n) : Nat) : Int) := by
  induction m with
  | zero =>
    intro k got v hm hk hg hv ha
    obtain ⟨k, rfl⟩ : ∃ j, k = j + 1 := ⟨k - 1, by omega⟩
    obtain rfl : got = n := by omega
    rw [bits_Reader_ahead.l1, if_neg (by omega), hv]
  | succ m ih =>
    intro k got v hm hk hg hv ha
    obtain ⟨k, rfl⟩ : ∃ j, k = j + 1 := ⟨k - 1, by omega⟩
    have e8 : IntKind.i64.wrap (8 * (d.length : Int)) = ((8 * d.length : Nat) : Int) := by rw [wr_i64 (by omega)]; omega
    by_cases hc : got < n ∧ at0 + got < 8 * d.length
    · generalize hA : at0 + got = a at *
      have e0 : Int.tmod (a : Int) 8 = ((a % 8 : Nat) : Int) := by rw [Int.tmod_eq_emod_of_nonneg (by omega)]; omega
      have e9 : IntKind.i64.wrap (Int.tdiv (a : Int) 8) = ((a / 8 : Nat) : Int) := by
        rw [Int.tdiv_eq_ediv_of_nonneg (by omega), wr_i64 (by omega)]; omega
      have e1 : min (IntKind.i64.wrap (8 - ((a % 8 : Nat) : Int))) (IntKind.i64.wrap ((n : Int) - (got : Int))) = ((min (8 - a % 8) (n - got) : Nat) : Int) := by
        rw [wr_i64 (by omega), wr_i64 (by omega)]; omega
      generalize hj : min (8 - a % 8) (n - got) = j at e1
      have hj1 : 1 ≤ j ∧ a % 8 + j ≤ 8 ∧ got + j ≤ n := by omega
      have hw : ∀ q : Nat, q < 1099511627776 → IntKind.u64.wrap ((q : Nat) : Int) = q := fun q hq => wr_u64 (by omega)
      have hq : a / 8 < d.length := by omega
      have hx : d[a / 8]? = some d[a / 8] := List.getElem?_eq_getElem hq
      have hb := hd _ (List.getElem_mem hq)
      obtain ⟨x, hxx⟩ : ∃ x : Nat, d[a / 8] = x := ⟨(d[a / 8]).toNat, by omega⟩
      have e2 : rd d ((a / 8 : Nat) : Int) = (x : Int) := by rw [rd_at hx, hxx]
      have e3 := cut_byte x 0 j (a % 8) (by omega) hj1.2.1
      have e4 := cut_bits d hd a j (by omega) hj1.2.1
      rw [e2, Int.toNat_natCast] at e4
      have hlen : (((unpack d).drop at0).take got).length = got := by rw [List.length_take, List.length_drop, unpack_length]; omega
      have hvlt : v < 2 ^ got := by have := val_lt (((unpack d).drop at0).take got); rw [hlen, ← hv] at this; exact this
      have hp32 : (2 : Nat) ^ got ≤ 2 ^ 32 := Nat.pow_le_pow_right (by omega) (by omega)
      have hcl : x / 2 ^ (a % 8) % 2 ^ j < 2 ^ j := Nat.mod_lt _ (Nat.pow_pos (by omega))
      have hgj : (2 : Nat) ^ j * 2 ^ got ≤ 2 ^ 40 := by rw [← Nat.pow_add]; exact Nat.pow_le_pow_right (by omega) (by omega)
      generalize hc0 : x / 2 ^ (a % 8) % 2 ^ j = c at *
      have hcg : c * 2 ^ got + 2 ^ got ≤ 2 ^ 40 := by
        have : (c + 1) * 2 ^ got ≤ 2 ^ j * 2 ^ got := Nat.mul_le_mul_right _ hcl
        rw [Nat.add_mul] at this; omega
      have e5 : shl .u64 (c : Int) (got : Int) = ((c * 2 ^ got : Nat) : Int) := shl_nat' rfl (by simp only [IntKind.bits]; omega)
      have e6 : bor .u64 (v : Int) ((c * 2 ^ got : Nat) : Int) = ((v + 2 ^ got * c : Nat) : Int) := by
        rw [bor_nat (k := .u64) rfl (by simp only [IntKind.bits]; omega) (by simp only [IntKind.bits]; omega), Nat.or_comm]
        have := Nat.shiftLeft_add_eq_or_of_lt (i := got) (b := v) hvlt c
        rw [Nat.shiftLeft_eq] at this
        rw [← this, Nat.add_comm, Nat.mul_comm]
      rw [bits_Reader_ahead.l1, if_pos ⟨by omega, by rw [e8]; omega⟩, bnd_eq, e0, bnd_eq, e1, e9, gd_pos (by omega), gd_pos (by rw [hw _ (by omega)]; omega), gd_pos (by rw [hw _ (by omega)]; omega), bnd_eq, e2, e3, gd_pos (by rw [hw _ (by omega)]; omega), bnd_eq, hw got (by omega), e5, e6, bnd_eq, bnd_eq]
      have e10 : IntKind.i64.wrap ((got : Int) + (j : Int)) = ((got + j : Nat) : Int) := by rw [wr_i64 (by omega)]; omega
      have e11 : IntKind.i64.wrap ((a : Int) + (j : Int)) = ((at0 + (got + j) : Nat) : Int) := by rw [wr_i64 (by omega)]; omega
      rw [e10, e11]
      refine ih k (got + j) (v + 2 ^ got * c) (by omega) (by omega) (by omega) ?_ (by omega)
      have e12 : ((unpack d).drop at0).take (got + j) = ((unpack d).drop at0).take got ++ (((unpack d).drop at0).drop got).take j := by rw [List.take_add]
      rw [e12, val_append, hlen, ← hv, List.drop_drop, hA, e4]
    · rw [bits_Reader_ahead.l1, if_neg (by rw [e8]; omega)]
      congr 2
      by_cases hg2 : got = n
      · rw [hv, hg2]
      · have hL : ((unpack d).drop at0).length ≤ got := by rw [List.length_drop, unpack_length]; omega
        rw [hv, List.take_of_length_le hL, List.take_of_length_le (by omega)]

theorem bits_Reader_ahead_spec (d : List Int) (hd : ∀ x ∈ d, 0 ≤ x ∧ x < 256) (hl : d.length ≤ 33554432) (n : Nat) (hn : n ≤ 32) (a : Nat) (ha : a ≤ 8 * d.length) :
    bits_Reader_ahead.f d (a : Int) (n : Int) = some ((val (((unpack d).drop a).take n) : Nat) : Int) := by
  have := ahead_loop d hd hl n hn a n FU 0 0 (by omega) (by rw [FU_eq]; omega) (by omega) rfl (by omega)
  have h2 : bits_Reader_ahead.l1 FU 0 0 (a : Int) d (n : Int) = _ := this
  rw [bits_Reader_ahead.f, h2, Option.bind_some]
  have h3 := val_lt (((unpack d).drop a).take n)
  have h4 : 2 ^ (((unpack d).drop a).take n).length ≤ 2 ^ 32 := Nat.pow_le_pow_right (by omega) (by simp; omega)
  rw [wr_u32 (by omega)]
theorem bits_Reader_Left_spec (d : List Int) (hl : d.length ≤ 33554432) (a : Nat) (ha : a ≤ 8 * d.length) : bits_Reader_Left.f d (a : Int) = some ((8 * d.length - a : Nat) : Int) := by
  rw [bits_Reader_Left.f, wr_i64 (x := 8 * (d.length : Int)) (by omega), wr_i64 (by omega)]
  congr 1; omega

theorem bits_Reader_Skip_ok (d : List Int) (hl : d.length ≤ 33554432) (n : Nat) (a : Nat) (ha : a + n ≤ 8 * d.length) :
    bits_Reader_Skip.f d (a : Int) (n : Int) = some (0, d, ((a + n : Nat) : Int)) := by
  rw [bits_Reader_Skip.f, if_neg (by omega), bits_Reader_Left_spec d hl a (by omega), Option.bind_some, if_neg (by omega), wr_i64 (by omega)]
  rfl
theorem bits_Reader_Skip_end (d : List Int) (hl : d.length ≤ 33554432) (n : Nat) (a : Nat) (ha : a ≤ 8 * d.length) (h : 8 * d.length < a + n) :
    bits_Reader_Skip.f d (a : Int) (n : Int) = some (30, d, (a : Int)) := by
  rw [bits_Reader_Skip.f, if_neg (by omega), bits_Reader_Left_spec d hl a (by omega), Option.bind_some, if_pos (by omega)]

theorem bits_Reader_Peek_spec (d : List Int) (hd : ∀ x ∈ d, 0 ≤ x ∧ x < 256) (hl : d.length ≤ 33554432) (n : Nat) (hn : n ≤ 32) (a : Nat) (ha : a ≤ 8 * d.length) :
    bits_Reader_Peek.f d (a : Int) (n : Int) = some (((val (((unpack d).drop a).take n) : Nat) : Int), ((min n (8 * d.length - a) : Nat) : Int)) := by
  rw [bits_Reader_Peek.f, if_neg (by omega), bits_Reader_ahead_spec d hd hl n hn a (by omega), Option.bind_some, bits_Reader_Left_spec d hl a (by omega), Option.bind_some]
  congr 2; omega

/-- The low n bits of v, turned round, behind acc. -/
def rev : Nat → Nat → Nat → Nat
  | 0, _, acc => acc
  | n + 1, v, acc => rev n (v / 2) (acc * 2 + v % 2)

theorem rev_acc (n : Nat) : ∀ v acc, rev n v acc = acc * 2 ^ n + rev n v 0 := by
  induction n with
  | zero => intro v acc; simp [rev]
  | succ n ih =>
    intro v acc
    rw [rev, rev, ih, ih (v / 2) (0 * 2 + v % 2), Nat.pow_succ]
    generalize rev n (v / 2) 0 = z
    rw [Nat.add_mul, Nat.add_mul, Nat.mul_assoc, Nat.mul_comm 2 (2 ^ n)]
    simp [Nat.add_assoc]
theorem rev_low (m : Nat) : ∀ v, rev (m + 1) v 0 = v / 2 ^ m % 2 + 2 * rev m v 0 := by
  induction m with
  | zero => intro v; simp [rev]
  | succ m ih =>
    intro v
    rw [rev, rev_acc, ih (v / 2), rev, rev_acc m (v / 2) (0 * 2 + v % 2), Nat.div_div_eq_div_mul, Nat.pow_succ, Nat.mul_comm (2 ^ m) 2]
    rw [Nat.mul_add, ← Nat.mul_assoc, ← Nat.mul_assoc]
    simp only [Nat.zero_mul, Nat.zero_add, Nat.mul_comm, Nat.mul_left_comm]
    omega
theorem rev_lt (n : Nat) : ∀ v acc t, acc < 2 ^ t → rev n v acc < 2 ^ (t + n) := by
  induction n with
  | zero => intro v acc t h; exact h
  | succ n ih =>
    intro v acc t h
    rw [rev, show t + (n + 1) = (t + 1) + n by omega]
    apply ih
    rw [Nat.pow_succ]
    omega

theorem or_low (a b : Nat) (h : b < 2) : a * 2 ||| b = a * 2 + b := by
  have := Nat.shiftLeft_add_eq_or_of_lt (i := 1) (b := b) (by simpa using h) a
  rw [Nat.shiftLeft_eq] at this
  simpa using this.symm

theorem reverse_loop (m : Nat) : ∀ (k v out t : Nat), m < k → v < 2 ^ 32 → out < 2 ^ t → t + m ≤ 32 →
    bits_Reverse.l1 k v out t ((t + m : Nat) : Int) = some ((rev m v out : Nat) : Int) := by
  induction m with
  | zero =>
    intro k v out t hk hv ho ht
    obtain ⟨k, rfl⟩ : ∃ j, k = j + 1 := ⟨k - 1, by omega⟩
    rw [bits_Reverse.l1, if_neg (by omega)]
    simp [rev]
  | succ m ih =>
    intro k v out t hk hv ho ht
    obtain ⟨k, rfl⟩ : ∃ j, k = j + 1 := ⟨k - 1, by omega⟩
    have hp : (2 : Nat) ^ (t + 1) ≤ 2 ^ 32 := Nat.pow_le_pow_right (by omega) (by omega)
    rw [Nat.pow_succ] at hp
    have e1 : shl .u32 (out : Int) (1 : Int) = ((out * 2 : Nat) : Int) := by
      have := shl_nat' (k := .u32) rfl (a := out) (n := 1) (by simp [IntKind.bits]; omega)
      simpa using this
    have e2 : band .u32 (v : Int) (1 : Int) = ((v % 2 : Nat) : Int) := by
      have := band_nat (k := .u32) rfl (a := v) (b := 1) hv (by decide)
      rw [Nat.and_one_is_mod] at this
      exact this
    have e3 : shr .u32 (v : Int) (1 : Int) = ((v / 2 : Nat) : Int) := by
      have := shr_nat (k := .u32) (a := v) (n := 1) hv
      simpa using this
    have e4 : bor .u32 ((out * 2 : Nat) : Int) ((v % 2 : Nat) : Int) = ((out * 2 + v % 2 : Nat) : Int) := by
      rw [bor_nat (k := .u32) rfl (by simp [IntKind.bits]; omega) (by simp [IntKind.bits]; omega), or_low _ _ (by omega)]
    have e5 : IntKind.i64.wrap ((t : Int) + 1) = ((t + 1 : Nat) : Int) := by rw [wr_i64 (by omega)]; rfl
    rw [bits_Reverse.l1, if_pos (by omega), e1, e2, e3, e4, e5]
    simp only [bnd]
    rw [show t + (m + 1) = (t + 1) + m by omega, ih k (v / 2) (out * 2 + v % 2) (t + 1) (by omega) (by omega) (by rw [Nat.pow_succ]; omega) (by omega), rev]

theorem tobits_rev (n : Nat) : ∀ v, tobits n (rev n v 0) = (tobits n v).reverse := by
  induction n with
  | zero => intro v; rfl
  | succ m ih =>
    intro v
    have h2 : (v / 2 ^ m % 2 + 2 * rev m v 0) % 2 = v / 2 ^ m % 2 := by omega
    have h3 : (v / 2 ^ m % 2 + 2 * rev m v 0) / 2 = rev m v 0 := by omega
    rw [rev_low, tobits, h2, h3, ih, tobits_add m 1 v, List.reverse_append]
    rfl
theorem bits_Reverse_spec (v n : Nat) (hn : n ≤ 32) (hv : v < 2 ^ n) : bits_Reverse.f (v : Int) (n : Int) = some (((rev n v 0 : Nat) : Int), 0) := by
  have hp : (2 : Nat) ^ n ≤ 2 ^ 32 := Nat.pow_le_pow_right (by omega) hn
  have hv' : v < 2 ^ 32 := by omega
  have e0 : IntKind.u64.wrap (n : Int) = n := wr_u64 (by omega)
  have ev : IntKind.u64.wrap (v : Int) = v := wr_u64 (by omega)
  have e2 : shr .u64 (v : Int) (n : Int) = 0 := by
    have := shr_nat (k := .u64) (a := v) (n := n) (by simp only [IntKind.bits]; omega)
    rw [Nat.div_eq_of_lt hv] at this; exact this
  have r1 : bits_Reverse.l1 FU v 0 0 n = some ((rev n v 0 : Nat) : Int) := by simpa using reverse_loop n FU v 0 0 (by rw [FU_eq]; omega) hv' (by simp) (by omega)
  rw [bits_Reverse.f, if_neg (by omega), e0, ev, gd_pos (by omega), e2]
  simp only [Option.bind_some, ne_eq, not_true_eq_false, decide_false, Bool.false_eq_true, if_false]
  rw [r1]; rfl

theorem code_none_spec (A B : List Int) (l : Nat → Nat) (n : Nat) (Y : List Int) (w v : Int) : code_Decoder_none.f A B (cl l n) (fsL l n) Y w v = some (decide (0 < v ∧ Y.length = 1 ∧ 0 < w)) := by
  rw [code_Decoder_none.f]
  by_cases c : 0 < v
  · rw [if_pos c, gd_pos (cl_length _ _), gd_pos (fsL_length _ _)]
    simp only [Option.bind_some, decide_eq_true_eq]
    congr 1
    exact decide_eq_decide.2 (by omega)
  · rw [if_neg c]
    simp [c]
theorem code_Next_loop (l : Nat → Nat) (n : Nat) (D : Dec l n) (A B : List Int) (d : List Int) (hd : ∀ x ∈ d, 0 ≤ x ∧ x < 256) (hl : d.length ≤ 33554432) (a : Nat) (ha : a ≤ 8 * d.length)
    (t : List Bool) (ht : t = (unpack d).drop a) (R : Int × Int × List Int × Int)
    (r1 : ∀ s, hits l n t s → R = ((s : Int), 0, d, ((a + l s : Nat) : Int))) (r2 : (∀ s, ¬ hits l n t s) → R = (0, if usedW l n = 1 ∧ 0 < t.length then 55 else 54, d, (a : Int))) (m : Nat) : ∀ (k v : Nat), v + m = 16 → m < k → 1 ≤ v → v - 1 ≤ t.length → (∀ s, hits l n t s → v ≤ l s) → (2 ≤ v → usedW l n ≠ 1) →
    code_Decoder_Next.l1 k (mval (t.take (v - 1)) : Int) (wupto l n v : Int) (v : Int) A B (cl l n) (fsL l n) (symsL l n 16) d (a : Int) (val (t.take 15) : Int) ((min 15 t.length : Nat) : Int) = some (.inl R) := by
  have tl : t.length = 8 * d.length - a := by rw [ht, List.length_drop, unpack_length]
  have hU : (symsL l n 16).length = usedW l n := symsL_used D.ok
  have hn := D.small
  induction m with
  | zero =>
    intro k v hv hk h1 hvt hh hsg
    exfalso
    have full : takeW l n = 2 ^ 15 := by
      rcases D.full with e | e
      · omega
      · exact absurd e.1 (hsg (by omega))
    obtain ⟨s, hs⟩ := hits_full (l := l) (n := n) D.ok full (t := t) (by omega)
    have := hh s hs
    have := D.ok s hs.1
    omega
  | succ m ih =>
    intro k v hv hk h1 hvt hh hsg
    obtain ⟨k, rfl⟩ : ∃ j, k = j + 1 := ⟨k - 1, by omega⟩
    have e1 : IntKind.i64.wrap ((v : Int) - 1) = ((v - 1 : Nat) : Int) := by rw [wr_i64 (by omega)]; omega
    rw [code_Decoder_Next.l1, if_pos (by omega), e1]
    by_cases c : t.length < v
    · have nh : ∀ s, ¬ hits l n t s := fun s hs => by
        have := hh s hs
        have := ((hits_iff D.ok D.take hs.1 hs.2.1).1 hs).1
        omega
      have e2 : (decide (0 < ((v - 1 : Nat) : Int) ∧ (symsL l n 16).length = 1 ∧ (0 : Int) < (mval (t.take (v - 1)) : Int))) = false := decide_eq_false (by
        intro f
        have := hsg (by omega)
        omega)
      rw [if_pos (by omega), code_none_spec, e2, r2 nh]
      simp only [Option.bind_some, Bool.false_eq_true, if_false]
      rw [if_neg (by
        intro f
        have := hsg (by omega)
        omega)]
    · have hvl : v - 1 < t.length := by omega
      have hx : t.take v = t.take (v - 1) ++ [t[v - 1]] := by have := take_step t hvl; rwa [show v - 1 + 1 = v by omega] at this
      have hm : mval (t.take v) = 2 * mval (t.take (v - 1)) + (t[v - 1]).toNat := by rw [hx, mval_snoc]
      have hb : val (t.take 15) / 2 ^ (v - 1) % 2 = (t[v - 1]).toNat := by
        rw [val_bit _ (by rw [List.length_take]; omega), List.getElem_take]
      have hml : mval (t.take (v - 1)) < 2 ^ 15 := by
        have := mval_lt (t.take (v - 1))
        have h2 : 2 ^ (t.take (v - 1)).length ≤ 2 ^ 15 := Nat.pow_le_pow_right (by omega) (by rw [List.length_take]; omega)
        omega
      have hm2 : mval (t.take v) < 65536 := by have : (t[v - 1]).toNat < 2 := Bool.toNat_lt _; omega
      have hz : val (t.take 15) < 2 ^ 32 := by
        have := val_lt (t.take 15)
        have h2 : 2 ^ (t.take 15).length ≤ 2 ^ 15 := Nat.pow_le_pow_right (by omega) (by rw [List.length_take]; omega)
        omega
      have e3 : shr .u32 (val (t.take 15) : Int) ((v - 1 : Nat) : Int) = ((val (t.take 15) / 2 ^ (v - 1) : Nat) : Int) := shr_nat (k := .u32) (by simp only [IntKind.bits]; omega)
      have e4 : band .u32 ((val (t.take 15) / 2 ^ (v - 1) : Nat) : Int) 1 = ((t[v - 1]).toNat : Int) := by
        have h2 : val (t.take 15) / 2 ^ (v - 1) ≤ val (t.take 15) := Nat.div_le_self _ _
        have := band_nat (k := .u32) rfl (a := val (t.take 15) / 2 ^ (v - 1)) (b := 1) (by simp only [IntKind.bits]; omega) (by decide)
        rw [show ((1 : Nat) : Int) = 1 from rfl] at this
        rw [this, Nat.and_one_is_mod, hb]
      have e5 : IntKind.i64.wrap ((t[v - 1]).toNat : Int) = ((t[v - 1]).toNat : Int) := by
        have : (t[v - 1]).toNat < 2 := Bool.toNat_lt _
        exact wr_i64 (by omega)
      have e6 : shl .i64 (mval (t.take (v - 1)) : Int) 1 = ((2 * mval (t.take (v - 1)) : Nat) : Int) := by
        have := shl_i64 (mval (t.take (v - 1))) 1 (by omega) (by omega)
        rw [show ((1 : Nat) : Int) = 1 from rfl, Nat.pow_one, Nat.mul_comm] at this
        exact this
      have e7 := bor_i64 (mval (t.take (v - 1))) t[v - 1] (by omega)
      rw [← hm] at e7
      have hf := fstW_le2 (l := l) hn (v := v) (by omega)
      have hc := cntL_le l v n
      have hw := wupto_le l n v
      have hw2 : v * n ≤ 15 * 288 := Nat.mul_le_mul (by omega) hn
      have e8 : IntKind.i64.wrap ((mval (t.take v) : Int) - (fstW l n v : Int)) = (mval (t.take v) : Int) - (fstW l n v : Int) := wr_i64 (by omega)
      rw [if_neg (by omega), gd_pos (by omega), bnd_eq, e3, e4, e5, e6, e7, gd_pos (by omega), gd_pos (fsL_length _ _), gd_pos (cl_length _ _), bnd_eq, rd_fsL (by omega), rd_cl h1 (by omega), e8]
      by_cases g : fstW l n v ≤ mval (t.take v) ∧ mval (t.take v) < fstW l n v + cntL l v n
      · obtain ⟨s, s1, s2, s3⟩ := D.hit_at h1 (by omega) g
        have hsy := symsL_at s1.1 (by omega) (by omega) (l := l) (n := n) (s := s)
        rw [s2, s3] at hsy
        have hlt := lt_of_at hsy
        have e9 : IntKind.i64.wrap ((wupto l n v : Int) + ((mval (t.take v) : Int) - (fstW l n v : Int))) = ((wupto l n v + (mval (t.take v) - fstW l n v) : Nat) : Int) := by rw [wr_i64 (by omega)]; omega
        rw [if_pos (by omega), bits_Reader_Skip_ok d hl v a (by omega)]
        simp only [Option.bind_some]
        rw [if_neg (by decide), e9, gd_pos (by omega), rd_at hsy, r1 s s1, s2]
      · have nv : ∀ s, hits l n t s → v + 1 ≤ l s := fun s hs => by
          have h3 := hh s hs
          by_cases e : l s = v
          · have := D.at_hit hs; rw [e] at this; exact absurd this g
          · omega
        rw [if_neg (by omega), code_none_spec]
        simp only [Option.bind_some]
        by_cases o : usedW l n = 1
        · have v1 : v = 1 := by
            apply Classical.byContradiction
            intro f; exact hsg (by omega) o
          subst v1
          have pos : 0 < mval (t.take 1) := by
            apply Nat.pos_of_ne_zero
            intro f
            obtain ⟨s, s1, s2⟩ := D.single_hit o (t := t) (by omega) f
            have := nv s s2
            omega
          have nh : ∀ s, ¬ hits l n t s := fun s hs => by
            have := nv s hs
            have := D.single_len o hs.1 hs.2.1
            omega
          have e2 : decide (0 < ((1 : Nat) : Int) ∧ (symsL l n 16).length = 1 ∧ (0 : Int) < (mval (t.take 1) : Int)) = true := decide_eq_true (by omega)
          rw [e2, if_pos rfl, r2 nh, if_pos ⟨o, by omega⟩]
        · have e2 : decide (0 < (v : Int) ∧ (symsL l n 16).length = 1 ∧ (0 : Int) < (mval (t.take v) : Int)) = false := decide_eq_false (by omega)
          have e9 : IntKind.i64.wrap ((wupto l n v : Int) + (cntL l v n : Int)) = ((wupto l n (v + 1) : Nat) : Int) := by rw [wr_i64 (by omega), wupto, if_neg (by omega)]; rfl
          rw [e2, if_neg (by decide), bnd_eq, e9, bnd_eq, inc_i (by omega)]
          exact ih k (v + 1) (by omega) (by omega) (by omega) (by omega) nv (fun _ => o)
theorem code_Next_any (l : Nat → Nat) (n : Nat) (D : Dec l n) (A B : List Int) (d : List Int) (hd : ∀ x ∈ d, 0 ≤ x ∧ x < 256) (hl : d.length ≤ 33554432) (a : Nat) (ha : a ≤ 8 * d.length) (R : Int × Int × List Int × Int)
    (r1 : ∀ s, hits l n ((unpack d).drop a) s → R = ((s : Int), 0, d, ((a + l s : Nat) : Int))) (r2 : (∀ s, ¬ hits l n ((unpack d).drop a) s) → R = (0, if usedW l n = 1 ∧ 0 < ((unpack d).drop a).length then 55 else 54, d, (a : Int))) :
    code_Decoder_Next.f A B (cl l n) (fsL l n) (symsL l n 16) d (a : Int) = some R := by
  have tl : ((unpack d).drop a).length = 8 * d.length - a := by rw [List.length_drop, unpack_length]
  have key := code_Next_loop l n D A B d hd hl a ha _ rfl R r1 r2 15 FU 1 (by omega) (by rw [FU_eq]; omega) (by omega) (by omega) (fun s hs => hs.2.1) (fun h => by omega)
  have e1 : wupto l n 1 = 0 := by simp [wupto]
  rw [e1, tl] at key
  have key' : code_Decoder_Next.l1 FU 0 0 1 A B (cl l n) (fsL l n) (symsL l n 16) d (a : Int) (val (((unpack d).drop a).take 15) : Int) ((min 15 (8 * d.length - a) : Nat) : Int) = some (.inl R) := key
  have hp := bits_Reader_Peek_spec d hd hl 15 (by omega) a ha
  rw [show ((15 : Nat) : Int) = 15 from rfl] at hp
  rw [code_Decoder_Next.f, hp]
  simp only [Option.bind_some]
  rw [key']
  rfl
theorem code_Next_hit {l : Nat → Nat} {n : Nat} (D : Dec l n) (A B : List Int) {d : List Int} (hd : ∀ x ∈ d, 0 ≤ x ∧ x < 256) (hl : d.length ≤ 33554432) {a : Nat} (ha : a ≤ 8 * d.length) {s : Nat} (hs : hits l n ((unpack d).drop a) s) :
    code_Decoder_Next.f A B (cl l n) (fsL l n) (symsL l n 16) d (a : Int) = some ((s : Int), 0, d, ((a + l s : Nat) : Int)) :=
  code_Next_any l n D A B d hd hl a ha _ (fun r hr => by rw [hits_one D.ok D.take hr hs]) (fun f => absurd hs (f s))
theorem code_Next_miss {l : Nat → Nat} {n : Nat} (D : Dec l n) (A B : List Int) {d : List Int} (hd : ∀ x ∈ d, 0 ≤ x ∧ x < 256) (hl : d.length ≤ 33554432) {a : Nat} (ha : a ≤ 8 * d.length) (hs : ∀ s, ¬ hits l n ((unpack d).drop a) s) :
    code_Decoder_Next.f A B (cl l n) (fsL l n) (symsL l n 16) d (a : Int) = some (0, if usedW l n = 1 ∧ 0 < ((unpack d).drop a).length then 55 else 54, d, (a : Int)) :=
  code_Next_any l n D A B d hd hl a ha _ (fun r hr => absurd hr (hs r)) (fun _ => rfl)

/-- The error of a list of which no encoder is made. -/
def encE (lens : List Int) : Int := if badL lens ≠ 0 then badL lens else if shapeW (usedW (ln lens) lens.length) (takeW (ln lens) lens.length) = 2 then 52 else if shapeW (usedW (ln lens) lens.length) (takeW (ln lens) lens.length) = 3 then 51 else 0
theorem code_NewEncoder_spec (lens : List Int) : code_NewEncoder.f lens = some (if encE lens = 0 then (some (lens, wsL (ln lens) lens.length, cl (ln lens) lens.length, fsL (ln lens) lens.length), 0) else (none, encE lens)) := by
  rw [code_NewEncoder.f, code_count_spec]
  by_cases a : badL lens = 0
  · obtain ⟨h1, h2⟩ := badL_ok a
    rw [if_pos a]
    simp only [Option.bind_some]
    rw [gd_pos (cl_length _ _), if_neg (by decide), code_shape_spec _ _ h1 (fun j _ => ln_le h2 j)]
    simp only [Option.bind_some]
    have eD : encE lens = if shapeW (usedW (ln lens) lens.length) (takeW (ln lens) lens.length) = 2 then 52 else if shapeW (usedW (ln lens) lens.length) (takeW (ln lens) lens.length) = 3 then 51 else 0 := by
      unfold encE; rw [if_neg (fun f => f a)]
    rw [eD]
    generalize shapeW (usedW (ln lens) lens.length) (takeW (ln lens) lens.length) = S
    rw [code_refused_spec]
    simp only [Option.bind_some]
    by_cases c2 : S = 2
    · rw [if_pos c2]; rfl
    · rw [if_neg c2]
      by_cases c3 : S = 3
      · rw [if_pos c3]; rfl
      · rw [if_neg c3, if_neg (by decide), if_pos rfl, code_makeTable_spec lens h1 h2]
        simp only [Option.bind_some]
        rw [gd_pos (cl_length _ _), gd_pos (fsL_length _ _)]
  · rw [if_neg a]
    simp only [Option.bind_some]
    have eD : encE lens = badL lens := by unfold encE; rw [if_pos a]
    rw [gd_pos (by simp), if_pos a, eD, if_neg a]
theorem encE_ok {lens : List Int} (h : encE lens = 0) : lens.length ≤ 288 ∧ (∀ x ∈ lens, okx x) ∧ takeW (ln lens) lens.length ≤ 32768 := by
  unfold encE at h
  by_cases a : badL lens = 0
  · rw [if_neg (fun f => f a)] at h
    obtain ⟨h1, h2⟩ := badL_ok a
    refine ⟨h1, h2, ?_⟩
    apply Classical.byContradiction
    intro c
    have := shape_over.2 (show 32768 < takeW (ln lens) lens.length by omega)
    rw [this] at h
    simp at h
  · rw [if_pos a] at h; exact absurd h a
theorem encE_dec {lens : List Int} (h : decE lens = 0) : encE lens = 0 := by
  obtain ⟨a, _, b⟩ := decE_ok h
  unfold encE
  rw [if_neg (fun f => f a)]
  rcases b with e | e <;> rw [e] <;> simp
/-- A symbol that has a word. -/
def goodS (lens : List Int) (x : Int) : Prop := 0 ≤ x ∧ x < (lens.length : Int) ∧ 0 < ln lens x.toNat
instance (lens : List Int) (x : Int) : Decidable (goodS lens x) := by unfold goodS; exact inferInstance
/-- The bits that a symbol is put as. -/
def encW (lens : List Int) (x : Int) : List Bool := if goodS lens x then wbits (ln lens) lens.length x.toNat else []
theorem encW_length (lens : List Int) (h : ∀ y ∈ lens, okx y) (x : Int) : (encW lens x).length ≤ 15 := by
  unfold encW
  by_cases c : goodS lens x
  · rw [if_pos c, wbits_length]; exact ln_le h _
  · rw [if_neg c]; simp
theorem code_Len_spec (lens : List Int) (h : ∀ y ∈ lens, okx y) (B C D : List Int) (x : Int) : code_Encoder_Len.f lens B C D x = some (if goodS lens x then (ln lens x.toNat : Int) else 0) := by
  rw [code_Encoder_Len.f]
  by_cases c : x < 0 ∨ (lens.length : Int) ≤ x
  · rw [if_pos c, if_neg (fun g => by unfold goodS at g; omega)]
  · obtain ⟨i, rfl⟩ : ∃ i : Nat, x = i := ⟨x.toNat, by omega⟩
    rw [if_neg c, gd_pos (by omega), rd_ln h (by omega), Int.toNat_natCast]
    by_cases g : goodS lens (i : Int)
    · rw [if_pos g]
    · rw [if_neg g]
      have : ¬ 0 < ln lens i := fun f => g ⟨by omega, by omega, by rw [Int.toNat_natCast]; exact f⟩
      congr 1; omega
theorem code_Put_spec (lens : List Int) (hn : lens.length ≤ 288) (h : ∀ y ∈ lens, okx y) (hT : takeW (ln lens) lens.length ≤ 32768) (C D : List Int) (s : List Bool) (hs : s.length + 15 ≤ 268435456) (x : Int) :
    code_Encoder_Put.f lens (wsL (ln lens) lens.length) C D (pack s) (s.length : Int) x = some (if goodS lens x then 0 else 56, pack (s ++ encW lens x), ((s ++ encW lens x).length : Int)) := by
  rw [code_Encoder_Put.f, code_Len_spec lens h]
  simp only [Option.bind_some]
  unfold encW
  by_cases g : goodS lens x
  · obtain ⟨g1, g2, g3⟩ := id g
    obtain ⟨i, rfl⟩ : ∃ i : Nat, x = i := ⟨x.toNat, by omega⟩
    rw [Int.toNat_natCast] at g3
    rw [if_pos g, if_pos g, if_pos g, Int.toNat_natCast]
    have hil : i < lens.length := by omega
    have h15 := ln_le h i
    have hw := word_lt (fun j _ => ln_le h j) hT hil g3
    have hp : 2 ^ ln lens i ≤ 2 ^ 15 := Nat.pow_le_pow_right (by omega) h15
    have e1 : IntKind.u32.wrap (wordW (ln lens) lens.length i : Int) = (wordW (ln lens) lens.length i : Int) := wrap_nat (k := .u32) rfl (by simp only [IntKind.bits]; omega)
    have hr := rev_lt (ln lens i) (wordW (ln lens) lens.length i) 0 0 (by simp)
    rw [Nat.zero_add] at hr
    rw [if_neg (by omega), gd_pos (by rw [wsL_length]; omega), rd_wsL hil, if_pos g3, e1, bits_Reverse_spec _ _ (by omega) hw]
    simp only [Option.bind_some]
    rw [if_neg (by decide), put_ok s _ _ (by omega) (by omega) hr (by omega), tobits_rev]
    rfl
  · rw [if_neg g, if_neg g, if_neg g, List.append_nil]
    simp only [if_true]
theorem good_hits {lens : List Int} {x : Int} (g : goodS lens x) (z : List Bool) : hits (ln lens) lens.length (encW lens x ++ z) x.toNat := by
  obtain ⟨g1, g2, g3⟩ := id g
  unfold encW
  rw [if_pos g]
  exact ⟨by omega, g3, List.prefix_append _ _⟩
theorem flat_le (lens : List Int) (h : ∀ y ∈ lens, okx y) (xs : List Int) : (xs.flatMap (encW lens)).length ≤ 15 * xs.length := by
  induction xs with
  | nil => simp
  | cons x r ih => have := encW_length lens h x; simp only [List.flatMap_cons, List.length_append, List.length_cons]; omega


theorem two_dec : code_NewDecoder.f [1, 1] = some (some ([1, 1], wsL (ln [1, 1]) [(1 : Int), 1].length, cl (ln [1, 1]) [(1 : Int), 1].length, fsL (ln [1, 1]) [(1 : Int), 1].length, symsL (ln [1, 1]) [(1 : Int), 1].length 16), 0) := by
  rw [code_NewDecoder_spec, if_pos (by decide)]
/-- A list of which an encoder is made. -/
structure En (lens : List Int) : Prop where
  small : lens.length ≤ 288
  ok : ∀ y ∈ lens, okx y
  take : takeW (ln lens) lens.length ≤ 32768
theorem put_loop (one two : List Int) (E1 : En one) (E2 : En two) (C1 D1 C2 D2 : List Int) (sy : List Int) (hsy : sy.length ≤ 16777216) (m : Nat) : ∀ (k i : Nat), i + m = sy.length → m < k →
    valiselaw5_CodeTurns.l1 k (pack ((sy.take i).flatMap (encW one))) (pack ((sy.take i).flatMap (encW two))) (((sy.take i).flatMap (encW one)).length : Int) (((sy.take i).flatMap (encW two)).length : Int) (i : Int) sy one (wsL (ln one) one.length) C1 D1 two (wsL (ln two) two.length) C2 D2 =
      some (pack (sy.flatMap (encW one)), pack (sy.flatMap (encW two)), ((sy.flatMap (encW one)).length : Int), ((sy.flatMap (encW two)).length : Int)) := by
  induction m with
  | zero =>
    intro k i hi hk
    obtain ⟨k, rfl⟩ : ∃ j, k = j + 1 := ⟨k - 1, by omega⟩
    rw [valiselaw5_CodeTurns.l1, if_neg (by omega), List.take_of_length_le (by omega)]
  | succ m ih =>
    intro k i hi hk
    obtain ⟨k, rfl⟩ : ∃ j, k = j + 1 := ⟨k - 1, by omega⟩
    have hx : sy[i]? = some sy[i] := List.getElem?_eq_getElem (by omega)
    have f1 := flat_le one E1.ok (sy.take i)
    have f2 := flat_le two E2.ok (sy.take i)
    rw [List.length_take] at f1 f2
    rw [valiselaw5_CodeTurns.l1, if_pos (by omega), gd_pos (by omega), rd_at hx, code_Put_spec one E1.small E1.ok E1.take C1 D1 _ (by omega), code_Put_spec two E2.small E2.ok E2.take C2 D2 _ (by omega)]
    simp only [Option.bind_some]
    have e : sy.take (i + 1) = sy.take i ++ [sy[i]] := by rw [List.take_add_one, hx]; rfl
    have e1 : (sy.take i).flatMap (encW one) ++ encW one sy[i] = (sy.take (i + 1)).flatMap (encW one) := by rw [e, List.flatMap_append]; simp
    have e2 : (sy.take i).flatMap (encW two) ++ encW two sy[i] = (sy.take (i + 1)).flatMap (encW two) := by rw [e, List.flatMap_append]; simp
    rw [bnd_eq, inc_i (by omega), e1, e2]
    exact ih k (i + 1) (by omega) (by omega)
theorem reads_spec (lens : List Int) (hok : ∀ y ∈ lens, okx y) (D : Dec (ln lens) lens.length) (A B W C F : List Int) (d : List Int) (hd : ∀ x ∈ d, 0 ≤ x ∧ x < 256) (hl : d.length ≤ 33554432) (a : Nat) (ha : a ≤ 8 * d.length) (x : Int) (z : List Bool) (hu : (unpack d).drop a = encW lens x ++ z) :
    valiselaw5_reads.f A B (cl (ln lens) lens.length) (fsL (ln lens) lens.length) (symsL (ln lens) lens.length 16) d (a : Int) lens W C F x = some (true, d, ((a + (encW lens x).length : Nat) : Int)) := by
  rw [valiselaw5_reads.f, code_Len_spec lens hok]
  simp only [Option.bind_some]
  by_cases g : goodS lens x
  · have hh := good_hits g z
    have ew : (encW lens x).length = ln lens x.toNat := by unfold encW; rw [if_pos g, wbits_length]
    have g3 := g.2.2
    rw [if_pos g, if_neg (by omega), code_Next_hit D A B hd hl ha (s := x.toNat) (by rw [hu]; exact hh)]
    simp only [Option.bind_some]
    rw [Int.toNat_of_nonneg g.1, ew]
    simp
  · have e0 : encW lens x = [] := by unfold encW; rw [if_neg g]
    rw [if_neg g, if_pos rfl, e0]
    rfl
theorem next_loop (one two : List Int) (k1 : ∀ y ∈ one, okx y) (k2 : ∀ y ∈ two, okx y) (E1 : Dec (ln one) one.length) (E2 : Dec (ln two) two.length) (A1 B1 A2 B2 W1 C1 D1 W2 C2 D2 d1 d2 : List Int) (hd1 : ∀ x ∈ d1, 0 ≤ x ∧ x < 256) (hl1 : d1.length ≤ 33554432) (hd2 : ∀ x ∈ d2, 0 ≤ x ∧ x < 256) (hl2 : d2.length ≤ 33554432) (sy : List Int) (hsy : sy.length ≤ 16777216) (z1 z2 : List Bool) (m : Nat) : ∀ (k i a b : Nat), i + m = sy.length → m < k → (unpack d1).drop a = (sy.drop i).flatMap (encW one) ++ z1 → (unpack d2).drop b = (sy.drop i).flatMap (encW two) ++ z2 → a ≤ 8 * d1.length → b ≤ 8 * d2.length →
    valiselaw5_CodeTurns.l3 k d1 d2 (a : Int) (b : Int) (i : Int) sy one W1 C1 D1 two W2 C2 D2 A1 B1 (cl (ln one) one.length) (fsL (ln one) one.length) (symsL (ln one) one.length 16) A2 B2 (cl (ln two) two.length) (fsL (ln two) two.length) (symsL (ln two) two.length 16) =
      some (.inr (d1, d2, ((a + ((sy.drop i).flatMap (encW one)).length : Nat) : Int), ((b + ((sy.drop i).flatMap (encW two)).length : Nat) : Int))) := by
  induction m with
  | zero =>
    intro k i a b hi hk hu1 hu2 ha hb
    obtain ⟨k, rfl⟩ : ∃ j, k = j + 1 := ⟨k - 1, by omega⟩
    rw [valiselaw5_CodeTurns.l3, if_neg (by omega), List.drop_of_length_le (by omega)]
    rfl
  | succ m ih =>
    intro k i a b hi hk hu1 hu2 ha hb
    obtain ⟨k, rfl⟩ : ∃ j, k = j + 1 := ⟨k - 1, by omega⟩
    have hx : sy[i]? = some sy[i] := List.getElem?_eq_getElem (by omega)
    rw [drop_cons hx, List.flatMap_cons, List.append_assoc] at hu1 hu2
    have h1 := congrArg List.length hu1
    have h2 := congrArg List.length hu2
    rw [List.length_drop, unpack_length, List.length_append] at h1 h2
    rw [valiselaw5_CodeTurns.l3, if_pos (by omega), gd_pos (by omega), rd_at hx, reads_spec one k1 E1 A1 B1 W1 C1 D1 d1 hd1 hl1 a ha _ _ hu1, reads_spec two k2 E2 A2 B2 W2 C2 D2 d2 hd2 hl2 b hb _ _ hu2]
    simp only [Option.bind_some]
    rw [if_pos trivial, if_neg (by simp), bnd_eq, inc_i (by omega), ih k (i + 1) _ _ (by omega) (by omega) (by rw [← List.drop_drop, hu1, List.drop_left]) (by rw [← List.drop_drop, hu2, List.drop_left]) (by omega) (by omega)]
    rw [drop_cons hx, List.flatMap_cons, List.flatMap_cons, List.length_append, List.length_append]
    congr 3
    congr 1
    congr 1 <;> omega
theorem valiselaw5_CodeTurns_true (one two sy : List Int) (h1 : ∀ x ∈ one, (Lit.int .i64 x).wf = true) (w1 : one.length * 8 ≤ 140737488351232) (h2 : ∀ x ∈ two, (Lit.int .i64 x).wf = true) (w2 : two.length * 8 ≤ 140737488351232) (h3 : ∀ x ∈ sy, (Lit.int .i64 x).wf = true) (w3 : sy.length * 8 ≤ 140737488351232) : valiselaw5_CodeTurns.f one two sy = some true := by
  rw [valiselaw5_CodeTurns.f, copied5 one w1, copied5 two w2]
  simp only [Option.bind_some]
  rw [code_NewEncoder_spec one]
  simp only [Option.bind_some]
  rw [code_NewEncoder_spec two]
  simp only [Option.bind_some]
  rw [code_NewDecoder_spec one]
  simp only [Option.bind_some]
  rw [code_NewDecoder_spec two]
  simp only [Option.bind_some]
  have p2 : ∀ a : List Int, (if decE a = 0 then (some (a, wsL (ln a) a.length, cl (ln a) a.length, fsL (ln a) a.length, symsL (ln a) a.length 16), (0 : Int)) else (none, decE a)).2 = decE a := fun a => by
    by_cases h : decE a = 0
    · rw [if_pos h, h]
    · rw [if_neg h]
  rw [p2 one, p2 two]
  by_cases c : (decE one ≠ 0 ∨ decE two ≠ 0) ∨ 16777216 < (sy.length : Int)
  · rw [if_pos c, two_dec]
    rfl
  · have d3 : decE one = 0 := Classical.byContradiction fun f => c (.inl (.inl f))
    have d4 : decE two = 0 := Classical.byContradiction fun f => c (.inl (.inr f))
    have d1 := encE_dec d3
    have d2 := encE_dec d4
    rw [if_neg c]
    simp only [d1, d2, d3, d4, if_true, onO, Option.bind_some, bits_NewWriter.f, Option.isNone_some, Bool.false_eq_true, if_false]
    obtain ⟨b1, D1, _⟩ := decE_ok d3
    obtain ⟨b2, D2, _⟩ := decE_ok d4
    have k1 := (badL_ok b1).2
    have k2 := (badL_ok b2).2
    have E1 : En one := ⟨(encE_ok d1).1, (encE_ok d1).2.1, (encE_ok d1).2.2⟩
    have E2 : En two := ⟨(encE_ok d2).1, (encE_ok d2).2.1, (encE_ok d2).2.2⟩
    rw [if_neg (by simp)]
    have key := put_loop one two E1 E2 (cl (ln one) one.length) (fsL (ln one) one.length) (cl (ln two) two.length) (fsL (ln two) two.length) sy (by omega) sy.length FU 0 (by omega) (by rw [FU_eq]; omega)
    simp only [List.take_zero, List.flatMap_nil, List.length_nil] at key
    rw [show ((0 : Nat) : Int) = 0 from rfl, pack_nil] at key
    rw [key]
    simp only [Option.bind_some]
    have f1 := flat_le one k1 sy
    have f2 := flat_le two k2 sy
    have p1 := pack_length (sy.flatMap (encW one))
    have p2 := pack_length (sy.flatMap (encW two))
    have u1 := unpack_pack (sy.flatMap (encW one))
    have u2 := unpack_pack (sy.flatMap (encW two))
    rw [bits_Writer_Bytes_spec _ _ (by omega)]
    simp only [Option.bind_some]
    rw [bits_NewReader_spec _ (by omega)]
    simp only [Option.bind_some]
    rw [bits_Writer_Bytes_spec _ _ (by omega)]
    simp only [Option.bind_some]
    rw [bits_NewReader_spec _ (by omega)]
    simp only [Option.bind_some, onO, Option.isNone_some, Bool.false_eq_true, if_false]
    have go := next_loop one two k1 k2 D1 D2 one (wsL (ln one) one.length) two (wsL (ln two) two.length) (wsL (ln one) one.length) (cl (ln one) one.length) (fsL (ln one) one.length) (wsL (ln two) two.length) (cl (ln two) two.length) (fsL (ln two) two.length) (pack (sy.flatMap (encW one))) (pack (sy.flatMap (encW two))) (pack_byte _) (by omega) (pack_byte _) (by omega) sy (by omega) _ _ sy.length FU 0 0 0 (by omega) (by rw [FU_eq]; omega) (by rw [u1]; rfl) (by rw [u2]; rfl) (by omega) (by omega)
    rw [List.drop_zero, show ((0 : Nat) : Int) = 0 from rfl] at go
    rw [go]
    simp only [Option.bind_some, onR, bits_Reader_At.f, bits_Writer_Len.f]
    simp
end Go.V.Pu
