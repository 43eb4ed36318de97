/- The plain law: words of the right lengths, none begins another one, and they stand in the order of lengths and symbols. -/
import Derived.Test.YtfglehdaimgaeaaGCodePrefixPure
import Derived.Test.YtfglehdaimgaeaaQ7
set_option linter.unusedVariables false
set_option linter.unusedSimpArgs false
namespace Go.V.Pu
open Go Go.V

theorem code_count_loop (lens : List Int) (hl : lens.length ≤ 288) (m : Nat) : ∀ (k i : Nat), i + m = lens.length → m < k → (∀ j x, j < i → lens[j]? = some x → okx x) →
    code_count.l1 k (cl0 (ln lens) i) (i : Int) lens = if (∀ x ∈ lens, okx x) then some (.inr (cl0 (ln lens) lens.length)) else some (.inl (List.replicate 16 (0 : Int), 50)) := by
  induction m with
  | zero =>
    intro k i hi hk ho
    obtain ⟨k, rfl⟩ : ∃ j, k = j + 1 := ⟨k - 1, by omega⟩
    have hall : ∀ x ∈ lens, okx x := fun x hx => by
      obtain ⟨j, hj⟩ := List.getElem?_of_mem hx
      exact ho j x (by have := (List.getElem?_eq_some_iff.1 hj).1; omega) hj
    rw [code_count.l1, if_neg (by omega), if_pos hall, show i = lens.length by omega]
  | succ m ih =>
    intro k i hi hk ho
    obtain ⟨k, rfl⟩ : ∃ j, k = j + 1 := ⟨k - 1, by omega⟩
    have hx : lens[i]? = some lens[i] := List.getElem?_eq_getElem (by omega)
    rw [code_count.l1, if_pos (by omega), gd_pos (by omega), bnd_eq, rd_at hx]
    by_cases c : okx lens[i]
    · have c' := c
      unfold okx at c'
      have e : ln lens i = (lens[i]).toNat := ln_at hx
      have hle : ln lens i ≤ 15 := by omega
      have e2 : lens[i] = (ln lens i : Int) := by omega
      have hc := cntL_le (ln lens) (ln lens i) i
      rw [if_neg (by omega), gd_pos (by omega), gd_pos (cl0_length _ _), bnd_eq, e2, rd_cl0 (by omega), wr_i64 (x := (cntL (ln lens) (ln lens i) i : Int) + 1) (by omega), Int.toNat_natCast, cl0_step _ _ hle, inc_i (by omega)]
      exact ih k (i + 1) (by omega) (by omega) (fun j x hj hjx => by
        by_cases e3 : j = i
        · subst e3; rw [hx] at hjx; cases hjx; exact c
        · exact ho j x (by omega) hjx)
    · have c' := c
      unfold okx at c'
      rw [if_pos (by omega), if_neg fun h => c (h _ (List.getElem_mem (by omega)))]
theorem code_count_spec (lens : List Int) : code_count.f lens = some (if badL lens = 0 then (cl (ln lens) lens.length, 0) else (List.replicate 16 (0 : Int), badL lens)) := by
  unfold code_count.f
  by_cases h : 288 < (lens.length : Int)
  · have e : badL lens = 1 := by unfold badL; rw [if_pos (by omega)]
    rw [if_pos h, e, if_neg (by decide)]
  · have key := code_count_loop lens (by omega) lens.length FU 0 (by omega) (by rw [FU_eq]; omega) (fun j x hj => by omega)
    rw [cl0_zero] at key
    have e0 : ((0 : Nat) : Int) = 0 := rfl
    rw [e0] at key
    rw [if_neg h, key]
    by_cases c : ∀ x ∈ lens, okx x
    · rw [if_pos c, if_pos (badL_zero (by omega) c)]
      simp only [Option.bind_some, onR]
      rw [gd_pos (cl0_length _ _), bnd_eq, show (0 : Int).toNat = 0 from rfl, cl_of]
    · have e : badL lens = 50 := by unfold badL; rw [if_neg (by omega), if_neg c]
      rw [if_neg c, e, if_neg (by decide)]
      rfl

theorem code_shape_loop (l : Nat → Nat) (n : Nat) (hn : n ≤ 288) (h : ∀ j, j < n → l j ≤ 15) (m : Nat) : ∀ (k v : Nat), v + m = 16 → m < k → 1 ≤ v →
    code_shape.l1 k (wupto l n v : Int) (upto l n v : Int) (v : Int) (cl l n) = some ((usedW l n : Int), (takeW l n : Int)) := by
  have hW := wupto_all h
  have hT := upto_take h
  have hW2 := usedW_le l n
  have hT2 := takeW_le l n
  have wm : ∀ v, v ≤ 16 → wupto l n v ≤ usedW l n := by
    intro v hv
    rw [← hW]
    have : ∀ d v, v + d = 16 → wupto l n v ≤ wupto l n 16 := by
      intro d
      induction d with
      | zero => intro v hv; rw [show v = 16 by omega]; exact Nat.le_refl _
      | succ d ih => intro v hv; have := ih (v + 1) (by omega); rw [wupto] at this; omega
    exact this (16 - v) v (by omega)
  have um : ∀ v, v ≤ 16 → upto l n v ≤ takeW l n := fun v hv => by rw [← hT]; exact upto_mono l n hv
  induction m with
  | zero =>
    intro k v hv hk h1
    obtain ⟨k, rfl⟩ : ∃ j, k = j + 1 := ⟨k - 1, by omega⟩
    rw [code_shape.l1, if_neg (by omega), show v = 16 by omega, hW, hT]
  | succ m ih =>
    intro k v hv hk h1
    obtain ⟨k, rfl⟩ : ∃ j, k = j + 1 := ⟨k - 1, by omega⟩
    have a := wm (v + 1) (by omega)
    have b := um (v + 1) (by omega)
    rw [wupto, if_neg (by omega)] at a
    rw [upto_succ, if_neg (by omega)] at b
    have e1 : IntKind.i64.wrap (15 - (v : Int)) = ((15 - v : Nat) : Int) := by rw [wr_i64 (by omega)]; omega
    have e2 : shl .i64 (cntL l v n : Int) ((15 - v : Nat) : Int) = ((cntL l v n * 2 ^ (15 - v) : Nat) : Int) := by
      unfold shl
      rw [Int.toNat_natCast, Nat.min_eq_left (by simp only [IntKind.bits]; omega), wr_i64]
      · simp
      · have e3 : (cntL l v n : Int) * 2 ^ (15 - v) = ((cntL l v n * 2 ^ (15 - v) : Nat) : Int) := by simp
        rw [e3]; omega
    have e3 : IntKind.i64.wrap ((wupto l n v : Int) + (cntL l v n : Int)) = (wupto l n (v + 1) : Int) := by rw [wr_i64 (by omega), wupto, if_neg (by omega)]; rfl
    have e4 : IntKind.i64.wrap ((upto l n v : Int) + ((cntL l v n * 2 ^ (15 - v) : Nat) : Int)) = (upto l n (v + 1) : Int) := by rw [wr_i64 (by omega), upto_succ, if_neg (by omega)]; rfl
    rw [code_shape.l1, if_pos (by omega), gd_pos (by omega), gd_pos (cl_length _ _), bnd_eq, rd_cl (by omega) (by omega), e1, gd_pos (by omega), bnd_eq, e2, e3, e4, bnd_eq, inc_i (by omega)]
    exact ih k (v + 1) (by omega) (by omega) (by omega)
theorem code_shape_spec (l : Nat → Nat) (n : Nat) (hn : n ≤ 288) (h : ∀ j, j < n → l j ≤ 15) : code_shape.f (cl l n) = some (shapeW (usedW l n) (takeW l n)) := by
  have key := code_shape_loop l n hn h 15 FU 1 (by omega) (by rw [FU_eq]; omega) (by omega)
  have key' : code_shape.l1 FU 0 0 1 (cl l n) = some ((usedW l n : Int), (takeW l n : Int)) := key
  rw [code_shape.f, key']
  simp only [Option.bind_some]
  unfold shapeW
  by_cases h0 : usedW l n = 0
  · rw [if_pos (by omega), if_pos h0]
  · rw [if_neg (by omega), if_neg h0]
    by_cases h1 : usedW l n = 1
    · have e1 : rd (cl l n) 1 = (cntL l 1 n : Int) := rd_cl (v := 1) (by omega) (by omega)
      rw [if_pos (by omega), gd_pos (cl_length _ _), e1]
      simp only [Option.bind_some]
      have hs := single_iff h1
      by_cases h2 : takeW l n = 16384
      · have := hs.2 h2
        rw [if_pos (by simp; omega), if_pos ⟨h1, h2⟩]
      · have : ¬ cntL l 1 n = 1 := fun e => h2 (hs.1 e)
        rw [if_neg (by simp; omega), if_neg (show ¬ (usedW l n = 1 ∧ takeW l n = 16384) by omega)]
        by_cases h3 : 32768 < takeW l n
        · rw [if_pos (by omega), if_pos h3]
        · rw [if_neg (by omega), if_neg h3]
          by_cases h4 : takeW l n = 32768
          · rw [if_pos (by omega), if_pos h4]
          · rw [if_neg (by omega), if_neg h4]
    · rw [if_neg (by omega)]
      simp only [Option.bind_some, Bool.false_eq_true, if_false]
      rw [if_neg (show ¬ (usedW l n = 1 ∧ takeW l n = 16384) by omega)]
      by_cases h3 : 32768 < takeW l n
      · rw [if_pos (by omega), if_pos h3]
      · rw [if_neg (by omega), if_neg h3]
        by_cases h4 : takeW l n = 32768
        · rw [if_pos (by omega), if_pos h4]
        · rw [if_neg (by omega), if_neg h4]

theorem code_first_loop (l : Nat → Nat) (n : Nat) (hn : n ≤ 288) (m : Nat) : ∀ (k v : Nat), v + m = 16 → m < k → 1 ≤ v →
    code_first.l1 k ((List.range 16).map fun u => if u < v then (fstW l n u : Int) else 0) (fstW l n (v - 1) : Int) (v : Int) (cl l n) = some (fsL l n) := by
  induction m with
  | zero =>
    intro k v hv hk h1
    obtain ⟨k, rfl⟩ : ∃ j, k = j + 1 := ⟨k - 1, by omega⟩
    rw [code_first.l1, if_neg (by omega)]
    congr 1
    unfold fsL
    refine List.map_congr_left fun u hu => if_pos ?_
    have := List.mem_range.1 hu; omega
  | succ m ih =>
    intro k v hv hk h1
    obtain ⟨k, rfl⟩ : ∃ j, k = j + 1 := ⟨k - 1, by omega⟩
    obtain ⟨u, rfl⟩ : ∃ u, v = u + 1 := ⟨v - 1, by omega⟩
    have e1 : IntKind.i64.wrap (((u + 1 : Nat) : Int) - 1) = (u : Int) := by rw [wr_i64 (by omega)]; omega
    have hf := fstW_le2 (l := l) hn (v := u) (by omega)
    have hc := cntL_le l u n
    have e2 : rd (cl l n) (u : Int) = ((if u = 0 then 0 else cntL l u n : Nat) : Int) := by
      unfold cl
      rw [rd_map (by omega)]
      split <;> simp
    have hx : (if u = 0 then 0 else cntL l u n : Nat) ≤ n := by split <;> omega
    have e3 : shl .i64 (IntKind.i64.wrap ((fstW l n u : Int) + ((if u = 0 then 0 else cntL l u n : Nat) : Int))) 1 = (fstW l n (u + 1) : Int) := by
      rw [wr_i64 (by omega)]
      unfold shl
      rw [show min (1 : Int).toNat IntKind.i64.bits = 1 from rfl, wr_i64 (by omega)]
      simp only [fstW]; omega
    rw [code_first.l1, if_pos (by omega), e1, gd_pos (by omega), gd_pos (cl_length _ _), bnd_eq, Nat.add_sub_cancel, e2, e3, gd_pos (by omega), gd_pos (by simp), bnd_eq, bnd_eq, Int.toNat_natCast, map_set, inc_i (by omega)]
    have e4 : ((List.range 16).map fun w => if w = u + 1 then (fstW l n (u + 1) : Int) else if w < u + 1 then (fstW l n w : Int) else 0) = (List.range 16).map fun w => if w < u + 1 + 1 then (fstW l n w : Int) else 0 := by
      refine List.map_congr_left fun w hw => ?_
      by_cases c : w = u + 1
      · subst c; rw [if_pos rfl, if_pos (by omega)]
      · rw [if_neg c]
        by_cases d : w < u + 1
        · rw [if_pos d, if_pos (by omega)]
        · rw [if_neg d, if_neg (by omega)]
    rw [e4]
    exact ih k (u + 1 + 1) (by omega) (by omega) (by omega)
theorem code_first_spec (l : Nat → Nat) (n : Nat) (hn : n ≤ 288) : code_first.f (cl l n) = some (fsL l n) := by
  have key := code_first_loop l n hn 15 FU 1 (by omega) (by rw [FU_eq]; omega) (by omega)
  have e : ((List.range 16).map fun u => if u < 1 then (fstW l n u : Int) else 0) = List.replicate 16 (0 : Int) := by
    rw [zeros_map]
    refine List.map_congr_left fun u hu => ?_
    by_cases c : u < 1
    · rw [if_pos c, show u = 0 by omega]; rfl
    · rw [if_neg c]
  rw [e] at key
  have key' : code_first.l1 FU (List.replicate 16 (0 : Int)) 0 1 (cl l n) = some (fsL l n) := key
  rw [code_first.f, key']
  simp only [Option.bind_some]
  rw [gd_pos (fsL_length _ _)]
theorem code_words_loop (lens : List Int) (hn : lens.length ≤ 288) (h : ∀ x ∈ lens, okx x) (m : Nat) : ∀ (k i : Nat), i + m = lens.length → m < k →
    code_words.l1 k ((List.range lens.length).map fun j => if j < i ∧ 0 < ln lens j then (wordW (ln lens) lens.length j : Int) else 0) ((List.range 16).map fun v => (fstW (ln lens) lens.length v : Int) + if v = 0 then 0 else (cntL (ln lens) v i : Int)) (i : Int) lens = some (wsL (ln lens) lens.length) := by
  induction m with
  | zero =>
    intro k i hi hk
    obtain ⟨k, rfl⟩ : ∃ j, k = j + 1 := ⟨k - 1, by omega⟩
    rw [code_words.l1, if_neg (by omega)]
    congr 1
    unfold wsL
    refine List.map_congr_left fun j hj => ?_
    have := List.mem_range.1 hj
    by_cases c : 0 < ln lens j
    · rw [if_pos c, if_pos ⟨by omega, c⟩]
    · rw [if_neg c, if_neg (by omega)]
  | succ m ih =>
    intro k i hi hk
    obtain ⟨k, rfl⟩ : ∃ j, k = j + 1 := ⟨k - 1, by omega⟩
    have hle := ln_le h i
    rw [code_words.l1, if_pos (by omega), gd_pos (by omega), bnd_eq, rd_ln h (by omega)]
    by_cases c : 0 < ln lens i
    · have hf := fstW_le2 (l := ln lens) hn hle
      have hc := cntL_le (ln lens) (ln lens i) i
      have e1 : rd ((List.range 16).map fun v => (fstW (ln lens) lens.length v : Int) + if v = 0 then 0 else (cntL (ln lens) v i : Int)) (ln lens i : Int) = (wordW (ln lens) lens.length i : Int) := by
        rw [rd_map (by omega), if_neg (by omega)]; unfold wordW; omega
      have hw : wordW (ln lens) lens.length i = fstW (ln lens) lens.length (ln lens i) + cntL (ln lens) (ln lens i) i := rfl
      rw [if_pos (by omega), gd_pos (by omega), gd_pos (by simp), gd_pos (by simp; omega), bnd_eq, bnd_eq, e1, wr_i64 (x := (wordW (ln lens) lens.length i : Int) + 1) (by omega), Int.toNat_natCast, Int.toNat_natCast, map_set, map_set]
      simp only [Option.bind_some]
      rw [inc_i (by omega)]
      have e2 : ((List.range lens.length).map fun j => if j = i then (wordW (ln lens) lens.length i : Int) else if j < i ∧ 0 < ln lens j then (wordW (ln lens) lens.length j : Int) else 0) = (List.range lens.length).map fun j => if j < i + 1 ∧ 0 < ln lens j then (wordW (ln lens) lens.length j : Int) else 0 := by
        refine List.map_congr_left fun j hj => ?_
        by_cases e : j = i
        · subst e; rw [if_pos rfl, if_pos ⟨by omega, c⟩]
        · rw [if_neg e]
          by_cases d : j < i ∧ 0 < ln lens j
          · rw [if_pos d, if_pos ⟨by omega, d.2⟩]
          · rw [if_neg d, if_neg (by omega)]
      have e3 : ((List.range 16).map fun v => if v = ln lens i then (wordW (ln lens) lens.length i : Int) + 1 else (fstW (ln lens) lens.length v : Int) + if v = 0 then 0 else (cntL (ln lens) v i : Int)) = (List.range 16).map fun v => (fstW (ln lens) lens.length v : Int) + if v = 0 then 0 else (cntL (ln lens) v (i + 1) : Int) := by
        refine List.map_congr_left fun v hv => ?_
        by_cases e : v = ln lens i
        · subst e
          rw [if_pos rfl, if_neg (by omega), cntL_succ, if_pos rfl, hw]; omega
        · rw [if_neg e, cntL_succ, if_neg (show ¬ ln lens i = v from fun e' => e e'.symm)]; rfl
      rw [e2, e3]
      exact ih k (i + 1) (by omega) (by omega)
    · rw [if_neg (by omega)]
      simp only [Option.bind_some]
      rw [inc_i (by omega)]
      have e2 : ((List.range lens.length).map fun j => if j < i ∧ 0 < ln lens j then (wordW (ln lens) lens.length j : Int) else 0) = (List.range lens.length).map fun j => if j < i + 1 ∧ 0 < ln lens j then (wordW (ln lens) lens.length j : Int) else 0 := by
        refine List.map_congr_left fun j hj => ?_
        by_cases d : j < i ∧ 0 < ln lens j
        · rw [if_pos d, if_pos ⟨by omega, d.2⟩]
        · rw [if_neg d, if_neg (fun d' => d ⟨by
            apply Classical.byContradiction
            intro h3
            have : j = i := by omega
            subst this; exact c d'.2, d'.2⟩)]
      have e3 : ((List.range 16).map fun v => (fstW (ln lens) lens.length v : Int) + if v = 0 then 0 else (cntL (ln lens) v i : Int)) = (List.range 16).map fun v => (fstW (ln lens) lens.length v : Int) + if v = 0 then 0 else (cntL (ln lens) v (i + 1) : Int) := by
        refine List.map_congr_left fun v hv => ?_
        by_cases e : v = 0
        · rw [if_pos e, if_pos e]
        · rw [if_neg e, if_neg e, cntL_succ, if_neg (by omega)]; rfl
      rw [e2, e3]
      exact ih k (i + 1) (by omega) (by omega)
theorem code_words_spec (lens : List Int) (hn : lens.length ≤ 288) (h : ∀ x ∈ lens, okx x) : code_words.f lens (fsL (ln lens) lens.length) = some (wsL (ln lens) lens.length) := by
  have key := code_words_loop lens hn h lens.length FU 0 (by omega) (by rw [FU_eq]; omega)
  have e1 : ((List.range lens.length).map fun j => if j < 0 ∧ 0 < ln lens j then (wordW (ln lens) lens.length j : Int) else 0) = List.replicate lens.length (0 : Int) := by
    rw [zeros_map]
    exact List.map_congr_left fun j _ => if_neg (by omega)
  have e2 : ((List.range 16).map fun v => (fstW (ln lens) lens.length v : Int) + if v = 0 then 0 else (cntL (ln lens) v 0 : Int)) = fsL (ln lens) lens.length := by
    unfold fsL
    refine List.map_congr_left fun v _ => ?_
    split <;> simp [cntL, sumN]
  rw [e1, e2] at key
  have key' : code_words.l1 FU (List.replicate lens.length (0 : Int)) (fsL (ln lens) lens.length) 0 lens = _ := key
  rw [code_words.f, gd_pos (by omega), bnd_eq, Int.toNat_natCast, key']
  rfl

theorem code_Codes_spec (lens : List Int) : code_Codes.f lens = some (if badL lens = 0 then (if 32768 < takeW (ln lens) lens.length then ([], 51) else (wsL (ln lens) lens.length, 0)) else ([], badL lens)) := by
  rw [code_Codes.f, code_count_spec]
  by_cases h : badL lens = 0
  · obtain ⟨h1, h2⟩ := badL_ok h
    rw [if_pos h, if_pos h]
    simp only [Option.bind_some]
    rw [gd_pos (cl_length _ _), if_neg (by decide), code_shape_spec _ _ h1 (fun j _ => ln_le h2 j)]
    simp only [Option.bind_some]
    by_cases c : 32768 < takeW (ln lens) lens.length
    · rw [if_pos (shape_over.2 c), if_pos c]
    · rw [if_neg (fun e => c (shape_over.1 e)), if_neg c, code_first_spec _ _ h1]
      simp only [Option.bind_some]
      rw [code_words_spec lens h1 h2]
      rfl
  · rw [if_neg h, if_neg h]
    simp only [Option.bind_some]
    rw [gd_pos (by simp), if_pos h]

theorem copied5 (a : List Int) (h : a.length * 8 ≤ 140737488351232) : valiselaw5_copied.f a = some a := by
  have e : IntKind.i64.wrap ((a.length : Int) + 4) = ((a.length + 4 : Nat) : Int) := by rw [wr_i64 (by omega)]; rfl
  have hc : cpy (List.replicate ((a.length : Int)).toNat (0 : Int)) a = a := by
    unfold cpy
    rw [List.length_replicate, Int.toNat_natCast, List.take_length, List.drop_eq_nil_of_le (by simp), List.append_nil]
  rw [valiselaw5_copied.f, e, gd_pos (by omega), gd_pos (by omega), bnd_eq, bnd_eq, hc]


theorem begins_loop (m : Nat) : ∀ (k i b : Nat), b < 9223372036854775807 → m < k → i + m ≤ 15 → valiselaw5_begins.l1 k (b : Int) (i : Int) ((i + m : Nat) : Int) = some ((b / 2 ^ m : Nat) : Int) := by
  induction m with
  | zero =>
    intro k i b hb hk hm
    obtain ⟨k, rfl⟩ : ∃ j, k = j + 1 := ⟨k - 1, by omega⟩
    rw [valiselaw5_begins.l1, if_neg (by omega)]; simp
  | succ m ih =>
    intro k i b hb hk hm
    obtain ⟨k, rfl⟩ : ∃ j, k = j + 1 := ⟨k - 1, by omega⟩
    have e : IntKind.i64.wrap (Int.tdiv (b : Int) 2) = ((b / 2 : Nat) : Int) := by rw [Int.tdiv_eq_ediv_of_nonneg (by omega), wr_i64 (by omega)]; omega
    rw [valiselaw5_begins.l1, if_pos (by omega), bnd_eq, bnd_eq, e, inc_i (by omega), show i + (m + 1) = i + 1 + m by omega, ih k (i + 1) (b / 2) (by omega) (by omega) (by omega), Nat.div_div_eq_div_mul, Nat.pow_succ, Nat.mul_comm 2]
theorem begins_spec (a l b m : Nat) (hb : b < 9223372036854775807) (hl : l ≤ m) (hm : m ≤ 15) : valiselaw5_begins.f (a : Int) (l : Int) (b : Int) (m : Int) = some (decide (a = b / 2 ^ (m - l))) := by
  have key := begins_loop (m - l) FU l b hb (by rw [FU_eq]; omega) (by omega)
  rw [show l + (m - l) = m by omega] at key
  rw [valiselaw5_begins.f, key]
  simp only [Option.bind_some]
  congr 1
  exact decide_eq_decide.2 ⟨fun h => by omega, fun h => by omega⟩
theorem apart_spec (l a m b : Nat) (e : Bool) (hl : l ≤ 15) (hm : m ≤ 15) (ha : a < 32768) (hb : b < 32768) :
    valiselaw5_apart.f (l : Int) (a : Int) (m : Int) (b : Int) e = some (if l = 0 ∨ m = 0 ∨ m < l then true else if a = b / 2 ^ (m - l) then false else (decide (a * 2 ^ (15 - l) < b * 2 ^ (15 - m)) == (decide (l < m) || e))) := by
  rw [valiselaw5_apart.f]
  by_cases c : l = 0 ∨ m = 0 ∨ m < l
  · rw [if_pos c, if_pos (by omega)]
  · rw [if_neg c, if_neg (by omega), begins_spec a l b m (by omega) (by omega) hm]
    simp only [Option.bind_some]
    by_cases d : a = b / 2 ^ (m - l)
    · rw [if_pos (by simpa using d), if_pos d]
    · rw [if_neg (by simpa using d), if_neg d]
      have e1 : IntKind.u64.wrap (IntKind.i64.wrap (15 - (l : Int))) = ((15 - l : Nat) : Int) := by rw [wr_i64 (by omega), wr_u64 (by omega)]; omega
      have e2 : IntKind.u64.wrap (IntKind.i64.wrap (15 - (m : Int))) = ((15 - m : Nat) : Int) := by rw [wr_i64 (by omega), wr_u64 (by omega)]; omega
      have sh : ∀ x y : Nat, x < 32768 → y ≤ 15 → shl .i64 (x : Int) (y : Int) = ((x * 2 ^ y : Nat) : Int) := by
        intro x y hx hy
        have h1 : x * 2 ^ y ≤ 32768 * 2 ^ 15 := Nat.mul_le_mul (by omega) (Nat.pow_le_pow_right (by omega) hy)
        unfold shl
        have e3 : (x : Int) * 2 ^ min (y : Int).toNat IntKind.i64.bits = ((x * 2 ^ y : Nat) : Int) := by
          rw [Int.toNat_natCast, Nat.min_eq_left (by simp only [IntKind.bits]; omega)]; simp
        rw [e3, wr_i64 (by omega)]
      rw [e1, e2, gd_pos (by omega), gd_pos (by omega), sh a _ ha (by omega), sh b _ hb (by omega)]
      by_cases f : l < m
      · rw [if_pos (by omega)]
        simp only [Option.bind_some]
        congr 2
        · exact decide_eq_decide.2 (by omega)
        · simp [f]
      · rw [if_neg (by omega)]
        simp only [Option.bind_some]
        congr 2
        · exact decide_eq_decide.2 (by omega)
        · simp [f]

theorem sum_loop (lens ws : List Int) (e : Int) (hl : lens.length ≤ 17592186043904) (hbad : badL lens ≠ 0 → (e ≠ 0 ∧ (ws.length : Int) = 0)) (m : Nat) : ∀ (k i : Nat), i + m = lens.length → m < k → (∀ j x, j < i → lens[j]? = some x → okx x) → (0 < i → lens.length ≤ 288) →
    valiselaw5_CodePrefix.l1 k (takeW (ln lens) i : Int) (i : Int) lens ws e = some (if badL lens = 0 then .inr (takeW (ln lens) lens.length : Int) else .inl true) := by
  induction m with
  | zero =>
    intro k i hi hk ho h288
    obtain ⟨k, rfl⟩ : ∃ j, k = j + 1 := ⟨k - 1, by omega⟩
    have h1 : lens.length ≤ 288 := by
      by_cases c : 0 < i
      · exact h288 c
      · omega
    have hall : ∀ x ∈ lens, okx x := fun x hx => by
      obtain ⟨j, hj⟩ := List.getElem?_of_mem hx
      exact ho j x (by have := (List.getElem?_eq_some_iff.1 hj).1; omega) hj
    rw [valiselaw5_CodePrefix.l1, if_neg (by omega), if_pos (badL_zero h1 hall), show i = lens.length by omega]
  | succ m ih =>
    intro k i hi hk ho h288
    obtain ⟨k, rfl⟩ : ∃ j, k = j + 1 := ⟨k - 1, by omega⟩
    have hx : lens[i]? = some lens[i] := List.getElem?_eq_getElem (by omega)
    have wrong : badL lens ≠ 0 → (some (.inl (decide ((e ≠ 0) ∧ ((ws.length : Int) = 0)))) : Option (Sum Bool Int)) = some (if badL lens = 0 then .inr (takeW (ln lens) lens.length : Int) else .inl true) := by
      intro hb
      have := hbad hb
      rw [if_neg hb]; simp [this]
    rw [valiselaw5_CodePrefix.l1, if_pos (by omega)]
    by_cases c0 : 288 < (lens.length : Int)
    · rw [if_pos c0]
      simp only [Option.bind_some, if_true]
      exact wrong (by unfold badL; rw [if_pos (by omega)]; decide)
    · rw [if_neg c0, gd_pos (by omega), gd_pos (by omega), gd_pos (by omega), rd_at hx]
      simp only [Option.bind_some]
      by_cases c : okx lens[i]
      · have c' := c
        unfold okx at c'
        have e1 : ln lens i = (lens[i]).toNat := ln_at hx
        have e2 : lens[i] = (ln lens i : Int) := by omega
        have hT := takeW_le (ln lens) i
        have hU := usedW_le (ln lens) i
        rw [if_neg (by simp; omega)]
        simp only [Option.bind_some]
        rw [if_neg (by simp; omega)]
        have es : takeW (ln lens) (i + 1) = takeW (ln lens) i + (if 0 < ln lens i then 2 ^ (15 - ln lens i) else 0) := rfl
        have go := ih k (i + 1) (by omega) (by omega) (fun j x hj hjx => by
          by_cases e3 : j = i
          · subst e3; rw [hx] at hjx; cases hjx; exact c
          · exact ho j x (by omega) hjx) (fun _ => by omega)
        by_cases c2 : 0 < ln lens i
        · have e3 : IntKind.u64.wrap (IntKind.i64.wrap (15 - (ln lens i : Int))) = ((15 - ln lens i : Nat) : Int) := by rw [wr_i64 (by omega), wr_u64 (by omega)]; omega
          have hp : 2 ^ (15 - ln lens i) ≤ 2 ^ 15 := Nat.pow_le_pow_right (by omega) (by omega)
          have e4 : shl .i64 1 ((15 - ln lens i : Nat) : Int) = ((2 ^ (15 - ln lens i) : Nat) : Int) := shl_one _ (by omega)
          rw [e2, if_pos (by omega), e3, gd_pos (by omega), bnd_eq, e4]
          simp only [Option.bind_some]
          rw [if_pos c2] at es
          have e6 : IntKind.i64.wrap ((takeW (ln lens) i : Int) + ((2 ^ (15 - ln lens i) : Nat) : Int)) = (takeW (ln lens) (i + 1) : Int) := by rw [wr_i64 (by omega), es]; rfl
          rw [e6, bnd_eq, inc_i (by omega)]
          exact go
        · rw [e2, if_neg (by omega)]
          simp only [Option.bind_some]
          rw [if_neg c2] at es
          rw [bnd_eq, inc_i (by omega)]
          rw [es] at go
          exact go
      · have c' := c
        unfold okx at c'
        have hb : badL lens ≠ 0 := by
          unfold badL
          rw [if_neg (by omega), if_neg fun h => c (h _ (List.getElem_mem (by omega)))]; decide
        by_cases c3 : lens[i] < 0
        · rw [if_pos (by simpa using c3)]
          simp only [Option.bind_some, if_true]
          exact wrong hb
        · rw [if_neg (by simpa using c3)]
          simp only [Option.bind_some]
          rw [if_pos (by simp; omega)]
          exact wrong hb

theorem word_small {lens : List Int} (h : ∀ x ∈ lens, okx x) (hT : takeW (ln lens) lens.length ≤ 32768) {i : Nat} (hi : i < lens.length) (h0 : 0 < ln lens i) : wordW (ln lens) lens.length i < 2 ^ ln lens i ∧ 2 ^ ln lens i ≤ 32768 :=
  ⟨word_lt (fun j _ => ln_le h j) hT hi h0, by have := Nat.pow_le_pow_right (n := 2) (by omega) (ln_le h i); omega⟩

theorem inner_loop (lens : List Int) (hl : lens.length ≤ 288) (h : ∀ x ∈ lens, okx x) (hT : takeW (ln lens) lens.length ≤ 32768) (i : Nat) (hi : i < lens.length) (m : Nat) : ∀ (k j : Nat), j + m = lens.length → m < k →
    valiselaw5_CodePrefix.l15 k (j : Int) lens (wsL (ln lens) lens.length) (i : Int) = some (.inr ()) := by
  induction m with
  | zero =>
    intro k j hj hk
    obtain ⟨k, rfl⟩ : ∃ j, k = j + 1 := ⟨k - 1, by omega⟩
    rw [valiselaw5_CodePrefix.l15, if_neg (by omega)]
  | succ m ih =>
    intro k j hj hk
    obtain ⟨k, rfl⟩ : ∃ j, k = j + 1 := ⟨k - 1, by omega⟩
    have hjl : j < lens.length := by omega
    have li := ln_le h i
    have lj := ln_le h j
    generalize hA : (if 0 < ln lens i then wordW (ln lens) lens.length i else 0) = A
    generalize hB : (if 0 < ln lens j then wordW (ln lens) lens.length j else 0) = B
    have rA : rd (wsL (ln lens) lens.length) (i : Int) = (A : Int) := by rw [rd_wsL hi, ← hA]; split <;> rfl
    have rB : rd (wsL (ln lens) lens.length) (j : Int) = (B : Int) := by rw [rd_wsL hjl, ← hB]; split <;> rfl
    have hA2 : A < 32768 := by
      by_cases c : 0 < ln lens i
      · rw [if_pos c] at hA; have := word_small h hT hi c; omega
      · rw [if_neg c] at hA; omega
    have hB2 : B < 32768 := by
      by_cases c : 0 < ln lens j
      · rw [if_pos c] at hB; have := word_small h hT hjl c; omega
      · rw [if_neg c] at hB; omega
    rw [valiselaw5_CodePrefix.l15, if_pos (by omega), gd_pos (by omega), gd_pos (by omega), gd_pos (by rw [wsL_length]; omega), rd_ln h hi, rd_ln h hjl, rA, rB, apart_spec _ _ _ _ _ li lj hA2 hB2]
    simp only [Option.bind_some]
    by_cases e : i = j
    · rw [if_neg (by omega)]
      simp only [Option.bind_some, Bool.false_eq_true, if_false]
      rw [bnd_eq, inc_i (by omega)]
      exact ih k (j + 1) (by omega) (by omega)
    · rw [if_pos (by omega)]
      have ok : (if ln lens i = 0 ∨ ln lens j = 0 ∨ ln lens j < ln lens i then true else if A = B / 2 ^ (ln lens j - ln lens i) then false else (decide (A * 2 ^ (15 - ln lens i) < B * 2 ^ (15 - ln lens j)) == (decide (ln lens i < ln lens j) || decide ((i : Int) < (j : Int))))) = true := by
        by_cases c : ln lens i = 0 ∨ ln lens j = 0 ∨ ln lens j < ln lens i
        · rw [if_pos c]
        · rw [if_neg c]
          rw [if_pos (by omega)] at hA hB
          have hall : ∀ t, t < lens.length → ln lens t ≤ 15 := fun t _ => ln_le h t
          have np := no_prefix hall hi hjl e (by omega) (by omega)
          rw [if_neg (by rw [← hA, ← hB]; exact fun e' => np e'.symm)]
          have pi : 0 < 2 ^ (15 - ln lens i) := Nat.pow_pos (by omega)
          have pj : 0 < 2 ^ (15 - ln lens j) := Nat.pow_pos (by omega)
          have sA : A * 2 ^ (15 - ln lens i) = startW (ln lens) lens.length i := by rw [← hA]; rfl
          have sB : B * 2 ^ (15 - ln lens j) = startW (ln lens) lens.length j := by rw [← hB]; rfl
          rw [sA, sB]
          by_cases d : ahead (ln lens) i j
          · have := ahead_le hi (by omega) li lj d
            have d1 : startW (ln lens) lens.length i < startW (ln lens) lens.length j := by omega
            have d2 : ln lens i < ln lens j ∨ (i : Int) < (j : Int) := by rcases d with d | d; (· exact .inl d); (· exact .inr (by omega))
            rcases d2 with d2 | d2 <;> simp [d1, d2]
          · have d' : ahead (ln lens) j i := (ahead_or e).resolve_left d
            have := ahead_le hjl (by omega) lj li d'
            have d' : ln lens j < ln lens i ∨ ln lens j = ln lens i ∧ j < i := d'
            have d1 : ¬ startW (ln lens) lens.length i < startW (ln lens) lens.length j := by omega
            have d2 : ¬ ln lens i < ln lens j := by omega
            have d3 : ¬ (i : Int) < (j : Int) := by
              intro d4
              rcases d' with d' | d' <;> omega
            simp [d1, d2, d3]
      rw [ok]
      simp only [Option.bind_some, Bool.not_true, Bool.false_eq_true, if_false]
      rw [bnd_eq, inc_i (by omega)]
      exact ih k (j + 1) (by omega) (by omega)

theorem outer_loop (lens : List Int) (hl : lens.length ≤ 288) (h : ∀ x ∈ lens, okx x) (hT : takeW (ln lens) lens.length ≤ 32768) (m : Nat) : ∀ (k i : Nat), i + m = lens.length → m < k →
    valiselaw5_CodePrefix.l13 k (i : Int) lens (wsL (ln lens) lens.length) = some (.inr ()) := by
  induction m with
  | zero =>
    intro k i hi hk
    obtain ⟨k, rfl⟩ : ∃ j, k = j + 1 := ⟨k - 1, by omega⟩
    rw [valiselaw5_CodePrefix.l13, if_neg (by omega)]
  | succ m ih =>
    intro k i hi hk
    obtain ⟨k, rfl⟩ : ∃ j, k = j + 1 := ⟨k - 1, by omega⟩
    have hil : i < lens.length := by omega
    have li := ln_le h i
    have e1 : IntKind.u64.wrap (ln lens i : Int) = (ln lens i : Int) := wr_u64 (by omega)
    have hp : 2 ^ ln lens i ≤ 2 ^ 15 := Nat.pow_le_pow_right (by omega) li
    have e2 : shl .i64 1 (ln lens i : Int) = ((2 ^ ln lens i : Nat) : Int) := shl_one _ (by omega)
    have e3 : ¬ rd (wsL (ln lens) lens.length) (i : Int) < 0 := by rw [rd_wsL hil]; split <;> omega
    have e4 : ¬ ((2 ^ ln lens i : Nat) : Int) ≤ rd (wsL (ln lens) lens.length) (i : Int) := by
      rw [rd_wsL hil]
      have : 0 < 2 ^ ln lens i := Nat.pow_pos (by omega)
      split
      · rename_i c
        have := word_small h hT hil c; omega
      · omega
    rw [valiselaw5_CodePrefix.l13, if_pos (by omega), gd_pos (by rw [wsL_length]; omega), if_neg e3, gd_pos (by omega), rd_ln h hil, e1, gd_pos (by omega), e2]
    simp only [Option.bind_some]
    have key := inner_loop lens hl h hT i hil lens.length FU 0 (by omega) (by rw [FU_eq]; omega)
    rw [show ((0 : Nat) : Int) = 0 from rfl] at key
    rw [if_neg (by simpa using e4), key]
    simp only [Option.bind_some, onR]
    rw [bnd_eq, inc_i (by omega)]
    exact ih k (i + 1) (by omega) (by omega)

theorem valiselaw5_CodePrefix_true (a : List Int) (ha : ∀ x ∈ a, (Lit.int .i64 x).wf = true) (wa : a.length * 8 ≤ 140737488351232) : valiselaw5_CodePrefix.f a = some true := by
  rw [valiselaw5_CodePrefix.f, copied5 a wa]
  simp only [Option.bind_some]
  have three : code_Codes.f [1, 1, 1] = some ([], 51) := by
    rw [code_Codes_spec]
    have h1 : badL [1, 1, 1] = 0 := by decide
    have h2 : takeW (ln [1, 1, 1]) [(1 : Int), 1, 1].length = 49152 := by decide
    rw [if_pos h1, h2, if_pos (by omega)]
  rw [code_Codes_spec]
  by_cases h : badL a = 0
  · obtain ⟨h1, h2⟩ := badL_ok h
    rw [if_pos h]
    by_cases c : 32768 < takeW (ln a) a.length
    · rw [if_pos c]
      simp only [Option.bind_some]
      have key := sum_loop a [] 51 (by omega) (fun hb => absurd h hb) a.length FU 0 (by omega) (by rw [FU_eq]; omega) (fun j x hj => by omega) (fun h0 => by omega)
      rw [if_pos h] at key
      have key' : valiselaw5_CodePrefix.l1 FU 0 0 a [] 51 = _ := key
      rw [key']
      simp only [Option.bind_some, onR]
      rw [if_pos (by omega)]
      rfl
    · rw [if_neg c]
      simp only [Option.bind_some]
      have key := sum_loop a (wsL (ln a) a.length) 0 (by omega) (fun hb => absurd h hb) a.length FU 0 (by omega) (by rw [FU_eq]; omega) (fun j x hj => by omega) (fun h0 => by omega)
      rw [if_pos h] at key
      have key' : valiselaw5_CodePrefix.l1 FU 0 0 a (wsL (ln a) a.length) 0 = _ := key
      rw [key']
      simp only [Option.bind_some, onR]
      rw [if_neg (by omega), if_neg (by rw [wsL_length]; simp)]
      have key2 := outer_loop a h1 h2 (by omega) a.length FU 0 (by omega) (by rw [FU_eq]; omega)
      have key2' : valiselaw5_CodePrefix.l13 FU 0 a (wsL (ln a) a.length) = _ := key2
      rw [key2']
      simp only [Option.bind_some, onR, three, decide_true]
  · rw [if_neg h]
    simp only [Option.bind_some]
    have key := sum_loop a [] (badL a) (by omega) (fun hb => ⟨hb, rfl⟩) a.length FU 0 (by omega) (by rw [FU_eq]; omega) (fun j x hj => by omega) (fun h0 => by omega)
    rw [if_neg h] at key
    have key' : valiselaw5_CodePrefix.l1 FU 0 0 a [] (badL a) = _ := key
    rw [key']
    rfl
end Go.V.Pu
