/- Lists of code lengths, their counts and shape: for the plain laws. -/
import Derived.Test.YtbegkkmngkpjmaaQ6
import Derived.Test.YtbegkkmngkpjmaaQ1
set_option linter.unusedVariables false
set_option linter.unusedSimpArgs false
namespace Go.V
open Go

/-- A list of lengths as a row of natural numbers. -/
def ln (lens : List Int) (j : Nat) : Nat := (lens.getD j 0).toNat
def okx (x : Int) : Prop := 0 ≤ x ∧ x ≤ 15
instance : DecidablePred okx := fun x => by unfold okx; exact inferInstance
theorem ln_at {lens : List Int} {j : Nat} {x : Int} (h : lens[j]? = some x) : ln lens j = x.toNat := by
  unfold ln; rw [List.getD_eq_getElem?_getD, h]; rfl
theorem ln_le {lens : List Int} (h : ∀ x ∈ lens, okx x) (j : Nat) : ln lens j ≤ 15 := by
  unfold ln
  rw [List.getD_eq_getElem?_getD]
  cases hj : lens[j]? with
  | none => simp
  | some x => have := h x (List.mem_of_getElem? hj); unfold okx at this; simp; omega
theorem rd_ln {lens : List Int} (h : ∀ x ∈ lens, okx x) {j : Nat} (hj : j < lens.length) : rd lens (j : Int) = (ln lens j : Int) := by
  have hx : lens[j]? = some lens[j] := List.getElem?_eq_getElem hj
  rw [rd_at hx, ln_at hx]
  have := h _ (List.getElem_mem hj); unfold okx at this; omega

theorem map_set {n k : Nat} {f : Nat → Int} {c : Int} : ((List.range n).map f).set k c = (List.range n).map fun v => if v = k then c else f v := by
  apply List.ext_getElem?
  intro i
  rw [List.getElem?_set]
  simp only [List.length_map, List.length_range, List.getElem?_map]
  by_cases h : k = i
  · subst h
    by_cases hk : k < n
    · simp [hk]
    · simp [hk]
  · have h' : ¬ i = k := fun e => h e.symm
    by_cases hi : i < n
    · simp [h, h', hi]
    · simp [h, hi]
theorem rd_map {n v : Nat} {f : Nat → Int} (h : v < n) : rd ((List.range n).map f) (v : Int) = f v := rd_at (by simp [h])
theorem rd_map' {n : Nat} {x : Int} {f : Nat → Int} (h0 : 0 ≤ x) (h : x < (n : Int)) : rd ((List.range n).map f) x = f x.toNat := by
  have := rd_map (n := n) (v := x.toNat) (f := f) (by omega)
  rwa [Int.toNat_of_nonneg h0] at this

def usedW (l : Nat → Nat) (n : Nat) : Nat := sumN n fun j => if 0 < l j then 1 else 0
/-- How many there are of each length. -/
def cl0 (l : Nat → Nat) (n : Nat) : List Int := (List.range 16).map fun v => (cntL l v n : Int)
def cl (l : Nat → Nat) (n : Nat) : List Int := (List.range 16).map fun v => if v = 0 then 0 else (cntL l v n : Int)
theorem cl0_length (l : Nat → Nat) (n : Nat) : (cl0 l n).length = 16 := by simp [cl0]
theorem cl_length (l : Nat → Nat) (n : Nat) : (cl l n).length = 16 := by simp [cl]
theorem cl0_zero (l : Nat → Nat) : cl0 l 0 = List.replicate 16 (0 : Int) := rfl
theorem cl0_step (l : Nat → Nat) (n : Nat) (h : l n ≤ 15) : (cl0 l n).set (l n) ((cntL l (l n) n : Int) + 1) = cl0 l (n + 1) := by
  unfold cl0
  rw [map_set]
  refine List.map_congr_left fun v hv => ?_
  rw [cntL_succ]
  by_cases e : v = l n
  · subst e; simp
  · rw [if_neg e, if_neg (fun e' => e e'.symm)]; rfl
theorem cl_of (l : Nat → Nat) (n : Nat) : (cl0 l n).set 0 0 = cl l n := by unfold cl0 cl; rw [map_set]
theorem rd_cl {l : Nat → Nat} {n v : Nat} (h1 : 1 ≤ v) (h : v < 16) : rd (cl l n) (v : Int) = (cntL l v n : Int) := by
  unfold cl; rw [rd_map h, if_neg (by omega)]
theorem rd_cl_zero (l : Nat → Nat) (n : Nat) : rd (cl l n) 0 = 0 := by
  exact rd_map (n := 16) (v := 0) (f := fun v => if v = 0 then 0 else (cntL l v n : Int)) (by omega)
theorem rd_cl0 {l : Nat → Nat} {n v : Nat} (h : v < 16) : rd (cl0 l n) (v : Int) = (cntL l v n : Int) := by unfold cl0; rw [rd_map h]

/-- The symbols of the lengths from 1 to v - 1. -/
def wupto (l : Nat → Nat) (n : Nat) : Nat → Nat
  | 0 => 0
  | v + 1 => wupto l n v + (if v = 0 then 0 else cntL l v n)
theorem wupto_all {l : Nat → Nat} {n : Nat} (h : ∀ j, j < n → l j ≤ 15) : wupto l n 16 = usedW l n := by
  have gen : ∀ v, wupto l n (v + 1) = sumN n fun j => if 0 < l j ∧ l j ≤ v then 1 else 0 := by
    intro v
    induction v with
    | zero => simp only [wupto, if_pos]; rw [sumN_zero fun j _ => if_neg (by omega)]
    | succ v ih =>
      rw [wupto, ih, if_neg (by omega), cntL, ← sumN_add]
      refine sumN_eq fun j _ => ?_
      by_cases e : l j = v + 1
      · rw [if_neg (by omega), if_pos e, if_pos (by omega)]
      · rw [if_neg e]
        by_cases c : 0 < l j ∧ l j ≤ v
        · rw [if_pos c, if_pos (by omega)]
        · rw [if_neg c, if_neg (by omega)]
  rw [gen 15]
  refine sumN_eq fun j hj => ?_
  have := h j hj
  by_cases c : 0 < l j
  · rw [if_pos c, if_pos (by omega)]
  · rw [if_neg c, if_neg (by omega)]
theorem usedW_le (l : Nat → Nat) (n : Nat) : usedW l n ≤ n := by
  have := sumN_le (n := n) (f := fun j => if 0 < l j then 1 else 0) (g := fun _ => 1) (fun j _ => by split <;> omega)
  rw [sumN_const] at this; unfold usedW; omega
theorem takeW_le (l : Nat → Nat) (n : Nat) : takeW l n ≤ usedW l n * 16384 := by
  unfold takeW usedW
  rw [← sumN_mul]
  refine sumN_le fun j _ => ?_
  by_cases c : 0 < l j
  · rw [if_pos c, if_pos c]
    have : 2 ^ (15 - l j) ≤ 2 ^ 14 := Nat.pow_le_pow_right (by omega) (by omega)
    omega
  · rw [if_neg c, if_neg c]; omega
theorem single_iff {l : Nat → Nat} {n : Nat} (h : usedW l n = 1) : cntL l 1 n = 1 ↔ takeW l n = 16384 := by
  have a : cntL l 1 n * 16384 ≤ takeW l n := by
    unfold cntL takeW
    rw [← sumN_mul]
    refine sumN_le fun j _ => ?_
    by_cases c : l j = 1
    · rw [if_pos c, if_pos (by omega), c]; decide
    · rw [if_neg c]; omega
  have b : takeW l n ≤ cntL l 1 n * 8192 + usedW l n * 8192 := by
    unfold cntL takeW usedW
    rw [← sumN_mul, ← sumN_mul, ← sumN_add]
    refine sumN_le fun j _ => ?_
    by_cases c : l j = 1
    · rw [if_pos c, if_pos (show 0 < l j by omega), if_pos (show 0 < l j by omega), c]; decide
    · rw [if_neg c]
      by_cases d : 0 < l j
      · rw [if_pos d, if_pos d]
        have : 2 ^ (15 - l j) ≤ 2 ^ 13 := Nat.pow_le_pow_right (by omega) (by omega)
        omega
      · rw [if_neg d, if_neg d]; omega
  have c : cntL l 1 n ≤ usedW l n := by
    unfold cntL usedW
    refine sumN_le fun j _ => ?_
    by_cases c : l j = 1
    · rw [if_pos c, if_pos (by omega)]; omega
    · rw [if_neg c]; omega
  have d := takeW_le l n
  omega
def shapeW (W T : Nat) : Int := if W = 0 then 0 else if W = 1 ∧ T = 16384 then 1 else if 32768 < T then 3 else if T = 32768 then 4 else 2
/-- The error of a list that is none. -/
def badL (lens : List Int) : Int := if 288 < lens.length then 1 else if ∀ x ∈ lens, okx x then 0 else 50
theorem badL_ok {lens : List Int} (h : badL lens = 0) : lens.length ≤ 288 ∧ ∀ x ∈ lens, okx x := by
  unfold badL at h
  by_cases a : 288 < lens.length
  · rw [if_pos a] at h; cases h
  · rw [if_neg a] at h
    by_cases b : ∀ x ∈ lens, okx x
    · exact ⟨by omega, b⟩
    · rw [if_neg b] at h; cases h
theorem badL_zero {lens : List Int} (h : lens.length ≤ 288) (h2 : ∀ x ∈ lens, okx x) : badL lens = 0 := by
  unfold badL; rw [if_neg (by omega), if_pos h2]
end Go.V
namespace Go.V
open Go
theorem fstW_le (l : Nat → Nat) (n : Nat) : ∀ v, fstW l n v ≤ n * 4 ^ v := by
  intro v
  induction v with
  | zero => simp [fstW]
  | succ v ih =>
    have h := cntL_le l v n
    have h1 : n ≤ n * 4 ^ v := Nat.le_mul_of_pos_right _ (Nat.pow_pos (by omega))
    have e : n * 4 ^ (v + 1) = 4 * (n * 4 ^ v) := by rw [Nat.pow_succ, ← Nat.mul_assoc, Nat.mul_comm 4]
    have hn : (if v = 0 then 0 else cntL l v n) ≤ n := by split <;> omega
    simp only [fstW]
    omega
theorem fstW_le2 {l : Nat → Nat} {n : Nat} (hn : n ≤ 288) {v : Nat} (hv : v ≤ 15) : fstW l n v ≤ 309237645312 := by
  have h := fstW_le l n v
  have h1 : 4 ^ v ≤ 4 ^ 15 := Nat.pow_le_pow_right (by omega) hv
  have h2 : n * 4 ^ v ≤ 288 * 4 ^ 15 := Nat.mul_le_mul hn h1
  omega
/-- The first words, and the words. -/
def fsL (l : Nat → Nat) (n : Nat) : List Int := (List.range 16).map fun v => (fstW l n v : Int)
def wsL (l : Nat → Nat) (n : Nat) : List Int := (List.range n).map fun j => if 0 < l j then (wordW l n j : Int) else 0
theorem fsL_length (l : Nat → Nat) (n : Nat) : (fsL l n).length = 16 := by simp [fsL]
theorem wsL_length (l : Nat → Nat) (n : Nat) : (wsL l n).length = n := by simp [wsL]
theorem rd_fsL {l : Nat → Nat} {n v : Nat} (h : v < 16) : rd (fsL l n) (v : Int) = (fstW l n v : Int) := by unfold fsL; rw [rd_map h]
theorem rd_wsL {l : Nat → Nat} {n j : Nat} (h : j < n) : rd (wsL l n) (j : Int) = if 0 < l j then (wordW l n j : Int) else 0 := by unfold wsL; rw [rd_map h]
theorem zeros_map (n : Nat) : List.replicate n (0 : Int) = (List.range n).map fun _ => 0 := by rw [List.map_const', List.length_range]
theorem shape_over {l : Nat → Nat} {n : Nat} : shapeW (usedW l n) (takeW l n) = 3 ↔ 32768 < takeW l n := by
  have := takeW_le l n
  unfold shapeW
  by_cases c0 : usedW l n = 0
  · rw [if_pos c0]; simp; omega
  · rw [if_neg c0]
    by_cases c1 : usedW l n = 1 ∧ takeW l n = 16384
    · rw [if_pos c1]; simp; omega
    · rw [if_neg c1]
      by_cases c2 : 32768 < takeW l n
      · rw [if_pos c2]; simp [c2]
      · rw [if_neg c2]
        by_cases c3 : takeW l n = 32768
        · rw [if_pos c3]; simp; omega
        · rw [if_neg c3]; simp; omega
end Go.V
namespace Go.V
open Go
theorem shl_i64 (x y : Nat) (hy : y ≤ 62) (h : x * 2 ^ y ≤ 4611686018427387904) : shl .i64 (x : Int) (y : Int) = ((x * 2 ^ y : Nat) : Int) := by
  unfold shl
  rw [Int.toNat_natCast, Nat.min_eq_left (by simp only [IntKind.bits]; omega)]
  have e : (x : Int) * 2 ^ y = ((x * 2 ^ y : Nat) : Int) := by simp
  rw [e, wr_i64 (by omega)]
theorem shl_one (y : Nat) (hy : y ≤ 61) : shl .i64 1 (y : Int) = ((2 ^ y : Nat) : Int) := by
  have h : 2 ^ y ≤ 2 ^ 61 := Nat.pow_le_pow_right (by omega) hy
  have := shl_i64 1 y (by omega) (by omega)
  rw [Nat.one_mul] at this
  exact this
end Go.V
