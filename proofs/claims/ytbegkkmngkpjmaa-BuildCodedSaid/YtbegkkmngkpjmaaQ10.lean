/- Coins as the program and as the document hold them: for the plain laws. -/
import Derived.Test.YtbegkkmngkpjmaaQ5
import Derived.Test.YtbegkkmngkpjmaaQ7
import Derived.Test.YtbegkkmngkpjmaaV16
set_option linter.unusedVariables false
set_option linter.unusedSimpArgs false
namespace Go.V
open Go

def toCo : Coin → Co
  | .leaf w s => .leaf w s
  | .pack a b => .pack ((a.wt + b.wt : Nat) : Int) 0 (toCo a) (toCo b)
theorem toCo_w (c : Coin) : (toCo c).w = (c.wt : Int) := by cases c <;> rfl
/-- The symbols of its leaves. -/
def Coin.sy : Coin → List Int
  | .leaf _ s => [(s : Int)]
  | .pack a b => a.sy ++ b.sy
def toNd (c : Coin) : Int × List Int := ((c.wt : Int), c.sy)
theorem sy_length_pos (c : Coin) : 0 < c.sy.length := by
  induction c with
  | leaf w s => simp [Coin.sy]
  | pack a b iha ihb => simp [Coin.sy]; omega
/-- A list of numbers. -/
def lf (n : Nat) (f : Nat → Nat) : List Int := (List.range n).map fun i => (f i : Int)
theorem lf_length (n : Nat) (f : Nat → Nat) : (lf n f).length = n := by simp [lf]
theorem lf_rd {n : Nat} {f : Nat → Nat} {i : Nat} (h : i < n) : rd (lf n f) (i : Int) = (f i : Int) := by unfold lf; rw [rd_map h]
theorem lf_set {n : Nat} {f : Nat → Nat} {s v : Nat} : (lf n f).set s (v : Int) = lf n (fun i => if i = s then v else f i) := by
  unfold lf
  rw [map_set]
  refine List.map_congr_left fun i _ => ?_
  by_cases c : i = s <;> simp [c]
theorem lf_congr {n : Nat} {f g : Nat → Nat} (h : ∀ i, i < n → f i = g i) : lf n f = lf n g := List.map_congr_left fun i hi => by rw [h i (List.mem_range.1 hi)]
theorem lf_zero (n : Nat) : List.replicate n (0 : Int) = lf n fun _ => 0 := zeros_map n

/-- How many leaves, and which symbols. -/
def Coin.size : Coin → Nat
  | .leaf _ _ => 1
  | .pack a b => a.size + b.size
def Coin.inn (n : Nat) : Coin → Prop
  | .leaf _ s => s < n
  | .pack a b => a.inn n ∧ b.inn n
def Coin.light (W : Nat) (c : Coin) : Prop := c.wt ≤ W * c.size
theorem size_sy (c : Coin) : c.sy.length = c.size := by
  induction c with
  | leaf w s => rfl
  | pack a b iha ihb => simp [Coin.sy, Coin.size, iha, ihb]
theorem cnt_le (i : Nat) (c : Coin) : c.cnt i ≤ c.size := by
  induction c with
  | leaf w s => simp only [Coin.cnt, Coin.size]; split <;> omega
  | pack a b iha ihb => simp only [Coin.cnt, Coin.size]; omega
structure Fine (n W m : Nat) (c : Coin) : Prop where
  inn : c.inn n
  light : c.wt ≤ W * m
  size : c.size ≤ m
theorem Fine.pack {n W m : Nat} {a b : Coin} (h : Fine n W m a) (k : Fine n W m b) : Fine n W (2 * m) (.pack a b) :=
  ⟨⟨h.inn, k.inn⟩, by have := h.light; have := k.light; simp only [Coin.wt]; rw [Nat.mul_left_comm]; omega, by have := h.size; have := k.size; simp only [Coin.size]; omega⟩
theorem Fine.mono {n W m m' : Nat} {c : Coin} (h : Fine n W m c) (hm : m ≤ m') : Fine n W m' c := ⟨h.inn, Nat.le_trans h.light (Nat.mul_le_mul_left _ hm), Nat.le_trans h.size hm⟩
theorem prow_fine {n W : Nat} {L : List Coin} (h : ∀ c ∈ L, Fine n W 1 c) : ∀ r, ∀ c ∈ prow L r, Fine n W (2 ^ r) c := by
  intro r
  induction r with
  | zero => exact h
  | succ r ih =>
    intro c hc
    rw [prow] at hc
    rcases (mem_mrg _ _).1 hc with hc | hc
    · exact (h c hc).mono (Nat.pow_pos (by omega))
    · obtain ⟨a, b, rfl, ha, hb⟩ := mem_packs hc
      rw [Nat.pow_succ, Nat.mul_comm]
      exact (ih a ha).pack (ih b hb)
theorem prow_short {L : List Coin} : ∀ r, (prow L r).length ≤ 2 * L.length := by
  intro r
  induction r with
  | zero => simp [prow]; omega
  | succ r ih => rw [prow, mrg_length, packs_length]; omega
theorem csum_le (i : Nat) {m : Nat} : ∀ {l : List Coin}, (∀ c ∈ l, c.size ≤ m) → csum i l ≤ l.length * m := by
  intro l
  induction l with
  | nil => intro _; simp [csum_nil]
  | cons a l ih =>
    intro h
    rw [csum_cons, List.length_cons, Nat.add_mul, Nat.one_mul]
    have := ih fun c hc => h c (by simp [hc])
    have := h a (by simp)
    have := cnt_le i a
    omega
/-- The used symbols. -/
def uS (a : List Int) : List Int := ((List.range a.length).filter fun (i : Nat) => decide (0 < rd a (i : Int))).map fun (i : Nat) => (i : Int)
def upS (a : List Int) (m : Nat) : List Int := ((List.range m).filter fun (i : Nat) => decide (0 < rd a (i : Int))).map fun (i : Nat) => (i : Int)
theorem upS_succ (a : List Int) (m : Nat) : upS a (m + 1) = upS a m ++ if 0 < rd a (m : Int) then [(m : Int)] else [] := by
  unfold upS
  rw [List.range_succ, List.filter_append, List.map_append]
  congr 1
  by_cases h : 0 < rd a (m : Int)
  · rw [if_pos h, List.filter_cons_of_pos (by simpa using h)]; rfl
  · rw [if_neg h, List.filter_cons_of_neg (by simpa using h)]; rfl
theorem upS_len (a : List Int) (m : Nat) : (upS a m).length ≤ m := by unfold upS; rw [List.length_map]; have := List.length_filter_le (fun i => decide (0 < rd a ((i : Nat) : Int))) (List.range m); rwa [List.length_range] at this
theorem uS_mem {a : List Int} {x : Int} (h : x ∈ uS a) : ∃ i : Nat, x = i ∧ i < a.length ∧ 0 < rd a x := by
  obtain ⟨i, hi, rfl⟩ := List.mem_map.1 h
  have := List.mem_filter.1 hi
  exact ⟨i, rfl, List.mem_range.1 this.1, by simpa using this.2⟩
theorem uS_of {a : List Int} {i : Nat} (h : i < a.length) (hp : 0 < rd a (i : Int)) : (i : Int) ∈ uS a := List.mem_map.2 ⟨i, List.mem_filter.2 ⟨List.mem_range.2 h, by simpa using hp⟩, rfl⟩
theorem uS_rising (a : List Int) : (uS a).Pairwise (· < ·) := by
  unfold uS
  rw [List.pairwise_map]
  refine List.Pairwise.imp (fun h => ?_) (List.Pairwise.sublist List.filter_sublist List.pairwise_lt_range)
  omega
theorem uS_len (a : List Int) : (uS a).length ≤ a.length := upS_len a a.length
def clS (a S : List Int) : List Coin := S.map fun s => .leaf (rd a s).toNat s.toNat
theorem clS_length (a S : List Int) : (clS a S).length = S.length := by simp [clS]
end Go.V
namespace Go.V
open Go
/-- The order by which the symbols come to stand: by frequency, then by number. -/
def kle (fr : List Int) (x y : Int) : Prop := rd fr x < rd fr y ∨ (rd fr x = rd fr y ∧ x < y)
def okS (fr : List Int) (x : Int) : Prop := 0 ≤ x ∧ x < (fr.length : Int)
theorem kle_trans {fr : List Int} {x y z : Int} (h : kle fr x y) (k : kle fr y z) : kle fr x z := by unfold kle at *; omega
/-- x stands ahead of y in the list that is sorted: then y comes ahead just if its frequency is less. -/
theorem kle_before {fr : List Int} {x y : Int} (h : x < y) : kle fr y x ↔ rd fr y < rd fr x := by unfold kle; omega
theorem kle_not {fr : List Int} {x y : Int} (h : x < y) : kle fr x y ↔ ¬ rd fr y < rd fr x := by unfold kle; omega

/-- What is asked of a list that is sorted: all its symbols have a frequency. -/
def okL (fr l : List Int) : Prop := ∀ x ∈ l, okS fr x
/-- There is but one order. -/
theorem kle_asym {fr : List Int} {x y : Int} (h : kle fr x y) (k : kle fr y x) : False := by unfold kle at *; omega
theorem kle_one {fr : List Int} : ∀ {S T : List Int}, S.Perm T → S.Pairwise (kle fr) → T.Pairwise (kle fr) → S = T := by
  intro S
  induction S with
  | nil => intro T h _ _; have := h.length_eq; exact (List.eq_nil_of_length_eq_zero this.symm).symm
  | cons x S ih =>
    intro T h hS hT
    cases T with
    | nil => have := h.length_eq; simp at this
    | cons y T =>
      have hxy : x = y := by
        rcases List.mem_cons.1 (h.subset (List.mem_cons_self (a := x) (l := S))) with e | e
        · exact e
        · rcases List.mem_cons.1 (h.symm.subset (List.mem_cons_self (a := y) (l := T))) with e2 | e2
          · exact e2.symm
          · exact (kle_asym ((List.pairwise_cons.1 hS).1 y e2) ((List.pairwise_cons.1 hT).1 x e)).elim
      subst hxy
      rw [ih ((List.perm_cons _).1 h) (List.pairwise_cons.1 hS).2 (List.pairwise_cons.1 hT).2]

def insK (fr : List Int) (x : Int) : List Int → List Int
  | [] => [x]
  | y :: l => if rd fr x < rd fr y then x :: y :: l else y :: insK fr x l
theorem insK_perm (fr : List Int) (x : Int) : ∀ l : List Int, (insK fr x l).Perm (x :: l)
  | [] => List.Perm.refl _
  | y :: l => by
    rw [insK]
    split
    · exact List.Perm.refl _
    · exact ((insK_perm fr x l).cons y).trans (List.Perm.swap x y l)
theorem insK_sorted (fr : List Int) (x : Int) : ∀ l : List Int, l.Pairwise (kle fr) → (∀ z ∈ l, z < x) → (insK fr x l).Pairwise (kle fr)
  | [], _, _ => List.pairwise_singleton _ _
  | y :: l, h, hx => by
    obtain ⟨h1, h2⟩ := List.pairwise_cons.1 h
    rw [insK]
    split
    · rename_i c
      refine List.pairwise_cons.2 ⟨fun z hz => ?_, h⟩
      rcases List.mem_cons.1 hz with rfl | hz
      · exact .inl c
      · exact kle_trans (.inl c) (h1 z hz)
    · rename_i c
      refine List.pairwise_cons.2 ⟨fun z hz => ?_, insK_sorted fr x l h2 fun z hz => hx z (by simp [hz])⟩
      rcases List.mem_cons.1 ((insK_perm fr x l).subset hz) with rfl | hz
      · exact (kle_not (hx y (by simp))).2 c
      · exact h1 z hz
/-- The symbols in their order. -/
def srtL (fr : List Int) (l : List Int) : List Int := l.foldl (fun S x => insK fr x S) []
theorem srtL_spec (fr : List Int) : ∀ (R D S : List Int), (D ++ R).Pairwise (· < ·) → S.Perm D → S.Pairwise (kle fr) → (R.foldl (fun S x => insK fr x S) S).Perm (D ++ R) ∧ (R.foldl (fun S x => insK fr x S) S).Pairwise (kle fr) := by
  intro R
  induction R with
  | nil => intro D S _ h1 h2; exact ⟨by simpa using h1, h2⟩
  | cons x R ih =>
    intro D S hs h1 h2
    rw [List.foldl_cons]
    have := ih (D ++ [x]) (insK fr x S) (by simpa using hs) ((insK_perm fr x S).trans ((h1.cons x).trans (List.perm_append_comm (l₁ := [x]) (l₂ := D)))) (insK_sorted fr x S h2 fun z hz => (List.pairwise_append.1 hs).2.2 z (h1.subset hz) x (by simp))
    simpa using this
def srt (a : List Int) : List Int := srtL a (uS a)
theorem srt_perm (a : List Int) : (srt a).Perm (uS a) := by simpa [srt, srtL] using (srtL_spec a (uS a) [] [] (by simpa using uS_rising a) (List.Perm.refl _) List.Pairwise.nil).1
theorem srt_sorted (a : List Int) : (srt a).Pairwise (kle a) := (srtL_spec a (uS a) [] [] (by simpa using uS_rising a) (List.Perm.refl _) List.Pairwise.nil).2
theorem srt_len (a : List Int) : (srt a).length = (uS a).length := (srt_perm a).length_eq
theorem srt_mem {a : List Int} {x : Int} (h : x ∈ srt a) : ∃ i : Nat, x = i ∧ i < a.length ∧ 0 < rd a x := uS_mem ((srt_perm a).subset h)
/-- The program's lengths, as its coins say. -/
def rowP (a : List Int) (lim : Nat) : List Coin := prow (clS a (srt a)) (lim - 1)
def limL (a : List Int) (lim : Nat) : List Int := lf a.length fun i => csum i ((rowP a lim).take (2 * (uS a).length - 2))
def fewL (a : List Int) : List Int := lf a.length fun i => if (i : Int) ∈ uS a then 1 else 0
/-- Each leaf is light, and of a symbol that there is. -/
theorem clS_fine {a : List Int} (h : ∀ x ∈ a, 0 ≤ x ∧ x ≤ 4294967296) : ∀ c ∈ clS a (srt a), Fine a.length 4294967296 1 c := by
  intro c hc
  obtain ⟨s, hs, rfl⟩ := List.mem_map.1 hc
  obtain ⟨i, rfl, hi, hp⟩ := srt_mem hs
  have := h _ (List.getElem_mem hi)
  rw [rd_at (List.getElem?_eq_getElem hi)]
  exact ⟨by show (Int.toNat (i : Int)) < a.length; simpa using hi, by simp only [Coin.wt]; omega, Nat.le_refl _⟩
theorem rowP_in {a : List Int} (h : ∀ x ∈ a, 0 ≤ x ∧ x ≤ 4294967296) {lim : Nat} (hl : lim ≤ 16) : ∀ c ∈ rowP a lim, c.inn a.length ∧ c.size ≤ 65536 := fun c hc => by
  have h1 := prow_fine (clS_fine h) (lim - 1) c hc
  have h2 : 2 ^ (lim - 1) ≤ 2 ^ 15 := Nat.pow_le_pow_right (by omega) (by omega)
  exact ⟨h1.inn, Nat.le_trans h1.size (by omega)⟩
theorem clS_lvs (a : List Int) : clS a (srt a) = lvs (fun j => (rd a ((srt a).getD j 0)).toNat) (fun j => ((srt a).getD j 0).toNat) (uS a).length := by
  unfold clS lvs
  rw [← srt_len]
  refine List.ext_getElem (by simp) fun i h1 h2 => ?_
  simp at h1
  simp [h1]
theorem rowP_long {a : List Int} {lim : Nat} (hl : 1 ≤ lim) (hu : 1 ≤ (uS a).length) (h : (uS a).length ≤ 2 ^ lim) : 2 * (uS a).length - 2 ≤ (rowP a lim).length := by
  unfold rowP
  rw [clS_lvs]
  exact prow_enough (by omega) (by rw [show lim - 1 + 1 = lim by omega]; omega)
end Go.V
