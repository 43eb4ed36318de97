/- Heaps, and trees that are kept as a list of parents: for the plain law of Depths. -/
import Derived.Test.YtbegkkmngkpjmaaQ11
set_option linter.unusedVariables false
set_option linter.unusedSimpArgs false
namespace Go.V
open Go
abbrev Ht := Int × Int × Int
def bef (x y : Ht) : Prop := x.1 < y.1 ∨ (x.1 = y.1 ∧ x.2.1 < y.2.1)
instance (x y : Ht) : Decidable (bef x y) := by unfold bef; exact inferInstance
def lexo (x y : Ht) : Prop := ¬ bef y x
theorem lexo_trans {x y z : Ht} (h : lexo x y) (k : lexo y z) : lexo x z := by unfold lexo bef at *; omega
theorem bef_lexo {x y : Ht} (h : bef x y) : lexo x y := by unfold lexo bef at *; omega
theorem lexo_refl (x : Ht) : lexo x x := by unfold lexo bef; omega
def gT (l : List Ht) (i : Nat) : Ht := l.getD i (0, 0, 0)
theorem gT_at {l : List Ht} {i : Nat} (h : i < l.length) : gT l i = l[i] := by unfold gT; simp [h]
def swp (l : List Ht) (i p : Nat) : List Ht := (l.set i (gT l p)).set p (gT l i)
theorem swp_length (l : List Ht) (i p : Nat) : (swp l i p).length = l.length := by simp [swp]
theorem gT_set {l : List Ht} {i j : Nat} {x : Ht} (h : i < l.length) : gT (l.set i x) j = if j = i then x else gT l j := by
  unfold gT
  rw [List.getD_eq_getElem?_getD, List.getD_eq_getElem?_getD, List.getElem?_set]
  by_cases c : i = j
  · subst c; simp [h]
  · rw [if_neg c, if_neg (fun e => c e.symm)]
theorem gT_swp {l : List Ht} {i p j : Nat} (hi : i < l.length) (hp : p < l.length) : gT (swp l i p) j = if j = p then gT l i else if j = i then gT l p else gT l j := by
  unfold swp
  rw [gT_set (by simpa using hp), gT_set hi]
theorem swp_perm {l : List Ht} {i p : Nat} (hi : i < l.length) (hp : p < l.length) : (swp l i p).Perm l := by
  unfold swp
  rw [gT_at hi, gT_at hp]
  exact List.set_set_perm hi hp
def Heap (l : List Ht) : Prop := ∀ j, 0 < j → j < l.length → lexo (gT l ((j - 1) / 2)) (gT l j)
structure UpI (l : List Ht) (i : Nat) : Prop where
  one : ∀ j, 0 < j → j < l.length → j ≠ i → lexo (gT l ((j - 1) / 2)) (gT l j)
  two : ∀ j, 0 < j → j < l.length → (j - 1) / 2 = i → 0 < i → lexo (gT l ((i - 1) / 2)) (gT l j)
theorem up_stop {l : List Ht} {i : Nat} (h : UpI l i) (hs : i = 0 ∨ ¬ bef (gT l i) (gT l ((i - 1) / 2))) : Heap l := fun j h0 hj => by
  by_cases c : j = i
  · subst c
    rcases hs with hs | hs
    · omega
    · exact hs
  · exact h.one j h0 hj c
theorem up_step {l : List Ht} {i : Nat} (h : UpI l i) (h0 : 0 < i) (hi : i < l.length) (hb : bef (gT l i) (gT l ((i - 1) / 2))) : UpI (swp l i ((i - 1) / 2)) ((i - 1) / 2) := by
  have hp : (i - 1) / 2 < l.length := by omega
  have hpi : (i - 1) / 2 < i := by omega
  generalize e : (i - 1) / 2 = p at *
  refine ⟨fun j j0 hj hne => ?_, fun j j0 hj hjp hp0 => ?_⟩
  · rw [swp_length] at hj
    rw [gT_swp hi hp, gT_swp hi hp, if_neg hne]
    by_cases c : j = i
    · subst c
      rw [e, if_pos rfl, if_pos rfl]; exact bef_lexo hb
    · rw [if_neg c]
      by_cases d : (j - 1) / 2 = p
      · rw [if_pos d]
        have := h.one j j0 hj c
        rw [d] at this
        exact lexo_trans (bef_lexo hb) this
      · rw [if_neg d]
        by_cases d2 : (j - 1) / 2 = i
        · rw [if_pos d2]
          have := h.two j j0 hj d2 h0
          rw [e] at this; exact this
        · rw [if_neg d2]; exact h.one j j0 hj c
  · rw [swp_length] at hj
    have hpp : (p - 1) / 2 < p := by omega
    have base := h.one p hp0 hp (by omega)
    rw [gT_swp hi hp, gT_swp hi hp, if_neg (by omega), if_neg (by omega), if_neg (by omega)]
    by_cases c : j = i
    · rw [if_pos c]; exact base
    · rw [if_neg c]
      have := h.one j j0 hj c
      rw [hjp] at this
      exact lexo_trans base this
theorem gT_app {l : List Ht} {x : Ht} {j : Nat} : gT (l ++ [x]) j = if j < l.length then gT l j else if j = l.length then x else (0, 0, 0) := by
  unfold gT
  rw [List.getD_eq_getElem?_getD, List.getD_eq_getElem?_getD]
  by_cases c : j < l.length
  · rw [if_pos c, List.getElem?_append_left c]
  · rw [if_neg c, List.getElem?_append_right (by omega)]
    by_cases d : j = l.length
    · subst d; simp
    · rw [if_neg d]
      have : ∃ q, j - l.length = q + 1 := ⟨j - l.length - 1, by omega⟩
      obtain ⟨q, e⟩ := this
      rw [e]; rfl
theorem up_new {l : List Ht} (h : Heap l) (x : Ht) : UpI (l ++ [x]) l.length := by
  refine ⟨fun j j0 hj hne => ?_, fun j j0 hj hjp hp0 => ?_⟩
  · simp only [List.length_append, List.length_cons, List.length_nil] at hj
    rw [gT_app, gT_app, if_pos (by omega), if_pos (by omega)]
    exact h j j0 (by omega)
  · simp only [List.length_append, List.length_cons, List.length_nil] at hj
    omega
structure DnI (l : List Ht) (i : Nat) : Prop where
  one : ∀ j, 0 < j → j < l.length → (j - 1) / 2 ≠ i → lexo (gT l ((j - 1) / 2)) (gT l j)
  two : ∀ j, 0 < j → j < l.length → (j - 1) / 2 = i → 0 < i → lexo (gT l ((i - 1) / 2)) (gT l j)
theorem dn_stop {l : List Ht} {i : Nat} (h : DnI l i) (hs : ∀ j, 0 < j → j < l.length → (j - 1) / 2 = i → lexo (gT l i) (gT l j)) : Heap l := fun j h0 hj => by
  by_cases c : (j - 1) / 2 = i
  · rw [c]; exact hs j h0 hj c
  · exact h.one j h0 hj c
theorem dn_step {l : List Ht} {i c : Nat} (h : DnI l i) (c0 : 0 < c) (hc : c < l.length) (hp : (c - 1) / 2 = i) (hm : ∀ j, 0 < j → j < l.length → (j - 1) / 2 = i → lexo (gT l c) (gT l j)) (hb : bef (gT l c) (gT l i)) : DnI (swp l i c) c := by
  have hi : i < l.length := by omega
  have hic : i < c := by omega
  refine ⟨fun j j0 hj hne => ?_, fun j j0 hj hjp _ => ?_⟩
  · rw [swp_length] at hj
    rw [gT_swp hi hc, gT_swp hi hc, if_neg hne]
    by_cases d : (j - 1) / 2 = i
    · rw [if_pos d]
      by_cases e : j = c
      · rw [if_pos e]; exact bef_lexo hb
      · rw [if_neg e, if_neg (by omega)]; exact hm j j0 hj d
    · rw [if_neg d, if_neg (by rintro rfl; exact d hp)]
      by_cases e : j = i
      · subst e; rw [if_pos rfl]; exact h.two c c0 hc hp j0
      · rw [if_neg e]; exact h.one j j0 hj d
  · rw [swp_length] at hj
    rw [hp, gT_swp hi hc, gT_swp hi hc, if_neg (by omega), if_pos rfl, if_neg (by omega), if_neg (by omega)]
    have := h.one j j0 hj (by omega)
    rw [hjp] at this; exact this
theorem heap_min {l : List Ht} (h : Heap l) : ∀ j, j < l.length → lexo (gT l 0) (gT l j) := by
  intro j
  induction j using Nat.strongRecOn with
  | _ j ih =>
    intro hj
    by_cases c : j = 0
    · subst c; exact lexo_refl _
    · exact lexo_trans (ih ((j - 1) / 2) (by omega) (by omega)) (h j (by omega) hj)
/-- The last one is laid on top. -/
def topped (l : List Ht) : List Ht := ((l.set 0 (gT l (l.length - 1))).set (l.length - 1) (0, 0, 0)).take (l.length - 1)
theorem topped_length {l : List Ht} : (topped l).length = l.length - 1 := by unfold topped; simp
theorem gT_topped {l : List Ht} {j : Nat} (h : j < l.length - 1) : gT (topped l) j = if j = 0 then gT l (l.length - 1) else gT l j := by
  unfold topped
  have e : gT ((((l.set 0 (gT l (l.length - 1))).set (l.length - 1) (0, 0, 0))).take (l.length - 1)) j = gT ((l.set 0 (gT l (l.length - 1))).set (l.length - 1) (0, 0, 0)) j := by
    show List.getD _ j _ = List.getD _ j _
    rw [List.getD_eq_getElem?_getD, List.getD_eq_getElem?_getD, List.getElem?_take_of_lt h]
  rw [e, gT_set (by simp; omega), if_neg (by omega), gT_set (by omega)]
theorem topped_dn {l : List Ht} (h : Heap l) : DnI (topped l) 0 := by
  refine ⟨fun j j0 hj hne => ?_, fun j j0 hj hjp hp => by omega⟩
  rw [topped_length] at hj
  rw [gT_topped (by omega), gT_topped hj, if_neg hne, if_neg (by omega)]
  exact h j j0 (by omega)
theorem topped_perm {l : List Ht} (h : 0 < l.length) : l.Perm (gT l 0 :: topped l) := by
  cases l with
  | nil => simp at h
  | cons x l =>
    rcases List.eq_nil_or_concat l with e | ⟨m, y, e⟩
    · subst e; exact List.Perm.refl _
    · have e' : l = m ++ [y] := by simpa using e
      subst e'
      have et : topped (x :: (m ++ [y])) = y :: m := by
        unfold topped
        have e1 : gT (x :: (m ++ [y])) ((x :: (m ++ [y])).length - 1) = y := by
          unfold gT
          simp
        rw [e1]
        simp
      rw [et]
      show (x :: (m ++ [y])).Perm (x :: y :: m)
      exact (List.perm_append_comm (l₁ := m) (l₂ := [y])).cons x

/-! ### Trees by parents -/
inductive StepsTo (P : List Int) : Nat → Nat → Prop where
  | stop {x : Nat} (h : x < P.length) (e : rd P (x : Int) = (x : Int)) : StepsTo P x 0
  | go {x y d : Nat} (h : x < P.length) (e : rd P (x : Int) = (y : Int)) (n : y ≠ x) (s : StepsTo P y d) : StepsTo P x (d + 1)
inductive TreeIn (P : List Int) (A : List Nat) (u : Nat) (sy : Nat → Nat) : Nat → Coin → Prop where
  | leaf {v w : Nat} (h : v < u) : TreeIn P A u sy v (.leaf w (sy v))
  | pack {v x y : Nat} {a b : Coin} (hx : x < v) (hy : y < v) (nx : x ∉ A) (ny : y ∉ A) (ex : rd P (x : Int) = (v : Int)) (ey : rd P (y : Int) = (v : Int)) (ta : TreeIn P A u sy x a) (tb : TreeIn P A u sy y b) : TreeIn P A u sy v (.pack a b)
theorem tree_keep {P P' : List Int} {A A' : List Nat} {u : Nat} {sy : Nat → Nat} {v : Nat} {c : Coin} (h : TreeIn P A u sy v c) (hA : ∀ x, x < v → x ∉ A → x ∉ A') (hP : ∀ x : Nat, x < v → x ∉ A → rd P' (x : Int) = rd P (x : Int)) : TreeIn P' A' u sy v c := by
  induction h with
  | leaf h => exact .leaf h
  | pack hx hy nx ny ex ey ta tb iha ihb =>
    exact .pack hx hy (hA _ hx nx) (hA _ hy ny) ((hP _ hx nx).trans ex) ((hP _ hy ny).trans ey) (iha (fun z hz => hA z (by omega)) (fun z hz => hP z (by omega))) (ihb (fun z hz => hA z (by omega)) (fun z hz => hP z (by omega)))
theorem tree_steps {P : List Int} {A : List Nat} {u : Nat} {sy : Nat → Nat} {v : Nat} {c : Coin} (h : TreeIn P A u sy v c) : ∀ D, v < P.length → StepsTo P v D → ∀ e ∈ c.ents D, ∃ j, j < u ∧ sy j = e.2.1 ∧ StepsTo P j e.2.2 := by
  induction h with
  | leaf h => intro D hv hs e he; simp only [Coin.ents, List.mem_singleton] at he; subst he; exact ⟨_, h, rfl, hs⟩
  | pack hx hy nx ny ex ey ta tb iha ihb =>
    intro D hv hs e he
    simp only [Coin.ents, List.mem_append] at he
    rcases he with he | he
    · exact iha (D + 1) (by omega) (.go (by omega) ex (by omega) hs) e he
    · exact ihb (D + 1) (by omega) (.go (by omega) ey (by omega) hs) e he
/-- What the joins have counted of a symbol. -/
def Coin.dsum (i : Nat) : Coin → Nat
  | .leaf _ _ => 0
  | .pack a b => a.dsum i + b.dsum i + (a.cnt i + b.cnt i)
theorem ents_dsum (i : Nat) (t : Coin) : ∀ d, ((t.ents d).filterMap fun e => if e.2.1 = i then some e.2.2 else none).sum = t.dsum i + d * t.cnt i := by
  induction t with
  | leaf w s =>
    intro d
    by_cases c : s = i
    · simp [Coin.ents, Coin.dsum, Coin.cnt, c]
    · simp [Coin.ents, Coin.dsum, Coin.cnt, c]
  | pack a b iha ihb =>
    intro d
    simp only [Coin.ents, List.filterMap_append, List.sum_append, iha, ihb, Coin.dsum, Coin.cnt, Nat.add_mul, Nat.mul_add]; omega
theorem depth_dsum (i : Nat) (t : Coin) : depth i t = t.dsum i := by
  have := ents_dsum i t 0
  rw [Nat.zero_mul, Nat.add_zero] at this
  exact this
theorem dsum_none {i : Nat} : ∀ {t : Coin}, t.cnt i = 0 → t.dsum i = 0
  | .leaf _ _, _ => rfl
  | .pack a b, h => by
    simp only [Coin.cnt] at h
    simp only [Coin.dsum]
    rw [dsum_none (t := a) (by omega), dsum_none (t := b) (by omega)]; omega
theorem joined_cnt {i : Nat} {l : List Coin} {t : Coin} {w : Nat} (h : Joined l t w) : csum i l = t.cnt i := by
  induction h with
  | one t => simp [csum]
  | @two l a b c d t w h1 h2 h ih =>
    have pl : l.Perm (c :: d :: (l.eraseIdx a).eraseIdx b) := h1.perm.trans (h2.perm.cons _)
    have e1 := (pl.map (Coin.cnt i)).sum_nat
    rw [← ih]
    unfold csum
    rw [e1]
    simp only [List.map_cons, List.sum_cons, List.map_append, List.sum_append, List.map_nil, List.sum_nil, Coin.cnt]; omega
/-- The nodes of a heap, of what is alive. -/
def ndH (p : Nat × Coin) : Ht := ((p.2.wt : Int), (p.1 : Int), (p.1 : Int))
theorem best_of {L : List (Nat × Coin)} (hr : (L.map Prod.fst).Pairwise (· < ·)) {x : Ht} (hx : x ∈ L.map ndH) (hm : ∀ y ∈ L.map ndH, lexo x y) : ∃ i p, L[i]? = some p ∧ ndH p = x ∧ Best (L.map Prod.snd) i p.2 := by
  obtain ⟨p, hp, rfl⟩ := List.mem_map.1 hx
  obtain ⟨i, hi, e⟩ := List.mem_iff_getElem.1 hp
  have hat : L[i]? = some p := by rw [List.getElem?_eq_getElem hi, e]
  refine ⟨i, p, hat, rfl, ⟨by rw [List.getElem?_map, hat]; rfl, fun j d hj => ?_, fun j d hji hj => ?_⟩⟩
  · rw [List.getElem?_map] at hj
    obtain ⟨q, hq, rfl⟩ := Option.map_eq_some_iff.1 hj
    have := hm (ndH q) (List.mem_map.2 ⟨q, List.mem_of_getElem? hq, rfl⟩)
    unfold lexo bef ndH at this
    simp only at this; omega
  · rw [List.getElem?_map] at hj
    obtain ⟨q, hq, rfl⟩ := Option.map_eq_some_iff.1 hj
    obtain ⟨hjl, hqe⟩ := List.getElem?_eq_some_iff.1 hq
    have h1 := hm (ndH q) (List.mem_map.2 ⟨q, List.mem_of_getElem? hq, rfl⟩)
    have h2 := List.pairwise_iff_getElem.1 hr j i (by simpa using hjl) (by simpa using hi) hji
    simp only [List.getElem_map, hqe, e] at h2
    unfold lexo bef ndH at h1
    simp only at h1; omega
theorem erase_map {α β : Type} (f : α → β) (L : List α) (i : Nat) : (L.eraseIdx i).map f = (L.map f).eraseIdx i := by
  rw [List.eraseIdx_eq_take_drop_succ, List.eraseIdx_eq_take_drop_succ, List.map_append, List.map_take, List.map_drop]
theorem erase_perm {α : Type} {L : List α} {i : Nat} {p : α} (h : L[i]? = some p) : L.Perm (p :: L.eraseIdx i) := by
  obtain ⟨hi, rfl⟩ := List.getElem?_eq_some_iff.1 h
  have e : L = L.take i ++ L[i] :: L.drop (i + 1) := by rw [← List.drop_eq_getElem_cons hi, List.take_append_drop]
  rw [List.eraseIdx_eq_take_drop_succ]
  conv => lhs; rw [e]
  exact List.perm_middle
end Go.V
