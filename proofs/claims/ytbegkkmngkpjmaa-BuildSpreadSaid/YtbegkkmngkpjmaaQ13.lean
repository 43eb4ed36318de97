/- Coins of other weights and other names: for the plain laws of layer 6. -/
import Derived.Test.YtbegkkmngkpjmaaQ12
set_option linter.unusedVariables false
set_option linter.unusedSimpArgs false
namespace Go.V
open Go
def Coin.alt (c : Nat) (φ : Nat → Nat) : Coin → Coin
  | .leaf w s => .leaf (c * w) (φ s)
  | .pack a b => .pack (a.alt c φ) (b.alt c φ)
section
variable {c : Nat} {φ : Nat → Nat}
theorem alt_wt (x : Coin) : (x.alt c φ).wt = c * x.wt := by
  induction x with
  | leaf w s => rfl
  | pack a b iha ihb => simp only [Coin.alt, Coin.wt, iha, ihb, Nat.mul_add]
theorem alt_le (hc : 0 < c) (x y : Coin) : (x.alt c φ).wt ≤ (y.alt c φ).wt ↔ x.wt ≤ y.wt := by
  rw [alt_wt, alt_wt]
  exact ⟨fun h => Nat.le_of_mul_le_mul_left h hc, fun h => Nat.mul_le_mul_left _ h⟩
theorem alt_lt (hc : 0 < c) (x y : Coin) : (x.alt c φ).wt < (y.alt c φ).wt ↔ x.wt < y.wt := by
  have := alt_le (φ := φ) hc y x
  omega
theorem alt_packs : ∀ l : List Coin, packs (l.map (Coin.alt c φ)) = (packs l).map (Coin.alt c φ)
  | [] => by simp [packs]
  | [_] => by simp [packs]
  | a :: b :: l => by
    rw [List.map_cons, List.map_cons, packs, packs, List.map_cons, alt_packs l]
    rfl
theorem alt_mrg (hc : 0 < c) : ∀ (N : Nat) (p q : List Coin), p.length + q.length ≤ N → mrg (p.map (Coin.alt c φ)) (q.map (Coin.alt c φ)) = (mrg p q).map (Coin.alt c φ) := by
  intro N
  induction N with
  | zero =>
    intro p q h
    obtain rfl := List.eq_nil_of_length_eq_zero (by omega : p.length = 0)
    obtain rfl := List.eq_nil_of_length_eq_zero (by omega : q.length = 0)
    simp [mrg_nil]
  | succ N ih =>
    intro p q h
    cases p with
    | nil => rw [List.map_nil, mrg_nil, mrg_nil]
    | cons a p =>
      cases q with
      | nil => rw [List.map_nil, mrg_nil', mrg_nil']
      | cons b q =>
        simp only [List.length_cons] at h
        have i1 := ih p (b :: q) (by simp only [List.length_cons]; omega)
        have i2 := ih (a :: p) q (by simp only [List.length_cons]; omega)
        rw [List.map_cons, List.map_cons, mrg_cons, mrg_cons]
        rw [List.map_cons] at i1 i2
        by_cases d : a.wt ≤ b.wt
        · rw [if_pos d, if_pos ((alt_le hc a b).2 d), i1, List.map_cons]
        · rw [if_neg d, if_neg (fun e => d ((alt_le hc a b).1 e)), i2, List.map_cons]
theorem alt_prow (hc : 0 < c) (L : List Coin) : ∀ r, prow (L.map (Coin.alt c φ)) r = (prow L r).map (Coin.alt c φ) := by
  intro r
  induction r with
  | zero => rfl
  | succ r ih => rw [prow, prow, ih, alt_packs, alt_mrg hc _ _ _ (Nat.le_refl _)]
theorem alt_cnt {P : Nat → Prop} (hφ : ∀ x y, P x → P y → φ x = φ y → x = y) {i : Nat} (hi : P i) : ∀ (t : Coin), (∀ x ∈ t.sy, P x.toNat) → (t.alt c φ).cnt (φ i) = t.cnt i
  | .leaf w s, h => by
    have hs := h (s : Int) (by simp [Coin.sy])
    rw [Int.toNat_natCast] at hs
    simp only [Coin.alt, Coin.cnt]
    by_cases e : s = i
    · subst e; rw [if_pos rfl, if_pos rfl]
    · rw [if_neg e, if_neg (fun e2 => e (hφ s i hs hi e2))]
  | .pack a b, h => by
    simp only [Coin.alt, Coin.cnt]
    rw [alt_cnt hφ hi a (fun x hx => h x (by simp [Coin.sy, hx])), alt_cnt hφ hi b (fun x hx => h x (by simp [Coin.sy, hx]))]
theorem alt_dsum {P : Nat → Prop} (hφ : ∀ x y, P x → P y → φ x = φ y → x = y) {i : Nat} (hi : P i) : ∀ (t : Coin), (∀ x ∈ t.sy, P x.toNat) → (t.alt c φ).dsum (φ i) = t.dsum i
  | .leaf w s, h => rfl
  | .pack a b, h => by
    simp only [Coin.alt, Coin.dsum]
    rw [alt_dsum hφ hi a (fun x hx => h x (by simp [Coin.sy, hx])), alt_dsum hφ hi b (fun x hx => h x (by simp [Coin.sy, hx])), alt_cnt hφ hi a (fun x hx => h x (by simp [Coin.sy, hx])), alt_cnt hφ hi b (fun x hx => h x (by simp [Coin.sy, hx]))]
theorem alt_csum {P : Nat → Prop} (hφ : ∀ x y, P x → P y → φ x = φ y → x = y) {i : Nat} (hi : P i) : ∀ (l : List Coin), (∀ d ∈ l, ∀ x ∈ d.sy, P x.toNat) → csum (φ i) (l.map (Coin.alt c φ)) = csum i l := by
  intro l
  induction l with
  | nil => intro _; rfl
  | cons a l ih =>
    intro h
    rw [List.map_cons, csum_cons, csum_cons, alt_cnt hφ hi a (h a (by simp)), ih fun d hd => h d (by simp [hd])]
theorem alt_best (hc : 0 < c) {l : List Coin} {i : Nat} {d : Coin} (h : Best l i d) : Best (l.map (Coin.alt c φ)) i (d.alt c φ) := by
  refine ⟨by rw [List.getElem?_map, h.at_]; rfl, fun j e hj => ?_, fun j e hji hj => ?_⟩
  · rw [List.getElem?_map] at hj
    obtain ⟨q, hq, rfl⟩ := Option.map_eq_some_iff.1 hj
    exact (alt_le hc d q).2 (h.least j q hq)
  · rw [List.getElem?_map] at hj
    obtain ⟨q, hq, rfl⟩ := Option.map_eq_some_iff.1 hj
    exact (alt_lt hc d q).2 (h.first j q hji hq)
theorem alt_joined (hc : 0 < c) {l : List Coin} {t : Coin} {w : Nat} (h : Joined l t w) : ∃ w', Joined (l.map (Coin.alt c φ)) (t.alt c φ) w' := by
  induction h with
  | one t => exact ⟨0, .one _⟩
  | @two l i j p d t w h1 h2 h ih =>
    obtain ⟨w', hw⟩ := ih
    refine ⟨_, .two (alt_best hc h1) (j := j) (d := d.alt c φ) (by rw [← erase_map]; exact alt_best hc h2) (w := w') ?_⟩
    rw [← erase_map, ← erase_map]
    rw [List.map_append] at hw
    exact hw
end
theorem joined_sy {P : Nat → Prop} {l : List Coin} {t : Coin} {w : Nat} (h : Joined l t w) (hl : ∀ d ∈ l, ∀ x ∈ d.sy, P x.toNat) : ∀ x ∈ t.sy, P x.toNat := by
  induction h with
  | one t => exact hl t (by simp)
  | @two l i j p d t w h1 h2 h ih =>
    refine ih fun e he => ?_
    rcases List.mem_append.1 he with he | he
    · exact hl e (List.mem_of_mem_eraseIdx (List.mem_of_mem_eraseIdx he))
    · rw [List.mem_singleton] at he
      subst he
      intro x hx
      simp only [Coin.sy, List.mem_append] at hx
      rcases hx with hx | hx
      · exact hl p h1.mem x hx
      · exact hl d (List.mem_of_mem_eraseIdx h2.mem) x hx
/-- Two lists of frequencies that are alike: the symbols of one by the other's, in their order, all frequencies by one number. -/
structure Alike (a b : List Int) (c : Nat) (φ : Nat → Nat) : Prop where
  pos : 0 < c
  syms : uS b = (uS a).map fun x => ((φ x.toNat : Nat) : Int)
  wts : ∀ i, used a i → rd b (φ i : Int) = (c : Int) * rd a (i : Int)
theorem Alike.inj {a b : List Int} {c : Nat} {φ : Nat → Nat} (A : Alike a b c φ) {x y : Nat} (hx : used a x) (hy : used a y) : (x < y → φ x < φ y) := by
  intro hlt
  have hs := uS_rising b
  rw [A.syms, List.pairwise_map] at hs
  have hm1 := uS_of hx.1 hx.2
  have hm2 := uS_of hy.1 hy.2
  obtain ⟨i, hi, e1⟩ := List.mem_iff_getElem.1 hm1
  obtain ⟨j, hj, e2⟩ := List.mem_iff_getElem.1 hm2
  have hij : i < j := by
    rcases Nat.lt_trichotomy i j with h | h | h
    · exact h
    · subst h; rw [e1] at e2; omega
    · have := List.pairwise_iff_getElem.1 (uS_rising a) j i hj hi h
      rw [e1, e2] at this; omega
  have := List.pairwise_iff_getElem.1 hs i j hi hj hij
  rw [e1, e2, Int.toNat_natCast, Int.toNat_natCast] at this
  omega
theorem Alike.one {a b : List Int} {c : Nat} {φ : Nat → Nat} (A : Alike a b c φ) : ∀ x y, used a x → used a y → φ x = φ y → x = y := fun x y hx hy e => by
  rcases Nat.lt_trichotomy x y with h | h | h
  · have := A.inj hx hy h; omega
  · exact h
  · have := A.inj hy hx h; omega
theorem Alike.cls {a b : List Int} {c : Nat} {φ : Nat → Nat} (A : Alike a b c φ) {S : List Int} (hS : ∀ x ∈ S, used a x.toNat ∧ 0 ≤ x) : clS b (S.map fun x => ((φ x.toNat : Nat) : Int)) = (clS a S).map (Coin.alt c φ) := by
  unfold clS
  rw [List.map_map, List.map_map]
  refine List.map_congr_left fun x hx => ?_
  obtain ⟨h1, h2⟩ := hS x hx
  have hw := A.wts x.toNat h1
  rw [Int.toNat_of_nonneg h2] at hw
  have hp := h1.2
  rw [Int.toNat_of_nonneg h2] at hp
  simp only [Function.comp, Coin.alt]
  rw [Int.toNat_natCast, hw]
  congr 1
  rw [Int.toNat_mul (by omega) (by omega), Int.toNat_natCast]
theorem uS_used {a : List Int} : ∀ x ∈ uS a, used a x.toNat ∧ 0 ≤ x := fun x hx => by
  obtain ⟨i, rfl, h1, h2⟩ := uS_mem hx
  rw [Int.toNat_natCast]; exact ⟨⟨h1, h2⟩, by omega⟩
theorem Alike.srt {a b : List Int} {c : Nat} {φ : Nat → Nat} (A : Alike a b c φ) : srt b = (srt a).map fun x => ((φ x.toNat : Nat) : Int) := by
  refine kle_one ((srt_perm b).trans ?_) (srt_sorted b) ?_
  · rw [A.syms]; exact ((srt_perm a).map _).symm
  · rw [List.pairwise_map]
    refine List.Pairwise.imp_of_mem ?_ (srt_sorted a)
    intro x y hx hy h
    obtain ⟨⟨hx1, hx2⟩, hx3⟩ := uS_used x ((srt_perm a).subset hx)
    obtain ⟨⟨hy1, hy2⟩, hy3⟩ := uS_used y ((srt_perm a).subset hy)
    have w1 := A.wts x.toNat ⟨hx1, hx2⟩
    have w2 := A.wts y.toNat ⟨hy1, hy2⟩
    rw [Int.toNat_of_nonneg hx3] at w1
    rw [Int.toNat_of_nonneg hy3] at w2
    have hc := A.pos
    unfold kle at h ⊢
    rw [w1, w2]
    rcases h with h | ⟨h1, h2⟩
    · exact .inl (Int.mul_lt_mul_of_pos_left h (by omega))
    · refine .inr ⟨by rw [h1], ?_⟩
      have := A.inj ⟨hx1, hx2⟩ ⟨hy1, hy2⟩ (by omega)
      omega
theorem Alike.len {a b : List Int} {c : Nat} {φ : Nat → Nat} (A : Alike a b c φ) : (uS b).length = (uS a).length := by rw [A.syms, List.length_map]
theorem clS_usedsy {a : List Int} {S : List Int} (hS : ∀ x ∈ S, used a x.toNat ∧ 0 ≤ x) : ∀ d ∈ clS a S, ∀ x ∈ d.sy, used a x.toNat := fun d hd x hx => by
  obtain ⟨s, hs, rfl⟩ := List.mem_map.1 hd
  simp only [Coin.sy, List.mem_singleton] at hx
  subst hx
  rw [Int.toNat_natCast]
  exact (hS s hs).1
theorem Alike.lim {a b : List Int} {c : Nat} {φ : Nat → Nat} (A : Alike a b c φ) (lim : Nat) {i : Nat} (hi : used a i) : limF b lim (φ i) = limF a lim i := by
  have hS : ∀ x ∈ Go.V.srt a, used a x.toNat ∧ 0 ≤ x := fun x hx => uS_used x ((srt_perm a).subset hx)
  unfold limF rowP
  rw [A.len, A.srt, A.cls hS, alt_prow A.pos, ← List.map_take]
  exact alt_csum A.one hi _ (fun d hd => prow_sy (clS_usedsy hS) _ d (List.mem_of_mem_take hd))
theorem Alike.dep {a b : List Int} {c : Nat} {φ : Nat → Nat} (A : Alike a b c φ) {t t' : Coin} {w w' : Nat} (h : Joined (clS a (uS a)) t w) (k : Joined (clS b (uS b)) t' w') (uniq : ∀ {l : List Coin} {t t' : Coin} {w w' : Nat}, Joined l t w → Joined l t' w' → t = t') {i : Nat} (hi : used a i) : depth (φ i) t' = depth i t := by
  rw [A.syms, A.cls uS_used] at k
  obtain ⟨w2, h2⟩ := alt_joined (φ := φ) A.pos h
  obtain rfl := uniq h2 k
  rw [depth_dsum, depth_dsum]
  exact alt_dsum A.one hi t (joined_sy h (clS_usedsy uS_used))
end Go.V
