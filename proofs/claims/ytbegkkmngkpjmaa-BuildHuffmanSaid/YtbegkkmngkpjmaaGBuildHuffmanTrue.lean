/- The plain law: no list costs less than that of Depths. -/
import Derived.Test.YtbegkkmngkpjmaaGBuildHuffmanPure
import Derived.Test.YtbegkkmngkpjmaaQ9
import Derived.Test.YtbegkkmngkpjmaaQ12
set_option linter.unusedVariables false
set_option linter.unusedSimpArgs false
namespace Go.V.Pu
open Go Go.V
theorem flat_one {β : Type} (l : List β) : (l.mapIdx fun _ x => [x]).flatten = l := by
  induction l with
  | nil => rfl
  | cons x l ih => rw [List.mapIdx_cons, List.flatten_cons]; exact congrArg (x :: ·) ih
theorem valiselaw6_copied_spec (a : List Int) (h : (a.length : Int) * 8 ≤ 140737488355328) : valiselaw6_copied.f a = some a := by
  unfold valiselaw6_copied.f
  have key := list_loop0 a (by omega) (fun k i s => valiselaw6_copied.l1 k s i a) (fun i x s => .inr (s ++ [x])) (fun s => s) (fun i s => s.length = i)
    (fun k s _ => by rw [valiselaw6_copied.l1, if_neg (by omega)])
    (fun k i x s hx hi hs => by
      have e1 : rd a (i : Int) = x := rd_at hx
      have e2 : (s ++ [x]).length = i + 1 := by simp [hs]
      rw [valiselaw6_copied.l1, if_pos (by omega), gd_pos (by omega), e1, bnd_eq, gd_pos (by rw [e2]; omega), bnd_eq, inc_i (by omega)])
    (fun i x s s' hx hi hs hg => by cases hg; simp [hs]) [] rfl
  have key' : valiselaw6_copied.l1 FU [] 0 a = _ := key
  rw [key', foldE_app (f := fun _ x => [x])]
  simp [flat_one]

def okF (x : Int) : Prop := ¬ (x < 0 ∨ 4294967296 < x)
instance : DecidablePred okF := fun x => by unfold okF; exact inferInstance
/-- The error of a list of frequencies. -/
def badF (a : List Int) : Int := if 288 < a.length then 1 else if ∀ x ∈ a, okF x then 0 else 61
theorem build_used_loop (a : List Int) (hl : a.length ≤ 288) (m : Nat) : ∀ (k i : Nat), i + m = a.length → m < k → (∀ j, j < i → okF (rd a (j : Int))) →
    build_used.l1 k (upS a i) (i : Int) a = some (if ∀ x ∈ a, okF x then .inr (uS a) else .inl ([], 61)) := by
  induction m with
  | zero =>
    intro k i hi hk hok
    obtain ⟨k, rfl⟩ : ∃ q, k = q + 1 := ⟨k - 1, by omega⟩
    have all : ∀ x ∈ a, okF x := fun x hx => by
      obtain ⟨j, hj, rfl⟩ := List.mem_iff_getElem.1 hx
      have := hok j (by omega)
      rwa [rd_at (List.getElem?_eq_getElem hj)] at this
    rw [build_used.l1, if_neg (by omega), if_pos all, show i = a.length by omega]
    rfl
  | succ m ih =>
    intro k i hi hk hok
    obtain ⟨k, rfl⟩ : ∃ q, k = q + 1 := ⟨k - 1, by omega⟩
    have hu := upS_len a i
    rw [build_used.l1, if_pos (by omega), gd_pos (by omega), bnd_eq]
    by_cases c : okF (rd a (i : Int))
    · have key := ih k (i + 1) (by omega) (by omega) (fun j hj => by
        by_cases e : j = i
        · subst e; exact c
        · exact hok j (by omega))
      rw [upS_succ] at key
      unfold okF at c
      rw [if_neg c]
      by_cases p : 0 < rd a (i : Int)
      · rw [if_pos p] at key
        rw [if_pos p, bnd_eq, gd_pos (by simp; omega)]
        simp only [Option.bind_some]
        rw [inc_i (by omega)]
        exact key
      · rw [if_neg p, List.append_nil] at key
        rw [if_neg p]
        simp only [Option.bind_some]
        rw [inc_i (by omega)]
        exact key
    · have na : ¬ ∀ x ∈ a, okF x := fun h => c (by rw [rd_at (List.getElem?_eq_getElem (show i < a.length by omega))]; exact h _ (List.getElem_mem _))
      unfold okF at c
      rw [if_pos (Classical.byContradiction c), if_neg na]
theorem build_used_spec (a : List Int) : build_used.f a = some (if badF a = 0 then uS a else [], badF a) := by
  rw [build_used.f]
  unfold badF
  by_cases c : 288 < a.length
  · rw [if_pos (by omega), if_pos c, if_neg (by decide)]
  · have key := build_used_loop a (by omega) a.length FU 0 (by omega) (by rw [FU_eq]; omega) (fun j hj => by omega)
    have key' : build_used.l1 FU ([] : List Int) 0 a = _ := key
    rw [if_neg (by omega), if_neg c, key']
    by_cases h : ∀ x ∈ a, okF x
    · rw [if_pos h, if_pos h, if_pos rfl]; rfl
    · rw [if_neg h, if_neg h, if_neg (by decide)]; rfl
theorem badF_ok {a : List Int} (h : badF a = 0) : a.length ≤ 288 ∧ ∀ x ∈ a, okF x := by
  unfold badF at h
  by_cases c : 288 < a.length
  · rw [if_pos c] at h; cases h
  · rw [if_neg c] at h
    by_cases d : ∀ x ∈ a, okF x
    · exact ⟨by omega, d⟩
    · rw [if_neg d] at h; cases h
theorem build_few_loop (n : Nat) (hn : n ≤ 288) (S : List Int) : ∀ (R : List Int) (k : Nat) (D : List Int) (f : Nat → Nat), S = D ++ R → R.length < k → S.length ≤ 288 → (∀ x ∈ R, 0 ≤ x ∧ x < (n : Int)) →
    build_few.l1 k (lf n f) (D.length : Int) S = some (lf n (fun i => if (i : Int) ∈ R then 1 else f i)) := by
  intro R
  induction R with
  | nil =>
    intro k D f e hk hS hR
    obtain ⟨k, rfl⟩ : ∃ q, k = q + 1 := ⟨k - 1, by omega⟩
    subst e
    rw [build_few.l1, if_neg (by simp)]
    congr 1
  | cons x R ih =>
    intro k D f e hk hS hR
    obtain ⟨k, rfl⟩ : ∃ q, k = q + 1 := ⟨k - 1, by omega⟩
    simp only [List.length_cons] at hk
    have hx := hR x (by simp)
    obtain ⟨s, rfl⟩ : ∃ s : Nat, x = s := ⟨x.toNat, by omega⟩
    have hat : S[D.length]? = some (s : Int) := by rw [e, List.getElem?_append_right (Nat.le_refl _), Nat.sub_self]; rfl
    have hlt := lt_of_at hat
    have key := ih k (D ++ [(s : Int)]) (fun i => if i = s then 1 else f i) (by rw [e]; simp) (by omega) hS (fun y hy => hR y (by simp [hy]))
    rw [build_few.l1, if_pos (by omega), gd_pos (by omega), bnd_eq, rd_at hat, gd_pos (by rw [lf_length]; exact hx), bnd_eq, Int.toNat_natCast]
    rw [show (1 : Int) = ((1 : Nat) : Int) from rfl, lf_set, show ((1 : Nat) : Int) = 1 from rfl, inc_i (by omega)]
    simp only [List.length_append, List.length_cons, List.length_nil, Nat.zero_add] at key
    rw [key]
    congr 1
    refine lf_congr fun i _ => ?_
    by_cases c : (i : Int) ∈ R
    · rw [if_pos c, if_pos (by simp [c])]
    · rw [if_neg c]
      by_cases d : i = s
      · subst d; rw [if_pos rfl, if_pos (by simp)]
      · rw [if_neg d, if_neg (by simp [c]; omega)]
theorem build_few_spec (n : Nat) (hn : n ≤ 288) (S : List Int) (hS : S.length ≤ 288) (h : ∀ x ∈ S, 0 ≤ x ∧ x < (n : Int)) : build_few.f (n : Int) S = some (lf n (fun i => if (i : Int) ∈ S then 1 else 0)) := by
  have key := build_few_loop n hn S S FU [] (fun _ => 0) rfl (by rw [FU_eq]; omega) hS h
  rw [← lf_zero] at key
  have key' : build_few.l1 FU (List.replicate n (0 : Int)) 0 S = _ := key
  rw [build_few.f, gd_pos (by omega), bnd_eq, Int.toNat_natCast, key']
  rfl

theorem used_at {a : List Int} (ha : ∀ x ∈ a, okF x) {i : Nat} (hi : i < a.length) : 0 ≤ rd a (i : Int) ∧ rd a (i : Int) ≤ 4294967296 := by
  rw [rd_at (List.getElem?_eq_getElem hi)]
  have := ha _ (List.getElem_mem hi)
  unfold okF at this; omega

theorem rdx_gT (l : List Ht) (i : Nat) : rdx E_heap_node_int l (i : Int) = gT l i := by unfold rdx gT; rw [Int.toNat_natCast]; rfl
theorem before_eq (x y : Ht) : heap_node_int_before.f x.1 x.2.1 x.2.2 y.1 y.2.1 y.2.2 = some (decide (bef x y)) := rfl
theorem half_i {i : Nat} (h0 : 0 < i) (h : i < 4611686018427387904) : IntKind.i64.wrap (Int.tdiv (IntKind.i64.wrap ((i : Int) - 1)) 2) = (((i - 1) / 2 : Nat) : Int) := by
  rw [wr_i64 (x := (i : Int) - 1) (by omega), Int.tdiv_eq_ediv_of_nonneg (by omega), wr_i64 (by omega)]; omega
theorem push_l1 (n : Nat) (hn : n ≤ 1000000) : ∀ (i k : Nat) (l : List Ht), l.length = n → i < n → i < k → UpI l i → ∃ l', heap_Heap_int_Push.l1 k l (i : Int) = some l' ∧ Heap l' ∧ l'.Perm l := by
  intro i
  induction i using Nat.strongRecOn with
  | _ i ih =>
    intro k l hl hi hk hu
    obtain ⟨k, rfl⟩ : ∃ q, k = q + 1 := ⟨k - 1, by omega⟩
    by_cases c : i = 0
    · subst c
      exact ⟨l, by rw [heap_Heap_int_Push.l1, if_neg (by omega)], up_stop hu (.inl rfl), List.Perm.refl _⟩
    · rw [heap_Heap_int_Push.l1, if_pos (by omega), half_i (by omega) (by omega), bnd_eq, gd_pos (by omega), gd_pos (by omega), rdx_gT, rdx_gT, before_eq]
      simp only [Option.bind_some]
      by_cases b : bef (gT l i) (gT l ((i - 1) / 2))
      · have hu2 := up_step hu (by omega) (by omega) b
        obtain ⟨l', e, h1, h2⟩ := ih ((i - 1) / 2) (by omega) k (swp l i ((i - 1) / 2)) (by rw [swp_length]; exact hl) (by omega) (by omega) hu2
        rw [decide_eq_true b, if_neg (by decide), Int.toNat_natCast, bnd_eq, gd_pos (by simp; omega), Int.toNat_natCast, bnd_eq]
        exact ⟨l', e, h1, h2.trans (swp_perm (by omega) (by omega))⟩
      · rw [decide_eq_false b, if_pos (by decide)]
        exact ⟨l, rfl, up_stop hu (.inr b), List.Perm.refl _⟩
theorem push_spec (l : List Ht) (h : Heap l) (hn : l.length < 1000000) (key : Int) (turn : Nat) (ht : turn < 1000000) (v : Int) : ∃ l', heap_Heap_int_Push.f l (turn : Int) key v = some (l', ((turn + 1 : Nat) : Int)) ∧ Heap l' ∧ l'.Perm ((key, (turn : Int), v) :: l) := by
  have el : (l ++ [(key, (turn : Int), v)]).length = l.length + 1 := by simp
  obtain ⟨l', e, h1, h2⟩ := push_l1 (l.length + 1) (by omega) l.length FU (l ++ [(key, (turn : Int), v)]) el (by omega) (by rw [FU_eq]; omega) (up_new h _)
  refine ⟨l', ?_, h1, h2.trans (List.perm_append_comm (l₁ := l) (l₂ := [_]))⟩
  have ew : IntKind.i64.wrap (((l.length + 1 : Nat) : Int) - 1) = (l.length : Int) := by rw [wr_i64 (by omega)]; omega
  rw [heap_Heap_int_Push.f, bnd_eq, el, gd_pos (by omega), ew, bnd_eq, e, inc_i (by omega)]
  rfl
theorem sift_l13 (l : List Ht) (i : Nat) (hi : i < l.length) (hn : l.length ≤ 1000000) : ∀ (m k d least : Nat), d + m = 2 * i + 3 → 2 * i + 1 ≤ d → m < k → least < l.length → (least = i ∨ ((least - 1) / 2 = i ∧ 0 < least ∧ bef (gT l least) (gT l i))) → (∀ j, 2 * i + 1 ≤ j → j < d → j < l.length → lexo (gT l least) (gT l j)) →
    ∃ c, heap_Heap_int_sift.l13 k (least : Int) (d : Int) l (i : Int) = some ((c : Nat) : Int) ∧ c < l.length ∧ (c = i ∨ ((c - 1) / 2 = i ∧ 0 < c ∧ bef (gT l c) (gT l i))) ∧ (∀ j, 0 < j → j < l.length → (j - 1) / 2 = i → lexo (gT l c) (gT l j)) := by
  intro m
  induction m with
  | zero =>
    intro k d least hd hd2 hk hle h1 h2
    obtain ⟨k, rfl⟩ : ∃ q, k = q + 1 := ⟨k - 1, by omega⟩
    have e2 : IntKind.i64.wrap (IntKind.i64.wrap (2 * (i : Int)) + 2) = ((2 * i + 2 : Nat) : Int) := by rw [wr_i64 (x := 2 * (i : Int)) (by omega), wr_i64 (by omega)]; omega
    refine ⟨least, ?_, hle, h1, fun j j0 hj hp => h2 j (by omega) (by omega) hj⟩
    rw [heap_Heap_int_sift.l13, e2, if_neg (by omega)]
  | succ m ih =>
    intro k d least hd hd2 hk hle h1 h2
    obtain ⟨k, rfl⟩ : ∃ q, k = q + 1 := ⟨k - 1, by omega⟩
    have e2 : IntKind.i64.wrap (IntKind.i64.wrap (2 * (i : Int)) + 2) = ((2 * i + 2 : Nat) : Int) := by rw [wr_i64 (x := 2 * (i : Int)) (by omega), wr_i64 (by omega)]; omega
    rw [heap_Heap_int_sift.l13, e2]
    by_cases c : d < l.length
    · rw [if_pos (by omega), gd_pos (by omega), gd_pos (by omega), rdx_gT, rdx_gT, before_eq]
      simp only [Option.bind_some]
      by_cases b : bef (gT l d) (gT l least)
      · rw [decide_eq_true b, if_pos rfl]
        simp only [Option.bind_some]
        rw [bnd_eq, inc_i (by omega)]
        refine ih k (d + 1) d (by omega) (by omega) (by omega) c (.inr ⟨by omega, by omega, ?_⟩) (fun j hj1 hj2 hj3 => ?_)
        · rcases h1 with h1 | h1
          · subst h1; exact b
          · have := h1.2.2; unfold bef at *; omega
        · by_cases e : j = d
          · subst e; exact lexo_refl _
          · exact lexo_trans (bef_lexo b) (h2 j hj1 (by omega) hj3)
      · rw [decide_eq_false b, if_neg (by decide)]
        simp only [Option.bind_some]
        rw [bnd_eq, inc_i (by omega)]
        refine ih k (d + 1) least (by omega) (by omega) (by omega) hle h1 (fun j hj1 hj2 hj3 => ?_)
        by_cases e : j = d
        · subst e; exact b
        · exact h2 j hj1 (by omega) hj3
    · rw [if_neg (by omega)]
      exact ⟨least, rfl, hle, h1, fun j j0 hj hp => h2 j (by omega) (by omega) hj⟩
theorem sift_l11 (n : Nat) (hn : n ≤ 1000000) (turn : Int) : ∀ (m k i : Nat) (l : List Ht), l.length = n → i + m = n → 0 < m → m < k → DnI l i → ∃ l', heap_Heap_int_sift.l11 k l (i : Int) turn = some (l', turn) ∧ Heap l' ∧ l'.Perm l := by
  intro m
  induction m using Nat.strongRecOn with
  | _ m ih =>
    intro k i l hl hi hm hk hd
    obtain ⟨k, rfl⟩ : ∃ q, k = q + 1 := ⟨k - 1, by omega⟩
    have e1 : IntKind.i64.wrap (IntKind.i64.wrap (2 * (i : Int)) + 1) = ((2 * i + 1 : Nat) : Int) := by rw [wr_i64 (x := 2 * (i : Int)) (by omega), wr_i64 (by omega)]; omega
    obtain ⟨c, ec, h1, h2, h3⟩ := sift_l13 l i (by omega) (by omega) 2 FU (2 * i + 1) i (by omega) (by omega) (by rw [FU_eq]; omega) (by omega) (.inl rfl) (fun j h1 h2 => by omega)
    rw [heap_Heap_int_sift.l11, e1, bnd_eq, ec]
    simp only [Option.bind_some]
    by_cases d : c = i
    · subst d
      rw [if_pos rfl]
      exact ⟨l, rfl, dn_stop hd h3, List.Perm.refl _⟩
    · rcases h2 with h2 | ⟨h2, h4, h5⟩
      · exact (d h2).elim
      · rw [if_neg (by omega), gd_pos (by omega), gd_pos (by omega), rdx_gT, rdx_gT, Int.toNat_natCast, bnd_eq, gd_pos (by simp; omega), Int.toNat_natCast, bnd_eq]
        obtain ⟨l', e, g1, g2⟩ := ih (n - c) (by omega) k c (swp l i c) (by rw [swp_length]; exact hl) (by omega) (by omega) (by omega) (dn_step hd h4 h1 h2 h3 h5)
        exact ⟨l', e, g1, g2.trans (swp_perm (by omega) h1)⟩
theorem pop_spec (l : List Ht) (h : Heap l) (h0 : 0 < l.length) (hn : l.length ≤ 1000000) (turn : Int) : ∃ l', heap_Heap_int_Pop.f l turn = some ((gT l 0).1, (gT l 0).2.2, true, l', turn) ∧ Heap l' ∧ l.Perm (gT l 0 :: l') ∧ (∀ y ∈ l, lexo (gT l 0) y) := by
  have ew : IntKind.i64.wrap ((l.length : Int) - 1) = ((l.length - 1 : Nat) : Int) := by rw [wr_i64 (by omega)]; omega
  have hmin : ∀ y ∈ l, lexo (gT l 0) y := fun y hy => by
    obtain ⟨j, hj, e⟩ := List.mem_iff_getElem.1 hy
    have := heap_min h j hj
    rw [gT_at hj, e] at this; exact this
  have z0 : rdx E_heap_node_int l 0 = gT l 0 := rdx_gT l 0
  have pk : heap_Heap_int_Peek.f l turn = some ((gT l 0).1, (gT l 0).2.2, true, l, turn) := by
    rw [heap_Heap_int_Peek.f, if_neg (by omega), gd_pos (by omega), z0]
  have tl : ∃ l', heap_Heap_int_sift.f (topped l) turn = some (l', turn) ∧ Heap l' ∧ l'.Perm (topped l) := by
    have tlen := topped_length (l := l)
    by_cases c : l.length = 1
    · have e : topped l = [] := List.eq_nil_of_length_eq_zero (by omega)
      rw [e]
      refine ⟨[], ?_, fun j _ hj => by simp at hj, List.Perm.refl _⟩
      rw [heap_Heap_int_sift.f, FU_eq, heap_Heap_int_sift.l11]
      have ec : heap_Heap_int_sift.l13 FU 0 1 ([] : List Ht) 0 = some 0 := by
        rw [FU_eq, heap_Heap_int_sift.l13, if_neg (by simp)]
      have e3 : IntKind.i64.wrap (IntKind.i64.wrap (2 * 0) + 1) = 1 := by decide
      rw [e3, bnd_eq, ec]
      rfl
    · exact sift_l11 (topped l).length (by omega) turn (topped l).length FU 0 (topped l) rfl (by omega) (by omega) (by rw [FU_eq]; omega) (topped_dn h)
  obtain ⟨l', e, h1, h2⟩ := tl
  refine ⟨l', ?_, h1, (topped_perm h0).trans ((h2.symm).cons _), hmin⟩
  rw [heap_Heap_int_Pop.f, pk]
  simp only [Option.bind_some]
  rw [if_neg (by decide), ew, bnd_eq, gd_pos (by omega), gd_pos (by omega), bnd_eq, rdx_gT, gd_pos (by simp; omega), Int.toNat_natCast, bnd_eq, gd_pos (by simp)]
  have e' : heap_Heap_int_sift.f (((l.set (0 : Int).toNat ((gT l (l.length - 1)).1, (gT l (l.length - 1)).2.1, (gT l (l.length - 1)).2.2)).set (l.length - 1) (0, 0, 0)).take (l.length - 1)) turn = some (l', turn) := e
  rw [e']
  rfl

theorem rd_setN {l : List Int} {i x : Nat} {v : Int} (h : i < l.length) : rd (l.set i v) (x : Int) = if x = i then v else rd l (x : Int) := by
  unfold rd
  rw [Int.toNat_natCast, List.getD_eq_getElem?_getD, List.getD_eq_getElem?_getD, List.getElem?_set]
  by_cases c : i = x
  · subst c; simp [h]
  · rw [if_neg c, if_neg (fun e => c e.symm)]
theorem rd_appN {l : List Int} {x : Nat} {v : Int} (h : x < l.length) : rd (l ++ [v]) (x : Int) = rd l (x : Int) := by
  unfold rd
  rw [Int.toNat_natCast, List.getD_eq_getElem?_getD, List.getD_eq_getElem?_getD, List.getElem?_append_left h]
theorem rd_appE {l : List Int} {v : Int} : rd (l ++ [v]) (l.length : Int) = v := rd_at (by simp)
def wU (a : List Int) (j : Nat) : Nat := (rd a ((uS a).getD j 0)).toNat
def sU (a : List Int) (j : Nat) : Nat := ((uS a).getD j 0).toNat
def lvN (a : List Int) (m : Nat) : List (Nat × Coin) := (List.range m).map fun j => (j, .leaf (wU a j) (sU a j))
theorem lvN_snd (a : List Int) (m : Nat) : (lvN a m).map Prod.snd = lvs (wU a) (sU a) m := by unfold lvN lvs; rw [List.map_map]; rfl
theorem lvN_fst (a : List Int) (m : Nat) : (lvN a m).map Prod.fst = List.range m := by
  unfold lvN
  rw [List.map_map]
  exact (List.map_congr_left fun _ _ => rfl).trans (List.map_id _)
theorem sU_at {a : List Int} {j : Nat} (h : j < (uS a).length) : (uS a).getD j 0 = (sU a j : Int) ∧ used a (sU a j) := by
  have hm : (uS a).getD j 0 ∈ uS a := by rw [getD_at h]; exact List.getElem_mem h
  obtain ⟨i, hi, h1, h2⟩ := uS_mem hm
  have e : sU a j = i := by unfold sU; rw [hi, Int.toNat_natCast]
  rw [e]
  rw [hi] at h2
  exact ⟨hi, h1, h2⟩
theorem sU_one {a : List Int} {i j : Nat} (hi : i < (uS a).length) (hj : j < (uS a).length) (h : sU a i = sU a j) : i = j := by
  have h1 := (sU_at hi).1
  have h2 := (sU_at hj).1
  rw [h, ← h2, getD_at hi, getD_at hj] at h1
  have hs := uS_rising a
  rcases Nat.lt_trichotomy i j with c | c | c
  · have := List.pairwise_iff_getElem.1 hs i j hi hj c; omega
  · exact c
  · have := List.pairwise_iff_getElem.1 hs j i hj hi c; omega
theorem sU_of {a : List Int} {i : Nat} (h : used a i) : ∃ j, j < (uS a).length ∧ sU a j = i := by
  obtain ⟨j, hj, e⟩ := List.mem_iff_getElem.1 (uS_of h.1 h.2)
  refine ⟨j, hj, ?_⟩
  unfold sU
  rw [getD_at hj, e, Int.toNat_natCast]
theorem dep_l1 (a : List Int) (ha : a.length ≤ 288) : ∀ (m k t : Nat) (nodes : List Ht), t + m = (uS a).length → m < k → Heap nodes → nodes.Perm ((lvN a t).map ndH) →
    ∃ nodes', build_Depths.l1 k nodes (t : Int) (t : Int) a (uS a) = some (nodes', ((uS a).length : Int)) ∧ Heap nodes' ∧ nodes'.Perm ((lvN a (uS a).length).map ndH) := by
  have hu := uS_len a
  intro m
  induction m with
  | zero =>
    intro k t nodes ht hk hh hp
    obtain ⟨k, rfl⟩ : ∃ q, k = q + 1 := ⟨k - 1, by omega⟩
    obtain rfl : t = (uS a).length := by omega
    exact ⟨nodes, by rw [build_Depths.l1, if_neg (by omega)], hh, hp⟩
  | succ m ih =>
    intro k t nodes ht hk hh hp
    obtain ⟨k, rfl⟩ : ∃ q, k = q + 1 := ⟨k - 1, by omega⟩
    have hlt : t < (uS a).length := by omega
    obtain ⟨e1, e2, e3⟩ := sU_at hlt
    have er : rd (uS a) (t : Int) = (sU a t : Int) := by rw [← e1]; exact rd_at (by rw [List.getElem?_eq_getElem hlt, getD_at hlt])
    have nl : nodes.length = t := by rw [hp.length_eq]; simp [lvN]
    obtain ⟨n2, p1, p2, p3⟩ := push_spec nodes hh (by omega) (rd a (sU a t : Int)) t (by omega) (t : Int)
    have hx : (rd a (sU a t : Int), (t : Int), (t : Int)) = ndH (t, .leaf (wU a t) (sU a t)) := by
      unfold ndH wU
      simp only [Coin.wt]
      rw [e1, Int.toNat_of_nonneg (by omega)]
    have hl : lvN a (t + 1) = lvN a t ++ [(t, .leaf (wU a t) (sU a t))] := by unfold lvN; rw [List.range_succ, List.map_append]; rfl
    have pp : n2.Perm ((lvN a (t + 1)).map ndH) := by
      rw [hl, List.map_append]
      refine p3.trans ?_
      rw [hx]
      exact (hp.cons _).trans (List.perm_append_comm (l₁ := [_]) (l₂ := (lvN a t).map ndH))
    rw [build_Depths.l1, if_pos (by omega), gd_pos (by omega), er, bnd_eq, gd_pos (by omega), p1]
    simp only [Option.bind_some]
    rw [inc_i (by omega)]
    exact ih k (t + 1) n2 (by omega) (by omega) p2 pp
def wtsum (L : List (Nat × Coin)) : Nat := ((L.map Prod.snd).map Coin.wt).sum
theorem dep_l3 (u : Nat) (sy : Nat → Nat) : ∀ (n k : Nat) (L : List (Nat × Coin)) (nodes : List Ht) (P : List Int), L.length = n + 1 → n < k → (L.map Prod.fst).Pairwise (· < ·) → (∀ p ∈ L, p.1 < P.length) → Heap nodes → nodes.Perm (L.map ndH) → P.length + n ≤ 1000 →
    (∀ p ∈ L, TreeIn P (L.map Prod.fst) u sy p.1 p.2) → (∀ p ∈ L, (∃ a b, p.2 = .pack a b) → rd P (p.1 : Int) = (p.1 : Int)) → wtsum L ≤ 1000000000000000 →
    ∃ t W P' root, Joined (L.map Prod.snd) t W ∧ build_Depths.l3 k nodes P (P.length : Int) = some P' ∧ root < P'.length ∧ P'.length ≤ 1000 ∧ P.length ≤ P'.length ∧ TreeIn P' [root] u sy root t ∧ ((∃ a b, t = .pack a b) → rd P' (root : Int) = (root : Int)) := by
  intro n
  induction n with
  | zero =>
    intro k L nodes P hL hk hr hlt hh hp hm ht hpk hw
    obtain ⟨k, rfl⟩ : ∃ q, k = q + 1 := ⟨k - 1, by omega⟩
    obtain ⟨p, rfl⟩ : ∃ p, L = [p] := by
      cases L with
      | nil => cases hL
      | cons p L => cases L with
        | nil => exact ⟨p, rfl⟩
        | cons q L => simp at hL
    have nl : nodes.length = 1 := by rw [hp.length_eq]; rfl
    refine ⟨p.2, 0, P, p.1, .one _, ?_, hlt p (by simp), by omega, Nat.le_refl _, ht p (by simp), hpk p (by simp)⟩
    rw [build_Depths.l3, heap_Heap_int_Len.f]
    simp only [Option.bind_some]
    rw [nl, if_neg (by decide)]
  | succ n ih =>
    intro k L nodes P hL hk hr hlt hh hp hm ht hpk hw
    obtain ⟨k, rfl⟩ : ∃ q, k = q + 1 := ⟨k - 1, by omega⟩
    have nl : nodes.length = n + 2 := by rw [hp.length_eq]; simpa using hL
    -- the first one
    obtain ⟨n1, a1, a2, a3, a4⟩ := pop_spec nodes hh (by omega) (by omega) (P.length : Int)
    have m0 : gT nodes 0 ∈ L.map ndH := hp.subset (by rw [gT_at (by omega)]; exact List.getElem_mem _)
    obtain ⟨i, p, b1, b2, b3⟩ := best_of hr m0 (fun y hy => a4 y (hp.symm.subset hy))
    have q1 : n1.Perm ((L.eraseIdx i).map ndH) := by
      have h1 := (erase_perm b1).map ndH
      rw [List.map_cons, b2] at h1
      exact (List.perm_cons _).1 (a3.symm.trans (hp.trans h1))
    -- the second one
    have el1 : (L.eraseIdx i).length = n + 1 := by
      have := (erase_perm b1).length_eq
      simp only [List.length_cons] at this; omega
    have nl1 : n1.length = n + 1 := by rw [q1.length_eq]; simpa using el1
    have hr1 : ((L.eraseIdx i).map Prod.fst).Pairwise (· < ·) := List.Pairwise.sublist ((List.eraseIdx_sublist L i).map _) hr
    obtain ⟨n2, c1, c2, c3, c4⟩ := pop_spec n1 a2 (by omega) (by omega) (P.length : Int)
    have m1 : gT n1 0 ∈ (L.eraseIdx i).map ndH := q1.subset (by rw [gT_at (by omega)]; exact List.getElem_mem _)
    obtain ⟨j, q, d1, d2, d3⟩ := best_of hr1 m1 (fun y hy => c4 y (q1.symm.subset hy))
    have q2 : n2.Perm (((L.eraseIdx i).eraseIdx j).map ndH) := by
      have h1 := (erase_perm d1).map ndH
      rw [List.map_cons, d2] at h1
      exact (List.perm_cons _).1 (c3.symm.trans (q1.trans h1))
    have el2 : ((L.eraseIdx i).eraseIdx j).length = n := by
      have := (erase_perm d1).length_eq
      simp only [List.length_cons] at this; omega
    have pl : L.Perm (p :: q :: (L.eraseIdx i).eraseIdx j) := (erase_perm b1).trans ((erase_perm d1).cons _)
    have hpm : p ∈ L := pl.symm.subset (by simp)
    have hqm : q ∈ L := pl.symm.subset (by simp)
    have hpl := hlt p hpm
    have hql := hlt q hqm
    generalize hR : (L.eraseIdx i).eraseIdx j = R at *
    have nd : (L.map Prod.fst).Nodup := hr.imp (fun h => by omega)
    have nd2 : (p.1 :: q.1 :: R.map Prod.fst).Nodup := ((pl.map Prod.fst).nodup_iff).1 nd
    have memL : ∀ x, x ∈ L.map Prod.fst ↔ x = p.1 ∨ x = q.1 ∨ x ∈ R.map Prod.fst := fun x => by
      have := (pl.map Prod.fst).mem_iff (a := x)
      simp only [List.map_cons, List.mem_cons] at this
      exact this
    obtain ⟨nd3, nd4⟩ := List.nodup_cons.1 nd2
    obtain ⟨nd5, nd6⟩ := List.nodup_cons.1 nd4
    have npq : p.1 ≠ q.1 := fun e => nd3 (by rw [e]; simp)
    have npR : p.1 ∉ R.map Prod.fst := fun h => nd3 (by simp only [List.mem_cons]; exact .inr h)
    -- what is pushed
    have hws : wtsum L = p.2.wt + (q.2.wt + wtsum R) := by
      unfold wtsum
      rw [((pl.map Prod.snd).map Coin.wt).sum_nat]
      rfl
    have x1 : (gT nodes 0).1 = (p.2.wt : Int) ∧ (gT nodes 0).2.2 = (p.1 : Int) := by rw [← b2]; exact ⟨rfl, rfl⟩
    have x2 : (gT n1 0).1 = (q.2.wt : Int) ∧ (gT n1 0).2.2 = (q.1 : Int) := by rw [← d2]; exact ⟨rfl, rfl⟩
    have ew : IntKind.i64.wrap ((p.2.wt : Int) + (q.2.wt : Int)) = ((p.2.wt + q.2.wt : Nat) : Int) := by rw [wr_i64 (by omega)]; rfl
    have nl2 : n2.length = n := by rw [q2.length_eq]; simpa using el2
    obtain ⟨n3, e1, e2, e3⟩ := push_spec n2 c2 (by omega) ((p.2.wt + q.2.wt : Nat) : Int) P.length (by omega) (P.length : Int)
    have lenP : (((P.set p.1 (P.length : Int)).set q.1 (P.length : Int)) ++ [(P.length : Int)]).length = P.length + 1 := by simp
    have rdP : ∀ x, x < P.length → rd (((P.set p.1 (P.length : Int)).set q.1 (P.length : Int)) ++ [(P.length : Int)]) (x : Int) = if x = q.1 then (P.length : Int) else if x = p.1 then (P.length : Int) else rd P (x : Int) := fun x hx => by
      rw [rd_appN (by simpa using hx), rd_setN (by simpa using hql), rd_setN hpl]
    have fsts : (R ++ [(P.length, Coin.pack p.2 q.2)]).map Prod.fst = R.map Prod.fst ++ [P.length] := by simp
    have hRm : ∀ r ∈ R, r ∈ L := fun r hr => pl.symm.subset (by simp [hr])
    have keep : ∀ r ∈ L, TreeIn (((P.set p.1 (P.length : Int)).set q.1 (P.length : Int)) ++ [(P.length : Int)]) (R.map Prod.fst ++ [P.length]) u sy r.1 r.2 := fun r hr => by
      refine tree_keep (ht r hr) (fun x hx hn hm => ?_) (fun x hx hn => ?_)
      · rcases List.mem_append.1 hm with h | h
        · exact hn ((memL x).2 (.inr (.inr h)))
        · have := hlt r hr
          rw [List.mem_singleton] at h; omega
      · have := hlt r hr
        rw [rdP x (by omega), if_neg (fun e => hn ((memL x).2 (.inr (.inl e)))), if_neg (fun e => hn ((memL x).2 (.inl e)))]
    obtain ⟨t, W, P', root, g1, g2, g3, g4, g5, g6, g7⟩ := ih k (R ++ [(P.length, .pack p.2 q.2)]) n3 (((P.set p.1 (P.length : Int)).set q.1 (P.length : Int)) ++ [(P.length : Int)]) (by simp [el2]) (by omega)
      (by
        rw [fsts]
        refine List.pairwise_append.2 ⟨?_, List.pairwise_singleton _ _, fun x hx y hy => ?_⟩
        · rw [← hR]; exact List.Pairwise.sublist ((List.eraseIdx_sublist _ j).map _) hr1
        · rw [List.mem_singleton] at hy
          obtain ⟨r, hr, rfl⟩ := List.mem_map.1 hx
          have := hlt r (hRm r hr); omega)
      (fun r hr => by
        rw [lenP]
        rcases List.mem_append.1 hr with h | h
        · have := hlt r (hRm r h); omega
        · rw [List.mem_singleton] at h; subst h; show P.length < _; omega)
      e2
      (by
        rw [List.map_append]
        exact e3.trans ((q2.cons _).trans (List.perm_append_comm (l₁ := [_]) (l₂ := R.map ndH))))
      (by rw [lenP]; omega)
      (fun r hr => by
        rw [fsts]
        rcases List.mem_append.1 hr with h | h
        · exact keep r (hRm r h)
        · rw [List.mem_singleton] at h; subst h
          refine .pack hpl hql (fun hm => ?_) (fun hm => ?_) ?_ ?_ (keep p hpm) (keep q hqm)
          · rcases List.mem_append.1 hm with h | h
            · exact npR h
            · rw [List.mem_singleton] at h; omega
          · rcases List.mem_append.1 hm with h | h
            · exact nd5 h
            · rw [List.mem_singleton] at h; omega
          · rw [rdP p.1 hpl, if_neg npq, if_pos rfl]
          · rw [rdP q.1 hql, if_pos rfl])
      (fun r hr hpack => by
        rcases List.mem_append.1 hr with h | h
        · have hrl := hlt r (hRm r h)
          have hmem : r.1 ∈ R.map Prod.fst := List.mem_map.2 ⟨r, h, rfl⟩
          have hn1 : r.1 ≠ q.1 := fun e => nd5 (by rw [← e]; exact hmem)
          have hn2 : r.1 ≠ p.1 := fun e => npR (by rw [← e]; exact hmem)
          rw [rdP r.1 hrl, if_neg hn1, if_neg hn2]
          exact hpk r (hRm r h) hpack
        · rw [List.mem_singleton] at h; subst h
          show rd _ (P.length : Int) = _
          have := rd_appE (l := (P.set p.1 (P.length : Int)).set q.1 (P.length : Int)) (v := (P.length : Int))
          rw [List.length_set, List.length_set] at this
          exact this)
      (by
        have : wtsum (R ++ [(P.length, .pack p.2 q.2)]) = wtsum R + (p.2.wt + q.2.wt) := by unfold wtsum; simp [Coin.wt]
        omega)
    rw [lenP] at g2 g5
    have jn : Joined (L.map Prod.snd) t (p.2.wt + q.2.wt + W) := by
      refine .two b3 (j := j) (d := q.2) (by rw [← erase_map]; exact d3) ?_
      rw [← erase_map, ← erase_map, hR]
      rw [List.map_append] at g1
      exact g1
    refine ⟨t, _, P', root, jn, ?_, g3, g4, by omega, g6, g7⟩
    rw [build_Depths.l3, heap_Heap_int_Len.f]
    simp only [Option.bind_some]
    rw [if_pos (by omega), a1]
    simp only [Option.bind_some]
    rw [c1]
    simp only [Option.bind_some]
    rw [x1.1, x1.2, x2.1, x2.2, ew, bnd_eq, gd_pos (by omega), Int.toNat_natCast, bnd_eq, gd_pos (by simp; omega), Int.toNat_natCast, bnd_eq, bnd_eq, lenP, gd_pos (by omega), e1]
    simp only [Option.bind_some]
    exact g2
theorem dep_l17 (P : List Int) (n s : Nat) (hs : s < n) : ∀ (d k x : Nat) (f : Nat → Nat), StepsTo P x d → d < k → f s + d ≤ 1000000 → build_Depths.l17 k (lf n f) (x : Int) P (s : Int) = some (lf n fun i => if i = s then f s + d else f i) := by
  intro d
  induction d with
  | zero =>
    intro k x f h hk hf
    obtain ⟨k, rfl⟩ : ∃ q, k = q + 1 := ⟨k - 1, by omega⟩
    cases h with
    | stop h e =>
      rw [build_Depths.l17, gd_pos (by omega), e, if_neg (fun c => c rfl)]
      congr 1
      refine lf_congr fun i _ => ?_
      by_cases c : i = s
      · subst c; rw [if_pos rfl]; rfl
      · rw [if_neg c]
  | succ d ih =>
    intro k x f h hk hf
    obtain ⟨k, rfl⟩ : ∃ q, k = q + 1 := ⟨k - 1, by omega⟩
    cases h with
    | @go x y d h e ne st =>
      have key := ih k y (fun i => if i = s then f s + 1 else f i) st (by omega) (by simp; omega)
      rw [build_Depths.l17, gd_pos (by omega), e, if_pos (by omega), lf_length, gd_pos (by omega), lf_rd hs, inc_i (by omega), Int.toNat_natCast, lf_set, bnd_eq, bnd_eq, key]
      congr 1
      refine lf_congr fun i _ => ?_
      by_cases c : i = s
      · subst c; simp; omega
      · simp [c]
def depL (a : List Int) (t : Coin) : List Int := lf a.length fun i => if (i : Int) ∈ uS a then depth i t else 0
theorem dep_l15 (a : List Int) (ha : a.length ≤ 288) (P : List Int) (t : Coin) (hst : ∀ j, j < (uS a).length → StepsTo P j (depth (sU a j) t)) (hd : ∀ j, j < (uS a).length → depth (sU a j) t ≤ 1000) : ∀ (R : List Int) (k : Nat) (D : List Int), uS a = D ++ R → R.length < k →
    build_Depths.l15 k (lf a.length fun i => if (i : Int) ∈ D then depth i t else 0) (D.length : Int) (uS a) P = some (depL a t) := by
  have hu := uS_len a
  intro R
  induction R with
  | nil =>
    intro k D e hk
    obtain ⟨k, rfl⟩ : ∃ q, k = q + 1 := ⟨k - 1, by omega⟩
    rw [List.append_nil] at e
    rw [build_Depths.l15, e, if_neg (by omega)]
    unfold depL
    rw [e]
  | cons x R ih =>
    intro k D e hk
    obtain ⟨k, rfl⟩ : ∃ q, k = q + 1 := ⟨k - 1, by omega⟩
    simp only [List.length_cons] at hk
    have hat : (uS a)[D.length]? = some x := by rw [e, List.getElem?_append_right (Nat.le_refl _), Nat.sub_self]; rfl
    have hlt := lt_of_at hat
    obtain ⟨e1, e2⟩ := sU_at hlt
    have ex : x = (sU a D.length : Int) := by
      rw [← e1, getD_at hlt]
      rw [List.getElem?_eq_getElem hlt] at hat
      exact (Option.some.inj hat).symm
    have nx : (sU a D.length : Int) ∉ D := fun hm => by
      have hs := uS_rising a
      rw [e, ← ex] at *
      have := (List.pairwise_append.1 hs).2.2 x hm x (by simp)
      omega
    have hdd := hd _ hlt
    have t17 := dep_l17 P a.length (sU a D.length) e2.1 (depth (sU a D.length) t) FU D.length (fun i => if (i : Int) ∈ D then depth i t else 0) (hst _ hlt) (by rw [FU_eq]; omega) (by rw [if_neg nx]; omega)
    have ec : (lf a.length fun i => if i = sU a D.length then (if (sU a D.length : Int) ∈ D then depth (sU a D.length) t else 0) + depth (sU a D.length) t else if (i : Int) ∈ D then depth i t else 0) = lf a.length fun i => if (i : Int) ∈ D ++ [x] then depth i t else 0 := lf_congr fun i _ => by
      by_cases c : i = sU a D.length
      · subst c
        rw [if_pos rfl, if_neg nx, if_pos (by rw [ex]; simp)]; omega
      · have c2 : ¬ ((i : Int) = x) := by rw [ex]; omega
        rw [if_neg c]
        by_cases d : (i : Int) ∈ D
        · rw [if_pos d, if_pos (by simp [d])]
        · rw [if_neg d, if_neg (by simp [d, c2])]
    rw [ec] at t17
    have key := ih k (D ++ [x]) (by rw [e]; simp) (by omega)
    have er : rd (uS a) (D.length : Int) = (sU a D.length : Int) := by rw [← ex]; exact rd_at hat
    rw [build_Depths.l15, if_pos (by omega), gd_pos (by omega), er, bnd_eq, t17]
    simp only [Option.bind_some]
    rw [inc_i (by omega)]
    simp only [List.length_append, List.length_cons, List.length_nil, Nat.zero_add] at key
    exact key
theorem sumN_bound {n c : Nat} {f : Nat → Nat} (h : ∀ j, j < n → f j ≤ c) : sumN n f ≤ n * c := by rw [← sumN_const]; exact sumN_le h
theorem build_Depths_spec (a : List Int) : (badF a ≠ 0 ∧ build_Depths.f a = some ([], badF a)) ∨ (badF a = 0 ∧ (uS a).length < 2 ∧ build_Depths.f a = some (fewL a, 0)) ∨
    (badF a = 0 ∧ 2 ≤ (uS a).length ∧ ∃ t W, Joined (lvs (wU a) (sU a) (uS a).length) t W ∧ build_Depths.f a = some (depL a t, 0)) := by
  rw [build_Depths.f, build_used_spec]
  simp only [Option.bind_some]
  by_cases c2 : badF a = 0
  · obtain ⟨b1, b2⟩ := badF_ok c2
    have hu := uS_len a
    rw [if_pos c2, if_neg (fun f => f c2)]
    by_cases c4 : (uS a).length < 2
    · refine .inr (.inl ⟨c2, c4, ?_⟩)
      rw [if_pos (by omega), build_few_spec a.length b1 (uS a) (by omega) (fun x hx => by obtain ⟨i, rfl, hi, _⟩ := uS_mem hx; omega)]
      rfl
    · refine .inr (.inr ⟨c2, by omega, ?_⟩)
      obtain ⟨n1, p1, p2, p3⟩ := dep_l1 a b1 (uS a).length FU 0 [] (by omega) (by rw [FU_eq]; omega) (fun j _ hj => by simp at hj) (List.Perm.refl _)
      have p1' : build_Depths.l1 FU ([] : List Ht) 0 0 a (uS a) = _ := p1
      have hw : ∀ j, j < (uS a).length → wU a j ≤ 4294967296 ∧ 0 < wU a j := fun j hj => by
        obtain ⟨e1, e2, e3⟩ := sU_at hj
        have := used_at b2 e2
        unfold wU
        rw [e1]; omega
      have htot : sumN (uS a).length (wU a) ≤ (uS a).length * 4294967296 := sumN_bound fun j hj => (hw j hj).1
      have hwt : wtsum (lvN a (uS a).length) = sumN (uS a).length (wU a) := by
        unfold wtsum
        rw [lvN_snd]
        exact lvs_wsum _ _ _
      have frp := lvN_fst a (uS a).length
      obtain ⟨t, W, P', root, g1, g2, g3, g4, g5, g6, g7⟩ := dep_l3 (uS a).length (sU a) ((uS a).length - 1) FU (lvN a (uS a).length) n1 (List.replicate (uS a).length 0) (by simp [lvN]; omega) (by rw [FU_eq]; omega)
        (by rw [frp]; exact List.pairwise_lt_range) (fun p hp => by
          obtain ⟨j, hj, rfl⟩ := List.mem_map.1 hp
          simpa using hj) p2 p3 (by simp; omega) (fun p hp => by
          obtain ⟨j, hj, rfl⟩ := List.mem_map.1 hp
          exact .leaf (List.mem_range.1 hj)) (fun p hp hk => by
          obtain ⟨j, hj, rfl⟩ := List.mem_map.1 hp
          obtain ⟨x, y, e⟩ := hk
          cases e) (by rw [hwt]; omega)
      rw [lvN_snd] at g1
      rw [List.length_replicate] at g2 g5
      have hroot := g7 (joined_pack g1 (by rw [lvs_length]; omega))
      have hst0 := tree_steps g6 0 g3 (.stop g3 hroot)
      have hf := huffman (fun i j hi hj h => sU_one hi hj h) (by omega) (fun j hj => (hw j hj).2) (by omega) g1
      have hlv := joined_lv g1
      have elv : (lvs (wU a) (sU a) (uS a).length).flatMap Coin.lv = (List.range (uS a).length).map fun j => (wU a j, sU a j) := by
        unfold lvs
        rw [List.flatMap_map]
        simp only [Coin.lv]
        generalize List.range (uS a).length = R
        induction R with
        | nil => rfl
        | cons a R ih => simp [List.flatMap_cons, ih]
      rw [elv] at hlv
      have pe := ents_places (fun i j hi hj h => sU_one hi hj h) hlv.symm
      have hst : ∀ j, j < (uS a).length → StepsTo P' j (depth (sU a j) t) := fun j hj => by
        obtain ⟨j', h1, h2, h3⟩ := hst0 _ (pe.symm.subset (List.mem_map.2 ⟨j, List.mem_range.2 hj, rfl⟩))
        have := sU_one h1 hj h2
        subst this; exact h3
      have k15 := dep_l15 a b1 P' t hst (fun j hj => by have := hf.1 j hj; omega) (uS a) FU [] rfl (by rw [FU_eq]; omega)
      have e0 : (lf a.length fun i => if (i : Int) ∈ ([] : List Int) then depth i t else 0) = lf a.length fun _ => 0 := lf_congr fun i _ => by simp
      rw [e0] at k15
      have k15' : build_Depths.l15 FU (lf a.length fun _ => 0) 0 (uS a) P' = _ := k15
      have e2 : IntKind.i64.wrap (2 * ((uS a).length : Int)) = ((2 * (uS a).length : Nat) : Int) := by rw [wr_i64 (by omega)]; omega
      refine ⟨t, W, g1, ?_⟩
      rw [if_neg (by omega), heap_New_int.f]
      simp only [Option.bind_some]
      rw [p1']
      simp only [Option.bind_some]
      rw [e2, gd_pos (by omega), gd_pos (by omega), bnd_eq, Int.toNat_natCast, g2]
      simp only [Option.bind_some]
      rw [gd_pos (by omega), bnd_eq, Int.toNat_natCast, lf_zero, k15']
      rfl
  · refine .inl ⟨c2, ?_⟩
    rw [if_neg c2, if_pos c2]

theorem law6_sound_spec (a : List Int) : valiselaw6_sound.f a = some (decide (badF a = 0)) := by
  unfold badF
  rw [valiselaw6_sound.f]
  by_cases c : 288 < a.length
  · rw [if_pos (by omega), if_pos c]; rfl
  · rw [if_neg (by omega), if_neg c]
    have loop : ∀ (m k i : Nat), i + m = a.length → m < k → (∀ j, j < i → okF (rd a (j : Int))) → valiselaw6_sound.l1 k (i : Int) a = some (if ∀ x ∈ a, okF x then .inr () else .inl false) := by
      intro m
      induction m with
      | zero =>
        intro k i hi hk hok
        obtain ⟨k, rfl⟩ : ∃ q, k = q + 1 := ⟨k - 1, by omega⟩
        have all : ∀ x ∈ a, okF x := fun x hx => by
          obtain ⟨j, hj, rfl⟩ := List.mem_iff_getElem.1 hx
          have := hok j (by omega)
          rwa [rd_at (List.getElem?_eq_getElem hj)] at this
        rw [valiselaw6_sound.l1, if_neg (by omega), if_pos all]
      | succ m ih =>
        intro k i hi hk hok
        obtain ⟨k, rfl⟩ : ∃ q, k = q + 1 := ⟨k - 1, by omega⟩
        rw [valiselaw6_sound.l1, if_pos (by omega), gd_pos (by omega)]
        by_cases c : okF (rd a (i : Int))
        · have key := ih k (i + 1) (by omega) (by omega) (fun j hj => by
            by_cases e : j = i
            · subst e; exact c
            · exact hok j (by omega))
          unfold okF at c
          rw [if_neg c, bnd_eq, inc_i (by omega)]
          exact key
        · have na : ¬ ∀ x ∈ a, okF x := fun h => c (by rw [rd_at (List.getElem?_eq_getElem (show i < a.length by omega))]; exact h _ (List.getElem_mem _))
          unfold okF at c
          rw [if_pos (Classical.byContradiction c), if_neg na]
    have key := loop a.length FU 0 (by omega) (by rw [FU_eq]; omega) (fun j hj => by omega)
    have key' : valiselaw6_sound.l1 FU 0 a = _ := key
    rw [key']
    by_cases d : ∀ x ∈ a, okF x
    · rw [if_pos d, if_pos d]; rfl
    · rw [if_neg d, if_neg d]; rfl
theorem law6_uses_spec (a : List Int) (h : a.length ≤ 288) : valiselaw6_uses.f a = some ((uS a).length : Int) := by
  have loop : ∀ (m k i : Nat), i + m = a.length → m < k → valiselaw6_uses.l1 k ((upS a i).length : Int) (i : Int) a = some ((uS a).length : Int) := by
    intro m
    induction m with
    | zero =>
      intro k i hi hk
      obtain ⟨k, rfl⟩ : ∃ q, k = q + 1 := ⟨k - 1, by omega⟩
      rw [valiselaw6_uses.l1, if_neg (by omega), show i = a.length by omega]
      rfl
    | succ m ih =>
      intro k i hi hk
      obtain ⟨k, rfl⟩ : ∃ q, k = q + 1 := ⟨k - 1, by omega⟩
      have hu := upS_len a i
      have key := ih k (i + 1) (by omega) (by omega)
      rw [upS_succ] at key
      rw [valiselaw6_uses.l1, if_pos (by omega), gd_pos (by omega)]
      by_cases p : 0 < rd a (i : Int)
      · rw [if_pos p] at key
        rw [if_pos p, bnd_eq, inc_i (by omega)]
        simp only [Option.bind_some]
        rw [bnd_eq, inc_i (by omega)]
        simp only [List.length_append, List.length_cons, List.length_nil, Nat.zero_add] at key
        exact key
      · rw [if_neg p, List.append_nil] at key
        rw [if_neg p]
        simp only [Option.bind_some]
        rw [bnd_eq, inc_i (by omega)]
        exact key
  have key := loop a.length FU 0 (by omega) (by rw [FU_eq]; omega)
  have key' : valiselaw6_uses.l1 FU 0 0 a = _ := key
  rw [valiselaw6_uses.f, key']
  rfl
def lenN (b : List Int) (i : Nat) : Nat := (rd b (i : Int)).toNat
def keeps (a b : List Int) (limit : Int) : Prop := b.length = a.length ∧ (∀ i, used a i → 1 ≤ rd b (i : Int) ∧ rd b (i : Int) ≤ limit ∧ rd b (i : Int) ≤ 60) ∧ sumU a (fun i => 2 ^ (60 - lenN b i)) ≤ 2 ^ 60
def upTo (a : List Int) (F : Nat → Nat) (m : Nat) : Nat := sumN m fun i => if 0 < rd a (i : Int) then F i else 0
theorem upTo_mono (a : List Int) (F : Nat → Nat) {m n : Nat} (h : m ≤ n) : upTo a F m ≤ upTo a F n := by
  induction n with
  | zero => rw [show m = 0 by omega]; exact Nat.le_refl _
  | succ n ih =>
    by_cases e : m = n + 1
    · subst e; exact Nat.le_refl _
    · have := ih (by omega)
      unfold upTo at *
      simp only [sumN]; omega
theorem law6_kraft_spec (a b : List Int) (h : a.length ≤ 288) (hok : ∀ x ∈ a, okF x) (limit : Int) (hb : ∀ x ∈ b, -9223372036854775808 ≤ x ∧ x ≤ 9223372036854775807) :
    (keeps a b limit ∧ valiselaw6_kraft.f a b limit = some ((sumU a (fun i => 2 ^ (60 - lenN b i)) : Nat) : Int)) ∨ (¬ keeps a b limit ∧ valiselaw6_kraft.f a b limit = some (-1)) := by
  by_cases hl : b.length = a.length
  · have loop : ∀ (m k i : Nat), i + m = a.length → m < k → (∀ j, j < i → 0 < rd a (j : Int) → 1 ≤ rd b (j : Int) ∧ rd b (j : Int) ≤ limit ∧ rd b (j : Int) ≤ 60) → upTo a (fun i => 2 ^ (60 - lenN b i)) i ≤ 2 ^ 60 →
        (keeps a b limit ∧ valiselaw6_kraft.l1 k (upTo a (fun i => 2 ^ (60 - lenN b i)) i : Nat) (i : Int) a b limit = some (.inr ((sumU a (fun i => 2 ^ (60 - lenN b i)) : Nat) : Int))) ∨ (¬ keeps a b limit ∧ valiselaw6_kraft.l1 k (upTo a (fun i => 2 ^ (60 - lenN b i)) i : Nat) (i : Int) a b limit = some (.inl (-1))) := by
      intro m
      induction m with
      | zero =>
        intro k i hi hk h1 h2
        obtain ⟨k, rfl⟩ : ∃ q, k = q + 1 := ⟨k - 1, by omega⟩
        obtain rfl : i = a.length := by omega
        refine .inl ⟨⟨hl, fun j hj => h1 j hj.1 hj.2, h2⟩, ?_⟩
        rw [valiselaw6_kraft.l1, if_neg (by omega)]
        rfl
      | succ m ih =>
        intro k i hi hk h1 h2
        obtain ⟨k, rfl⟩ : ∃ q, k = q + 1 := ⟨k - 1, by omega⟩
        have hr := used_at hok (show i < a.length by omega)
        rw [valiselaw6_kraft.l1, if_pos (by omega), gd_pos (by omega)]
        by_cases c0 : rd a (i : Int) = 0
        · have es : upTo a (fun i => 2 ^ (60 - lenN b i)) (i + 1) = upTo a (fun i => 2 ^ (60 - lenN b i)) i := by
            unfold upTo; simp only [sumN]; rw [if_neg (by omega)]; rfl
          rw [if_pos c0, bnd_eq, inc_i (by omega)]
          have key := ih k (i + 1) (by omega) (by omega) (fun j hj hp => by
            by_cases e : j = i
            · subst e; omega
            · exact h1 j (by omega) hp) (by rw [es]; exact h2)
          rw [es] at key
          exact key
        · rw [if_neg c0, gd_pos (by omega)]
          by_cases c1 : (rd b (i : Int) < 1 ∨ limit < rd b (i : Int)) ∨ 60 < rd b (i : Int)
          · rw [if_pos c1]
            refine .inr ⟨fun hk => ?_, rfl⟩
            have := hk.2.1 i ⟨by omega, by omega⟩
            omega
          · have e1 : rd b (i : Int) = (lenN b i : Int) := by unfold lenN; omega
            have hn : 1 ≤ lenN b i ∧ lenN b i ≤ 60 := by omega
            have ew : IntKind.i64.wrap (60 - rd b (i : Int)) = ((60 - lenN b i : Nat) : Int) := by rw [wr_i64 (by omega)]; omega
            have hp : (2 : Nat) ^ (60 - lenN b i) ≤ 2 ^ 59 := Nat.pow_le_pow_right (by omega) (by omega)
            have es : upTo a (fun i => 2 ^ (60 - lenN b i)) (i + 1) = upTo a (fun i => 2 ^ (60 - lenN b i)) i + 2 ^ (60 - lenN b i) := by
              unfold upTo; simp only [sumN]; rw [if_pos (by omega)]
            have ev : IntKind.i64.wrap ((upTo a (fun i => 2 ^ (60 - lenN b i)) i : Nat) + ((2 ^ (60 - lenN b i) : Nat) : Int)) = ((upTo a (fun i => 2 ^ (60 - lenN b i)) (i + 1) : Nat) : Int) := by
              rw [wr_i64 (by omega), es]; omega
            rw [if_neg c1, ew, wr_u64 (by omega), gd_pos (by omega), shl_one _ (by omega), ev, bnd_eq]
            by_cases c2 : 2 ^ 60 < upTo a (fun i => 2 ^ (60 - lenN b i)) (i + 1)
            · rw [if_pos (by omega)]
              refine .inr ⟨fun hk => ?_, rfl⟩
              have h3 := hk.2.2
              have h4 := upTo_mono a (fun i => 2 ^ (60 - lenN b i)) (show i + 1 ≤ a.length by omega)
              have h5 : upTo a (fun i => 2 ^ (60 - lenN b i)) a.length = sumU a (fun i => 2 ^ (60 - lenN b i)) := rfl
              omega
            · rw [if_neg (by omega), bnd_eq, inc_i (by omega)]
              exact ih k (i + 1) (by omega) (by omega) (fun j hj hp => by
                by_cases e : j = i
                · subst e; omega
                · exact h1 j (by omega) hp) (by omega)
    have key := loop a.length FU 0 (by omega) (by rw [FU_eq]; omega) (fun j hj => by omega) (Nat.zero_le _)
    have e0 : ((upTo a (fun i => 2 ^ (60 - lenN b i)) 0 : Nat) : Int) = 0 := rfl
    rw [e0] at key
    rw [valiselaw6_kraft.f, if_neg (by omega)]
    rcases key with ⟨h1, h2⟩ | ⟨h1, h2⟩
    · have h2' : valiselaw6_kraft.l1 FU 0 0 a b limit = _ := h2
      rw [h2']; exact .inl ⟨h1, rfl⟩
    · have h2' : valiselaw6_kraft.l1 FU 0 0 a b limit = _ := h2
      rw [h2']; exact .inr ⟨h1, rfl⟩
  · rw [valiselaw6_kraft.f, if_pos (by omega)]
    exact .inr ⟨fun h => hl h.1, rfl⟩
theorem law6_cost_spec (a b : List Int) (h : a.length ≤ 288) (hok : ∀ x ∈ a, okF x) (hl : b.length = a.length) (hb : ∀ i, used a i → 0 ≤ rd b (i : Int) ∧ rd b (i : Int) ≤ 60) : valiselaw6_cost.f a b = some ((costU a (lenN b) : Nat) : Int) := by
  have small : ∀ i, i ≤ a.length → upTo a (fun i => (rd a (i : Int)).toNat * lenN b i) i ≤ i * 257698037760 := by
    intro i
    induction i with
    | zero => intro _; exact Nat.le_refl _
    | succ i ih =>
      intro hi
      have h9 := ih (by omega)
      have es : upTo a (fun i => (rd a (i : Int)).toNat * lenN b i) (i + 1) = upTo a (fun i => (rd a (i : Int)).toNat * lenN b i) i + (if 0 < rd a (i : Int) then (rd a (i : Int)).toNat * lenN b i else 0) := rfl
      have hr := used_at hok (show i < a.length by omega)
      rw [es, Nat.succ_mul]
      refine Nat.add_le_add h9 ?_
      by_cases c : 0 < rd a (i : Int)
      · have := hb i ⟨by omega, c⟩
        rw [if_pos c]
        have h8 : (rd a (i : Int)).toNat * lenN b i ≤ 4294967296 * 60 := Nat.mul_le_mul (by omega) (by unfold lenN; omega)
        exact h8
      · rw [if_neg c]; exact Nat.zero_le _
  have loop : ∀ (m k i : Nat), i + m = a.length → m < k → valiselaw6_cost.l1 k (upTo a (fun i => (rd a (i : Int)).toNat * lenN b i) i : Nat) (i : Int) a b = some ((costU a (lenN b) : Nat) : Int) := by
    intro m
    induction m with
    | zero =>
      intro k i hi hk
      obtain ⟨k, rfl⟩ : ∃ q, k = q + 1 := ⟨k - 1, by omega⟩
      obtain rfl : i = a.length := by omega
      rw [valiselaw6_cost.l1, if_neg (by omega)]
      rfl
    | succ m ih =>
      intro k i hi hk
      obtain ⟨k, rfl⟩ : ∃ q, k = q + 1 := ⟨k - 1, by omega⟩
      have hs := small i (by omega)
      have hs2 := small (i + 1) (by omega)
      have hr := used_at hok (show i < a.length by omega)
      have e1 : IntKind.i64.wrap (((upTo a (fun i => (rd a (i : Int)).toNat * lenN b i) i : Nat) : Int) + IntKind.i64.wrap (rd a (i : Int) * rd b (i : Int))) = ((upTo a (fun i => (rd a (i : Int)).toNat * lenN b i) (i + 1) : Nat) : Int) := by
        by_cases c : 0 < rd a (i : Int)
        · have hbi := hb i ⟨by omega, c⟩
          have es : upTo a (fun i => (rd a (i : Int)).toNat * lenN b i) (i + 1) = upTo a (fun i => (rd a (i : Int)).toNat * lenN b i) i + (rd a (i : Int)).toNat * lenN b i := by
            unfold upTo; simp only [sumN]; rw [if_pos c]
          have ep : rd a (i : Int) * rd b (i : Int) = (((rd a (i : Int)).toNat * lenN b i : Nat) : Int) := by
            unfold lenN
            rw [Int.natCast_mul, Int.toNat_of_nonneg (by omega), Int.toNat_of_nonneg (by omega)]
          rw [es] at hs2
          have : i * 257698037760 ≤ 288 * 257698037760 := Nat.mul_le_mul_right _ (by omega)
          rw [ep, wr_i64 (x := (((rd a (i : Int)).toNat * lenN b i : Nat) : Int)) (by omega), wr_i64 (by omega), es]; omega
        · have e0 : rd a (i : Int) = 0 := by omega
          have es : upTo a (fun i => (rd a (i : Int)).toNat * lenN b i) (i + 1) = upTo a (fun i => (rd a (i : Int)).toNat * lenN b i) i := by
            unfold upTo; simp only [sumN]; rw [if_neg c]; rfl
          have : i * 257698037760 ≤ 288 * 257698037760 := Nat.mul_le_mul_right _ (by omega)
          rw [e0, Int.zero_mul, wr_i64 (x := 0) (by omega), wr_i64 (by omega), es]; omega
      rw [valiselaw6_cost.l1, if_pos (by omega), gd_pos (by omega), gd_pos (by omega), e1, bnd_eq, bnd_eq, inc_i (by omega)]
      exact ih k (i + 1) (by omega) (by omega)
  have key := loop a.length FU 0 (by omega) (by rw [FU_eq]; omega)
  have key' : valiselaw6_cost.l1 FU 0 0 a b = _ := key
  rw [valiselaw6_cost.f, key']
  rfl
theorem law6_good_spec (a b : List Int) (h : a.length ≤ 288) (hok : ∀ x ∈ a, okF x) (limit : Int) (hb : ∀ x ∈ b, -9223372036854775808 ≤ x ∧ x ≤ 9223372036854775807) (hl : b.length = a.length) (h0 : ∀ i, i < a.length → ¬ 0 < rd a (i : Int) → rd b (i : Int) = 0)
    (h1 : (uS a).length = 1 → ∀ i, used a i → rd b (i : Int) = 1) (h2 : 2 ≤ (uS a).length → keeps a b limit ∧ sumU a (fun i => 2 ^ (60 - lenN b i)) = 2 ^ 60) : valiselaw6_good.f a b limit = some true := by
  have hu := uS_len a
  have loop : ∀ (m k i : Nat), i + m = a.length → m < k → valiselaw6_good.l1 k (i : Int) a b ((uS a).length : Int) = some (.inr ()) := by
    intro m
    induction m with
    | zero =>
      intro k i hi hk
      obtain ⟨k, rfl⟩ : ∃ q, k = q + 1 := ⟨k - 1, by omega⟩
      rw [valiselaw6_good.l1, if_neg (by omega)]
    | succ m ih =>
      intro k i hi hk
      obtain ⟨k, rfl⟩ : ∃ q, k = q + 1 := ⟨k - 1, by omega⟩
      have hr := used_at hok (show i < a.length by omega)
      have t1 : (if rd a (i : Int) = 0 then (gd ((0 : Int) ≤ (i : Int) ∧ (i : Int) < (b.length : Int)) (some (decide (rd b (i : Int) ≠ 0)))) else (some false)) = some false := by
        by_cases c : rd a (i : Int) = 0
        · rw [if_pos c, gd_pos (by omega), h0 i (by omega) (by omega)]; rfl
        · rw [if_neg c]
      have t2 : (if (0 < rd a (i : Int)) ∧ (((uS a).length : Int) = 1) then (gd ((0 : Int) ≤ (i : Int) ∧ (i : Int) < (b.length : Int)) (some (decide (rd b (i : Int) ≠ 1)))) else (some false)) = some false := by
        by_cases c : (0 < rd a (i : Int)) ∧ (((uS a).length : Int) = 1)
        · rw [if_pos c, gd_pos (by omega), h1 (by omega) i ⟨by omega, c.1⟩]; rfl
        · rw [if_neg c]
      rw [valiselaw6_good.l1, if_pos (by omega), gd_pos (by omega), t1]
      simp only [Option.bind_some]
      rw [if_neg (by decide), t2]
      simp only [Option.bind_some]
      rw [if_neg (by decide), bnd_eq, inc_i (by omega)]
      exact ih k (i + 1) (by omega) (by omega)
  have key := loop a.length FU 0 (by omega) (by rw [FU_eq]; omega)
  have key' : valiselaw6_good.l1 FU 0 a b ((uS a).length : Int) = _ := key
  rw [valiselaw6_good.f, if_neg (by omega), law6_uses_spec a h]
  simp only [Option.bind_some]
  rw [key']
  simp only [Option.bind_some, onR]
  by_cases c : (uS a).length < 2
  · rw [if_pos (by omega)]; rfl
  · obtain ⟨k1, k2⟩ := h2 (by omega)
    rw [if_neg (by omega)]
    rcases law6_kraft_spec a b h hok limit hb with ⟨_, e⟩ | ⟨n, _⟩
    · rw [e, k2]; rfl
    · exact (n k1).elim

/-- What Limited answers, where it answers. -/
theorem lf_in {n : Nat} {f : Nat → Nat} (h : ∀ i, i < n → f i ≤ 1000) : ∀ x ∈ lf n f, -9223372036854775808 ≤ x ∧ x ≤ 9223372036854775807 := fun x hx => by
  obtain ⟨i, hi, rfl⟩ := List.mem_map.1 hx
  have := h i (List.mem_range.1 hi); omega
theorem lenN_lf {n : Nat} {f : Nat → Nat} {i : Nat} (h : i < n) : lenN (lf n f) i = f i := by unfold lenN; rw [lf_rd h, Int.toNat_natCast]
/-- A list that is best is good. -/
theorem best_good (a : List Int) (h : a.length ≤ 288) (hok : ∀ x ∈ a, okF x) (lim : Nat) (hlim : lim ≤ 60) (hu : 2 ≤ (uS a).length) {L : Nat → Nat} (B : BestCode a lim L) : valiselaw6_good.f a (lf a.length L) (lim : Int) = some true ∧ keeps a (lf a.length L) (lim : Int) := by
  have el := lf_length a.length L
  have hL : ∀ i, i < a.length → L i ≤ 1000 := fun i hi => by
    by_cases c : 0 < rd a (i : Int)
    · have := B.high i ⟨hi, c⟩; omega
    · rw [B.zero i hi c]; omega
  have es : sumU a (fun i => 2 ^ (60 - lenN (lf a.length L) i)) = 2 ^ 60 := by
    rw [← B.full]
    exact sumU_eq fun i hi => by rw [lenN_lf hi.1]
  have hk : keeps a (lf a.length L) (lim : Int) := ⟨el, fun i hi => by
    have h1 := B.low i hi
    have h2 := B.high i hi
    rw [lf_rd hi.1]; omega, Nat.le_of_eq es⟩
  exact ⟨law6_good_spec a _ h hok lim (lf_in hL) el (fun i hi hn => by rw [lf_rd hi, B.zero i hi hn]; rfl) (fun e => by omega) (fun _ => ⟨hk, es⟩), hk⟩
theorem few_good (a : List Int) (h : a.length ≤ 288) (hok : ∀ x ∈ a, okF x) (limit : Int) (hu : (uS a).length < 2) : valiselaw6_good.f a (fewL a) limit = some true := by
  refine law6_good_spec a _ h hok limit (lf_in fun i hi => by split <;> omega) (lf_length _ _) (fun i hi hn => ?_) (fun _ i hi => ?_) (fun e => by omega)
  · rw [fewL, lf_rd hi, if_neg (fun hm => by obtain ⟨j, e, _, hp⟩ := uS_mem hm; exact hn hp)]; rfl
  · rw [fewL, lf_rd hi.1, if_pos (uS_of hi.1 hi.2)]; rfl
theorem few_cost (a : List Int) : costU a (lenN (fewL a)) = costU a (fun _ => 1) := sumU_eq fun i hi => by
  rw [show lenN (fewL a) i = 1 from by rw [fewL, lenN_lf hi.1, if_pos (uS_of hi.1 hi.2)]]
theorem best_cost (a : List Int) (L : Nat → Nat) : costU a (lenN (lf a.length L)) = costU a L := sumU_eq fun i hi => by rw [lenN_lf hi.1]

theorem sumU_sU (a : List Int) (F : Nat → Nat) : sumU a F = sumN (uS a).length fun j => F (sU a j) := by
  show _ = sumN (uS a).length (fun j => F ((uS a).getD j 0).toNat)
  rw [sum_list, ← sumU_us]
def depF (a : List Int) (t : Coin) (i : Nat) : Nat := if (i : Int) ∈ uS a then depth i t else 0
theorem depL_eq (a : List Int) (t : Coin) : depL a t = lf a.length (depF a t) := rfl
theorem wU_at {a : List Int} (hok : ∀ x ∈ a, okF x) {j : Nat} (hj : j < (uS a).length) : wU a j = (rd a (sU a j : Int)).toNat ∧ wU a j ≤ 4294967296 ∧ 0 < wU a j := by
  obtain ⟨e1, e2, e3⟩ := sU_at hj
  have := used_at hok e2
  unfold wU
  rw [e1]; omega
theorem dep_core (a : List Int) (h : a.length ≤ 288) (hok : ∀ x ∈ a, okF x) (hu : 2 ≤ (uS a).length) {t : Coin} {W : Nat} (J : Joined (lvs (wU a) (sU a) (uS a).length) t W) : BestCode a 60 (depF a t) ∧ ∀ i, used a i → depF a t i ≤ 57 := by
  have hul := uS_len a
  have htot : sumN (uS a).length (wU a) ≤ (uS a).length * 4294967296 := sumN_bound fun j hj => (wU_at hok hj).2.1
  obtain ⟨h1, h2, h3⟩ := huffman (fun i j hi hj h => sU_one hi hj h) hu (fun j hj => (wU_at hok hj).2.2) (by omega) J
  have eL : ∀ j, j < (uS a).length → depF a t (sU a j) = depth (sU a j) t := fun j hj => by
    obtain ⟨_, e⟩ := sU_at hj
    unfold depF
    rw [if_pos (uS_of e.1 e.2)]
  have hc : ∀ l : Nat → Nat, costU a l = sumN (uS a).length (fun j => wU a j * l (sU a j)) := fun l => by
    unfold costU
    rw [sumU_sU]
    exact sumN_eq fun j hj => by rw [(wU_at hok hj).1]
  refine ⟨⟨fun i hi hn => ?_, fun i hi => ?_, fun i hi => ?_, ?_, fun l hl hk => ?_⟩, fun i hi => ?_⟩
  · unfold depF
    rw [if_neg (fun hm => by obtain ⟨k, e, _, hp⟩ := uS_mem hm; exact hn hp)]
  · obtain ⟨j, hj, rfl⟩ := sU_of hi
    rw [eL j hj]; exact (h1 j hj).1
  · obtain ⟨j, hj, rfl⟩ := sU_of hi
    rw [eL j hj]; have := h1 j hj; omega
  · rw [← h2 60 (by omega), sumU_sU]
    unfold kraftN
    exact sumN_eq fun j hj => by rw [eL j hj]
  · rw [hc, hc]
    rw [sumU_sU] at hk
    have := h3 60 (fun j => l (sU a j)) (fun j hj => hl _ (sU_at hj).2) hk
    refine Nat.le_trans (Nat.le_of_eq (sumN_eq fun j hj => by rw [eL j hj])) this
  · obtain ⟨j, hj, rfl⟩ := sU_of hi
    rw [eL j hj]; exact (h1 j hj).2
/-- What Depths answers, where the frequencies may be. -/
theorem depths_good (a : List Int) (h : badF a = 0) : ∃ L : Nat → Nat, build_Depths.f a = some (lf a.length L, 0) ∧ valiselaw6_good.f a (lf a.length L) 60 = some true ∧ (∀ i, used a i → 1 ≤ L i ∧ L i ≤ 60) ∧ ((uS a).length < 2 → lf a.length L = fewL a) ∧ (2 ≤ (uS a).length → BestCode a 60 L) ∧ (∀ i, i < a.length → L i ≤ 60) ∧
    (2 ≤ (uS a).length → ∃ t W, Joined (lvs (wU a) (sU a) (uS a).length) t W ∧ L = depF a t) ∧ costU a (lenN (lf a.length L)) = costU a L := by
  obtain ⟨b1, b2⟩ := badF_ok h
  rcases build_Depths_spec a with ⟨h1, h2⟩ | ⟨h1, h2, h3⟩ | ⟨h1, h2, t, W, h3, h4⟩
  · exact (h1 h).elim
  · refine ⟨_, h3, few_good a b1 b2 60 h2, fun i hi => ?_, fun _ => rfl, fun c => by omega, fun i hi => ?_, fun c => by omega, best_cost _ _⟩
    · rw [if_pos (uS_of hi.1 hi.2)]; omega
    · show (if (i : Int) ∈ uS a then 1 else 0) ≤ 60
      split <;> omega
  · obtain ⟨B, h5⟩ := dep_core a b1 b2 h2 h3
    have e60 : ((60 : Nat) : Int) = 60 := rfl
    refine ⟨depF a t, h4, (best_good a b1 b2 60 (by omega) h2 B).1, fun i hi => ⟨B.low i hi, B.high i hi⟩, fun c => by omega, fun _ => B, fun i hi => ?_, fun _ => ⟨t, W, h3, rfl⟩, best_cost _ _⟩
    by_cases c : 0 < rd a (i : Int)
    · exact B.high i ⟨hi, c⟩
    · rw [B.zero i hi c]; omega

theorem valiselaw6_BuildHuffman_true (a : List Int) (b : List Int) (ha : ∀ x ∈ a, (Lit.int .i64 x).wf = true) (wa : a.length * 8 ≤ 140737488351232) (hb : ∀ x ∈ b, (Lit.int .i64 x).wf = true) (wb : b.length * 8 ≤ 140737488351232) : valiselaw6_BuildHuffman.f a b = some true := by
  have hbw : ∀ x ∈ b, -9223372036854775808 ≤ x ∧ x ≤ 9223372036854775807 := fun x hx => wf_i64 (hb x hx)
  rw [valiselaw6_BuildHuffman.f, law6_sound_spec]
  simp only [Option.bind_some]
  by_cases c1 : badF a = 0
  · obtain ⟨b1, b2⟩ := badF_ok c1
    obtain ⟨L, d1, d2, d3, d4, d5, d6, _, d7⟩ := depths_good a c1
    rw [decide_eq_true c1, if_neg (by decide), valiselaw6_copied_spec a (by omega)]
    simp only [Option.bind_some]
    rw [d1]
    simp only [Option.bind_some]
    rw [if_neg (by decide), d2]
    simp only [Option.bind_some]
    rw [if_neg (by decide)]
    rcases law6_kraft_spec a b b1 b2 60 hbw with ⟨hk, e⟩ | ⟨_, e⟩
    · have cok : ∀ i, used a i → 1 ≤ rd b (i : Int) ∧ rd b (i : Int) ≤ 60 := fun i hi => by have := hk.2.1 i hi; omega
      rw [e]
      simp only [Option.bind_some]
      rw [if_neg (by omega), law6_cost_spec a _ b1 b2 (lf_length _ _) (fun i hi => by rw [lf_rd hi.1]; have := d3 i hi; omega), law6_cost_spec a b b1 b2 hk.1 (fun i hi => by have := cok i hi; omega)]
      simp only [Option.bind_some]
      have : costU a (lenN (lf a.length L)) ≤ costU a (lenN b) := by
        by_cases c4 : (uS a).length < 2
        · rw [d4 c4, few_cost]
          exact sumU_le fun i hi => Nat.mul_le_mul_left _ (by have := cok i hi; show 1 ≤ lenN b i; unfold lenN; omega)
        · rw [d7]
          exact (d5 (by omega)).best (lenN b) (fun i hi => by have := cok i hi; unfold lenN; omega) hk.2.2
      rw [decide_eq_true (by omega)]
    · rw [e]; rfl
  · rw [decide_eq_false c1, if_pos (by simp)]
end Go.V.Pu
