/- Regions that draw their order; arrays as values. -/
import Derived.Test.YtbegkkmngkpjmaaV12
import Derived.OrdersHeld
import Derived.StillTail
import Derived.Scope
set_option linter.unusedVariables false
set_option linter.unusedSimpArgs false
namespace Go.V
open Go

/-! ### Regions that draw: what only looks comes first; what turns what was there comes last -/
def nrm (K : Act → World → Prop) : Exit → Act → World → Prop
  | .normal, a, w => K a w
  | _, _, _ => False

def wpG (P : Program) (ops : Array Oper) (K : Act → World → Prop) (S : World → Prop) (tl : List Nat) (g : Nat) : Nat → Array Bool → Act → World → Prop
  | 0, listed, a, w => (∀ j ∈ Region.ready .any ops listed, j ∈ tl) ∧ wpAny P .any ops (nrm K) g listed a w
  | f + 1, listed, a, w => (∀ j ∈ Region.ready .any ops listed, j ∉ tl) ∧ Region.ready .any ops listed ≠ [] ∧
    ∀ i ∈ Region.ready .any ops listed, wpOp P ops (nrm K) i (fun a' w' => S w' ∧ wpG P ops K S tl g f (listed.setIfInBounds i true) a' w') a w

section
variable {P : Program} {ops : Array Oper} {K : Act → World → Prop} {S : World → Prop} {tl : List Nat} {g : Nat}

theorem wpG_any : ∀ (f : Nat) (listed : Array Bool) (a : Act) (w : World), wpG P ops K S tl g f listed a w → wpAny P .any ops (nrm K) (f + g) listed a w
  | 0, listed, a, w, h => by rw [Nat.zero_add]; exact h.2
  | f + 1, listed, a, w, h => by
    rw [show f + 1 + g = (f + g) + 1 by omega]
    exact ⟨fun e => absurd e h.2.1, fun i hi => wpOp_mono (fun a' w' h' => wpG_any f _ a' w' h'.2) (h.2.2 i hi)⟩

/-- Each of the last ones waits for number i. -/
def tlWaits (ops : Array Oper) (tl : List Nat) (i : Nat) : Bool := !tl.contains i && tl.all fun j => Region.waitsFor .any ops j i

theorem wpG_first {i : Nat} {oi : Oper} {v : Value} (hi : ops[i]? = some oi) (hs : Region.noSelect ops = true) (ht : tlWaits ops tl i = true) :
    ∀ (f : Nat) (listed : Array Bool) (a : Act) (w : World), (∀ (j : Nat) (oj : Oper), ops[j]? = some oj → j ≠ i → listed.getD j true = false → (∀ e ∈ oj.after, Region.binds .any e = true → e.on ≠ i) → oi.apart ops oj = true) →
      i ∈ Region.ready .any ops listed → YieldsIf P ops S oi v a → S w → wpG P ops K S tl g f (listed.setIfInBounds i true) (a.put oi.dst v) w → wpG P ops K S tl g (f + 1) listed a w := by
  simp only [tlWaits, Bool.and_eq_true, Bool.not_eq_true', List.all_eq_true] at ht
  have hit : i ∉ tl := by simpa using ht.1
  have unl : ∀ listed : Array Bool, i ∈ Region.ready .any ops listed → listed.getD i false = false := fun listed hr => getD_both (mem_ready.1 hr).1
  have out : ∀ listed : Array Bool, i ∈ Region.ready .any ops listed → ∀ j ∈ Region.ready .any ops listed, j ∉ tl := by
    intro listed hr j hj hjt
    obtain ⟨oj, hoj, e, he, hb, hon⟩ := Region.waitsFor_spec (ht.2 j hjt)
    obtain ⟨_, o', ho', hall⟩ := mem_ready.1 hj
    obtain rfl : oj = o' := Option.some.inj (hoj.symm.trans ho')
    have h1 := hall e he hb
    rw [hon, unl listed hr] at h1
    cases h1
  intro f
  induction f with
  | zero =>
    intro listed a w hfree hr hy hS H
    refine ⟨out listed hr, (fun e => by rw [e] at hr; cases hr), fun j hj => ?_⟩
    by_cases hji : j = i
    · subst hji; exact hy.wpOp hi hS ⟨hS, H⟩
    · exact absurd (H.1 j (ready_mono hj hji)) (out listed hr j hj)
  | succ f ih =>
    intro listed a w hfree hr hy hS H
    refine ⟨out listed hr, (fun e => by rw [e] at hr; cases hr), fun j hj => ?_⟩
    by_cases hji : j = i
    · subst hji; exact hy.wpOp hi hS ⟨hS, H⟩
    · obtain ⟨hjun, oj, hoj, hall⟩ := mem_ready.1 hj
      have hnot : ∀ e ∈ oj.after, Region.binds .any e = true → e.on ≠ i := fun e he hb heq => by
        have h1 := hall e he hb
        rw [heq, unl listed hr] at h1
        cases h1
      have h2 := wpOp_putIf (S := S) hoj (hfree j oj hoj hji hjun hnot) (fun cs b => Region.noSelect_spec hs i oi cs b hi) (fun cs b => Region.noSelect_spec hs j oj cs b hoj) (fun c a w h => h) hy (H.2.2 j (ready_mono hj hji))
      refine wpOp_mono (fun a' w' h3 => ⟨h3.2.1, ih _ a' w' (fun k ok hk hki hun hno => hfree k ok hk hki ?_ hno) (ready_mono hr (Ne.symm hji)) h3.1 h3.2.1 ?_⟩) h2
      · by_cases hjk : j = k
        · subst hjk; exact hjun
        · rw [getD_set_ne true hjk] at hun; exact hun
      · rw [Array.setIfInBounds_comm _ _ hji]; exact h3.2.2
end

section
variable {P : Program} {n : Nat} {Q : Exit → Act → World → Prop} {cs : List Code} {F : List (Nat × Value)} {w w0 : World} {L : List Res}
  {ops : Array Oper} {rest : List Oper} {o : Oper} {K : Act → World → Prop} {S : World → Prop} {tl : List Nat} {g f : Nat} {listed : Array Bool}

def wpH (P : Program) (n : Nat) (ops : Array Oper) (K : Act → World → Prop) (S : World → Prop) (tl : List Nat) (g f : Nat) (listed : Array Bool) (F : List (Nat × Value)) (w : World) : Prop := ∀ a, Is n a F → wpG P ops K S tl g f listed a w
def wpT (P : Program) (n : Nat) (ops : Array Oper) (K : Act → World → Prop) (g : Nat) (listed : Array Bool) (F : List (Nat × Value)) (w : World) : Prop := ∀ a, Is n a F → wpAny P .any ops (nrm K) g listed a w

theorem L_held {id : Nat} {l : List Oper} (f g : Nat) (tl : List Nat) (hm : P.follows .mixedOrders = true) (hN : l.toArray.size = f + g)
    (h : ∀ w1, Chg NoB w w1 → wpH P n l.toArray (fun a w => wpL P Q cs a w) (Chg NoB w1) tl g f (Array.replicate l.length false) F w1) : wpLF P n Q (.region id l.toArray true :: cs) F w := by
  intro a ha
  have h1 := wpG_any _ _ _ _ (h w.drew ⟨rfl, rfl, rfl, Nat.le_refl _, fun _ _ _ => rfl⟩ a ha)
  rw [← hN] at h1
  have h2 : (Code.region id l.toArray true).wp P (nrm fun a w => wpL P Q cs a w) a w := wp_region_any hm (by simpa using h1)
  refine wp_mono h2 ?_
  intro e a w h
  cases e <;> first | exact h | exact h.elim

theorem H_val {i d : Nat} {v : Value} (hi : ops[i]? = some o) (hs : Region.noSelect ops = true) (ht : tlWaits ops tl i = true) (hf : Region.free .any ops listed i = true) (hr : (Region.ready .any ops listed).contains i = true)
    (hg : o.guard = Option.none) (hd : o.dst = some d) (hn : Nat.ble (d + 1) n = true) (hS : S w) (hv : ∀ w, S w → OpVal P o F w v) (k : wpH P n ops K S tl g f (listed.setIfInBounds i true) ((d, v) :: F) w) : wpH P n ops K S tl g (f + 1) listed F w := by
  intro a ha
  refine wpG_first hi hs ht f listed a w (Region.free_spec hi hf) (by simpa using hr) (.inl ⟨by simp [Region.wanted, hg], fun w hw => hv w hw n a ha⟩) hS ?_
  rw [hd]; exact k _ (ha.put v (Nat.le_of_ble_eq_true hn))
theorem H_gval {i d : Nat} {v : Value} {g' : Nat} {b : Bool} {dj : Nat} (hi : ops[i]? = some o) (hs : Region.noSelect ops = true) (ht : tlWaits ops tl i = true) (hf : Region.free .any ops listed i = true) (hr : (Region.ready .any ops listed).contains i = true)
    (hg : o.guard = some (g', b)) (hj : (ops[g']?).bind (·.dst) = some dj) (hgv : look F dj = some (.bool b)) (hdj : Nat.ble (dj + 1) n = true) (hd : o.dst = some d) (hn : Nat.ble (d + 1) n = true) (hS : S w) (hv : ∀ w, S w → OpVal P o F w v) (k : wpH P n ops K S tl g f (listed.setIfInBounds i true) ((d, v) :: F) w) : wpH P n ops K S tl g (f + 1) listed F w := by
  intro a ha
  refine wpG_first hi hs ht f listed a w (Region.free_spec hi hf) (by simpa using hr) (.inl ⟨by rw [wanted_of hg hj ha hgv hdj]; simp [wantB], fun w hw => hv w hw n a ha⟩) hS ?_
  rw [hd]; exact k _ (ha.put v (Nat.le_of_ble_eq_true hn))
theorem H_gskip {i d : Nat} {u : Value} {g' : Nat} {b : Bool} {dj : Nat} (hi : ops[i]? = some o) (hs : Region.noSelect ops = true) (ht : tlWaits ops tl i = true) (hf : Region.free .any ops listed i = true) (hr : (Region.ready .any ops listed).contains i = true)
    (hg : o.guard = some (g', b)) (hj : (ops[g']?).bind (·.dst) = some dj) (hgv : look F dj = some u) (hdj : Nat.ble (dj + 1) n = true) (hu : wantB u b = false) (hd : o.dst = some d) (hn : Nat.ble (d + 1) n = true) (hS : S w) (k : wpH P n ops K S tl g f (listed.setIfInBounds i true) ((d, undef) :: F) w) : wpH P n ops K S tl g (f + 1) listed F w := by
  intro a ha
  refine wpG_first hi hs ht f listed a w (Region.free_spec hi hf) (by simpa using hr) (.inr ⟨by rw [wanted_of hg hj ha hgv hdj]; exact hu, rfl⟩) hS ?_
  rw [hd]; exact k _ (ha.put undef (Nat.le_of_ble_eq_true hn))

theorem wpOp_of_list {i : Nat} {K' : Act → World → Prop} (hi : ops[i]? = some o) {a : Act} (h : wpList P ops (cutQ K' (nrm K)) [o] a w) : wpOp P ops (nrm K) i K' a w := by
  unfold wpOp
  simp only [hi]
  simp only [wpList] at h
  have hup : ∀ (a : Act) (K1 : Act → World → Prop) r, Oper.upon P o a K1 (cutQ K' (nrm K)) r → Oper.upon P o a K1 (nrm K) r := by
    intro a K1 r h
    cases r with
    | ok v w => cases v <;> exact h
    | halt x w => cases x <;> exact h
  split
  · rename_i hw
    rw [if_pos hw] at h
    rcases h with h | h
    · exact .inl (hup _ _ _ (Oper.wp_mono (fun a w h => h) h))
    · refine .inr ⟨h.1, ?_⟩
      obtain ⟨a, w, h2⟩ := h.2
      exact h2.elim
  · rename_i hw
    rw [if_neg hw] at h
    exact h
/-- The one that may come now. -/
theorem H_one {i : Nat} (hi : ops[i]? = some o) (hr : Region.ready .any ops listed = [i]) (ht : tl.contains i = false)
    (h : wpF P n ops (cutQ (fun a' w' => S w' ∧ wpG P ops K S tl g f (listed.setIfInBounds i true) a' w') (nrm K)) [o] F w) : wpH P n ops K S tl g (f + 1) listed F w := by
  intro a ha
  refine ⟨fun j hj => ?_, (fun e => by rw [hr] at e; cases e), fun j hj => ?_⟩
  · rw [hr] at hj
    simp only [List.mem_singleton] at hj
    subst hj
    simpa using ht
  · rw [hr] at hj
    simp only [List.mem_singleton] at hj
    subst hj
    exact wpOp_of_list hi (h a ha)
theorem H_next {listed' : Array Bool} {w' : World} (hS : S w') (h : wpH P n ops K S tl g f listed' F w') : wpF P n ops (cutQ (fun a' w' => S w' ∧ wpG P ops K S tl g f listed' a' w') (nrm K)) [] F w' := fun a ha => ⟨hS, h a ha⟩
theorem H_end (hr : (Region.ready .any ops listed).all (fun j => tl.contains j) = true) (h : wpT P n ops K g listed F w) : wpH P n ops K S tl g 0 listed F w :=
  fun a ha => ⟨fun j hj => by simpa using List.all_eq_true.1 hr j hj, h a ha⟩
theorem T_one {i : Nat} (hi : ops[i]? = some o) (hr : Region.ready .any ops listed = [i])
    (h : wpF P n ops (cutQ (fun a' w' => wpAny P .any ops (nrm K) g (listed.setIfInBounds i true) a' w') (nrm K)) [o] F w) : wpT P n ops K (g + 1) listed F w := by
  intro a ha
  refine ⟨fun e => (by rw [hr] at e; cases e), fun j hj => ?_⟩
  rw [hr] at hj
  simp only [List.mem_singleton] at hj
  subst hj
  exact wpOp_of_list hi (h a ha)
theorem T_next {listed' : Array Bool} {w' : World} (h : wpT P n ops K g listed' F w') : wpF P n ops (cutQ (fun a' w' => wpAny P .any ops (nrm K) g listed' a' w') (nrm K)) [] F w' := fun a ha => h a ha
theorem T_done (hr : Region.ready .any ops listed = []) (h : wpLF P n Q cs F w) : wpT P n ops (fun a w => wpL P Q cs a w) 0 listed F w := fun a ha => ⟨hr, h a ha⟩
end

/-! ### Arrays -/
section
variable {P : Program} {n : Nat} {Q : Exit → Act → World → Prop} {cs : List Code} {F : List (Nat × Value)} {w w0 : World} {S : Nat → Prop} {L : List Res}
  {ops : Array Oper} {rest : List Oper} {o : Oper} {α : Type} {E : El α} {xs ys : List α}

theorem row_len {k : IntKind} {xs : List Int} {m : Nat} (h : xs.length = m) : (rowC (Eint k) xs).length = m := by
  rw [rowC_length, h]; show m * 1 = m; omega
theorem rowE_len {xs : List α} {m q : Nat} (h : xs.length = m) (hq : m * E.sz = q) : (rowC E xs).length = q := by rw [rowC_length, h, hq]
theorem app_len {A B : List Value} {a b c : Nat} (h : A.length = a) (k : B.length = b) (e : a + b = c) : (A ++ B).length = c := by rw [List.length_append, h, k, e]
def ones (l : List Value) : Prop := ∀ u ∈ l, u.oneCell' = true
theorem ones_lit {l : List Value} (h : l.all (·.oneCell') = true) : ones l := fun u hu => List.all_eq_true.1 h u hu
theorem ones_app {A B : List Value} (h : ones A) (k : ones B) : ones (A ++ B) := fun u hu => (List.mem_append.1 hu).elim (h u) (k u)
theorem ones_row : ones (rowC E xs) := fun u hu => rowC_one hu

theorem O_loadSg {x : Operand} {t : TypeId} {b : Nat} {C : List Value} {k sz : Nat} (Pre M Post : List Value) (ho : o.op = .load t x) (hx : ev F x = some (.pointer (some ⟨b, k, none⟩))) (hT : Wide P t sz) (hC : Cells (some ⟨b, 0, none⟩) C w)
    (e : C = Pre ++ M ++ Post) (hk : Pre.length = k) (hl : M.length = sz) (h0 : 0 < sz) : OpVal P o F w (.agg M.toArray) := by
  refine O_loadWB ho hx hT hC hl (fun e' => by rw [e'] at hl; simp at hl; omega) fun j v hj => ?_
  have hj2 := (List.getElem?_eq_some_iff.1 hj).1
  rw [e, List.append_assoc, List.getElem?_append_right (by omega), List.getElem?_append_left (by omega), hk, show k + j - k = j by omega]
  exact hj
theorem cell_seg {C : List Value} {k j : Nat} {v : Value} (Pre M Post : List Value) (e : C = Pre ++ M ++ Post) (hk : Pre.length + j = k) (h : M[j]? = some v) : C[k]? = some v := by
  have hj2 := (List.getElem?_eq_some_iff.1 h).1
  rw [e, List.append_assoc, List.getElem?_append_right (by omega), List.getElem?_append_left (by omega), show k - Pre.length = j by omega]
  exact h
/-- A part of a box is stored. -/
theorem F_stSg {x y : Operand} {t te : TypeId} {b k sz : Nat} (i : Nat) (C' Pre M M' Post : List Value) {C : List Value} {v : Value} (hgd : o.guard = none) (hd : o.dst = none) (ho : o.op = .store t x y) (hx : ev F x = some (.pointer (some ⟨b, k, none⟩))) (hy : ev F y = some v)
    (hs : (P.info? t).map (·.size) = some sz) (HS : Hp S w0 w L) (hi : nth L i = some (.box b C te)) (hv : v.cells.toList = M') (h1 : ones M') (e : C = Pre ++ M ++ Post) (e' : Pre ++ M' ++ Post = C') (hk : Pre.length = k) (hl : M.length = sz) (hl' : M'.length = sz)
    (K : ∀ w', Hp S w0 w' (upd L i (.box b C' te)) → wpF P n ops Q rest F w') : wpF P n ops Q (o :: rest) F w := by
  refine F_storeB hgd hd ho hx hy hs (by have := congrArg List.length hv; rw [hl'] at this; simpa using this) (by rw [hv]; exact h1) HS hi (by rw [e]; simp; omega) ?_ K
  rw [hv, ovl, e, ← e', List.append_assoc Pre M Post, List.take_left' hk, ← hk, ← List.drop_drop, List.drop_left, hl', ← hl, List.drop_left]
/-- An element of an array in a box. -/
theorem F_stAr {x y : Operand} {t te : TypeId} {b off : Nat} {q : Int} {a : α} (i : Nat) (C' Pre Post : List Value) {C : List Value} {v : Value} (hgd : o.guard = none) (hd : o.dst = none) (ho : o.op = .store t x y) (hx : ev F x = some (.pointer (some ⟨b, off + q.toNat * E.sz, none⟩))) (hy : ev F y = some v)
    (hs : (P.info? t).map (·.size) = some E.sz) (HS : Hp S w0 w L) (hi : nth L i = some (.box b C te)) (hv : v.cells.toList = E.enc a) (e : C = Pre ++ rowC E xs ++ Post) (hk : Pre.length = off) (q0 : 0 ≤ q) (q1 : q < (xs.length : Int)) {zs : List α} (ez : xs.set q.toNat a = zs) (e' : Pre ++ rowC E zs ++ Post = C')
    (K : ∀ w', Hp S w0 w' (upd L i (.box b C' te)) → wpF P n ops Q rest F w') : wpF P n ops Q (o :: rest) F w := by
  have hq : q.toNat < xs.length := by omega
  have hle : q.toNat * E.sz + E.sz ≤ xs.length * E.sz := by rw [← Nat.succ_mul]; exact Nat.mul_le_mul_right _ hq
  have e2 : rowC E xs = (rowC E xs).take (q.toNat * E.sz) ++ ((rowC E xs).drop (q.toNat * E.sz)).take E.sz ++ (rowC E xs).drop ((q.toNat + 1) * E.sz) := by
    rw [Nat.add_mul, Nat.one_mul, ← List.drop_drop, List.append_assoc, List.take_append_drop, List.take_append_drop]
  refine F_stSg i C' (Pre ++ (rowC E xs).take (q.toNat * E.sz)) (((rowC E xs).drop (q.toNat * E.sz)).take E.sz) (E.enc a) ((rowC E xs).drop ((q.toNat + 1) * E.sz) ++ Post) hgd hd ho hx hy hs HS hi hv (fun u hu => E.one a u hu) ?_ ?_ ?_ ?_ (E.len a) K
  · rw [e]; conv => lhs; rw [e2]
    simp
  · rw [← e', ← ez, rowC_set hq]; simp
  · rw [List.length_append, hk, List.length_take, rowC_length]; omega
  · rw [List.length_take, List.length_drop, rowC_length]; omega
theorem F_allocZ {t : TypeId} {d : Nat} {z : Value} {C : List Value} (hgd : o.guard = Option.none) (hd : o.dst = some d) (hn : Nat.ble (d + 1) n = true) (ho : o.op = .alloc t) (hz : (P.info? t).map (·.zero) = some (some z)) (hC : z.cells.toList = C) (HS : Hp S w0 w L)
    (K : ∀ w' g, Hp S w0 w' (L ++ [.box g C t]) → wpF P n ops Q rest ((d, .pointer (some ⟨g, 0, none⟩)) :: F) w') : wpF P n ops Q (o :: rest) F w := F_alloc hgd hd hn ho hz hC HS K

/-! ### Structs out of parts, some of them arrays -/
theorem fold_set (Post : List Value) (off : Nat) : ∀ (vs Pre M : List Value) (s : Nat), Pre.length = off + s → M.length = vs.length →
    (vs.zipIdx s).foldl (fun (cs : Array Value) (p : Value × Nat) => cs.setIfInBounds (off + p.2) p.1) (Pre ++ M ++ Post).toArray = (Pre ++ vs ++ Post).toArray := by
  intro vs
  induction vs with
  | nil => intro Pre M s _ hM; rw [List.length_eq_zero_iff.1 hM]; rfl
  | cons c vs ih =>
    intro Pre M s hP hM
    cases M with
    | nil => simp at hM
    | cons m M =>
      rw [List.zipIdx_cons, List.foldl_cons]
      have e : (Pre ++ m :: M ++ Post).toArray.setIfInBounds (off + s) c = ((Pre ++ [c]) ++ M ++ Post).toArray := by
        rw [← hP]
        simp [List.set_append]
      simp only [e]
      rw [ih (Pre ++ [c]) M (s + 1) (by simp [hP]; omega) (by simpa using hM)]
      simp
theorem fill_step {places : Nat → Option (Nat × Nat)} {i off sz : Nat} {v : Value} {Pre M M' Post : List Value} {parts : List (Nat × Value)} (hp : places i = some (off, sz)) (hk : Pre.length = off) (hl : M.length = sz) (hv : v.cells.toList = M') (hl' : M'.length = sz) :
    Instr.fill places (Pre ++ M ++ Post).toArray ((i, v) :: parts) = Instr.fill places (Pre ++ M' ++ Post).toArray parts := by
  have hc : v.cells = M'.toArray := by rw [← hv]
  rw [Instr.fill, hp]
  simp only [hc, List.size_toArray]
  rw [if_neg (by simp; omega)]
  congr 1
  have h1 := fold_set Post off M' Pre M 0 (by omega) (by omega)
  rw [← h1, ← Array.foldl_toList, Array.toList_zipIdx]
inductive Fills (places : Nat → Option (Nat × Nat)) : List Value → List (Nat × Value) → List Value → Prop where
  | nil (C : List Value) : Fills places C [] C
  | cons {i off sz : Nat} {v : Value} {C C' : List Value} {parts : List (Nat × Value)} (Pre M M' Post C1 : List Value) : places i = some (off, sz) → C = Pre ++ M ++ Post → Pre.length = off → M.length = sz → v.cells.toList = M' → M'.length = sz → Pre ++ M' ++ Post = C1 → Fills places C1 parts C' → Fills places C ((i, v) :: parts) C'
theorem Fills.fill {places : Nat → Option (Nat × Nat)} {C C' : List Value} {parts : List (Nat × Value)} (h : Fills places C parts C') : Instr.fill places C.toArray parts = some C'.toArray := by
  induction h with
  | nil C => rfl
  | cons Pre M M' Post C1 hp e hk hl hv hl' e1 h ih => rw [e, fill_step hp hk hl hv hl', e1, ih]
def placesOf (l : List (Nat × Nat)) (i : Nat) : Option (Nat × Nat) := l[i]?
/-- A struct's places and zero. -/
def StructAt (P : Program) (t : TypeId) (l : List (Nat × Nat)) (Z : List Value) : Prop := ∀ (parts : List (Nat × Value)) (C : List Value) (w : World), Instr.fill (placesOf l) Z.toArray parts = some C.toArray → (Instr.build t parts.toArray).run P w = .ok (.agg C.toArray) w
theorem StructAt.of {t : TypeId} {fs : Array Field} {l : List (Nat × Nat)} {Z : List Value} {z : Value} (hu : P.underlying t = some (.struct fs)) (hz : (P.info? t).map (·.zero) = some (some z)) (hZ : z.cells.toList = Z)
    (hp : ∀ w, (fs.mapM fun f => do pure (f.offset, ← sizeOf f.type) : Sem (Array (Nat × Nat))).run P w = .ok l.toArray w) : StructAt P t l Z := by
  intro parts C w h
  obtain ⟨i, hi, hz'⟩ := Option.map_eq_some_iff.1 hz
  have e : z.cells = Z.toArray := by rw [← hZ]
  have hpl : (fun i => l.toArray[i]?) = placesOf l := by funext i; simp [placesOf]
  simp only [Instr.build, zeroValue, typeInfo, Sem.run_bind, run_underlying hu, hp, hi, hz', Result.andThen_ok, Sem.run_pure, e, hpl, h]
  simp [hi, hz', hpl, h, e]
theorem O_buildS {t : TypeId} {parts : Array (Nat × Operand)} {l : List (Nat × Nat)} {Z C : List Value} (vs : List (Nat × Value)) (ho : o.op = .build t parts) (hv : evs F (parts.toList.map (·.2)) = some (vs.map (·.2))) (hk : parts.toList.map (·.1) = vs.map (·.1)) (hs : StructAt P t l Z) (h : Fills (placesOf l) Z vs C) : OpVal P o F w (.agg C.toArray) :=
  O_build ho hv hk fun w => hs vs C w h.fill
end
end Go.V
namespace Go.V
open Go
section
variable {P : Program} {n : Nat} {Q : Exit → Act → World → Prop} {cs : List Code} {F : List (Nat × Value)} {w w0 : World} {S : Nat → Prop} {L : List Res}
  {ops : Array Oper} {rest : List Oper} {o : Oper}

theorem run_loadVarW {t : TypeId} {b sz : Nat} {C : List Value} (hT : Wide P t sz) (hC : Cells (some ⟨b, 0, none⟩) C w) (hl : C.length = sz) (h0 : 0 < sz) : (loadVar t ⟨b, 0, none⟩).run P w = .ok (.agg C.toArray) w := by
  rcases hC with h | ⟨b', off, e, hc⟩
  · rw [h] at hl; simp at hl; omega
  · cases e
    have hr := run_loadCells (P := P) (w := w) (b := b) (k := 0) sz 0 #[] C hl (fun j v hj => by
      have := hc _ _ hj
      simpa using this)
    simp only [Array.empty_append] at hr
    simp [loadVar, (hT w).1, (hT w).2, loadCells, hr]
theorem post_retc1 {fn : Func} {R : Ending → World → Prop} {a : Act} {t : Nat} {ty : TypeId} {b sz : Nat} {C : List Value} (ha : Is n a F) (hr : fn.results = #[.cell t ty]) (hv : look F t = some (.pointer (some ⟨b, 0, none⟩))) (hT : Wide P ty sz) (hC : Cells (some ⟨b, 0, none⟩) C w) (hl : C.length = sz) (h0 : 0 < sz) (h : R (.returned (.agg C.toArray)) w) : bodyPost P fn R .ret a w :=
by
  have e := ha.f t _ hv
  simp only [Array.getD_eq_getD_getElem?] at e
  exact ⟨ha.d, .agg C.toArray, by simp [results, hr, e, asAddr, run_loadVarW hT hC hl h0], h⟩
theorem post_retc2 {fn : Func} {R : Ending → World → Prop} {a : Act} {t u : Nat} {ty : TypeId} {b sz : Nat} {C : List Value} {v' : Value} (ha : Is n a F) (hr : fn.results = #[.cell t ty, .tmp u]) (hv : look F t = some (.pointer (some ⟨b, 0, none⟩))) (hT : Wide P ty sz) (hC : Cells (some ⟨b, 0, none⟩) C w) (hl : C.length = sz) (h0 : 0 < sz) (hv' : look F u = some v') (h : R (.returned (.tuple #[.agg C.toArray, v'])) w) : bodyPost P fn R .ret a w :=
by
  have e := ha.f t _ hv
  have e' := ha.f u _ hv'
  simp only [Array.getD_eq_getD_getElem?] at e e'
  exact ⟨ha.d, .tuple #[.agg C.toArray, v'], by simp [results, hr, e, e', asAddr, run_loadVarW hT hC hl h0], h⟩

/-- Where only handed pieces have turned, the others stand. -/
theorem Hp.keepT {w' : World} (h : Hp S w0 w L) (T : List Nat) (hc : Chg (feet (pick L T)) w w') : Hp S w0 w' (mask L T ++ []) := by
  have h' : Hp (feet (pick L T)) w w' [] := ⟨hc, (fun r hr => by cases hr), (fun b hb => by simp [feet, feetL] at hb), (by simp [feetL]), (fun B I hm => by cases hm)⟩
  exact h.back T h' rfl
theorem L_heldS {id : Nat} {l : List Oper} (f g : Nat) (tl : List Nat) (hm : P.follows .mixedOrders = true) (hN : l.toArray.size = f + g)
    (h : ∀ w1, Chg NoB w w1 → ∃ S, wpH P n l.toArray (fun a w => wpL P Q cs a w) S tl g f (Array.replicate l.length false) F w1) : wpLF P n Q (.region id l.toArray true :: cs) F w := by
  intro a ha
  obtain ⟨S, h0⟩ := h w.drew ⟨rfl, rfl, rfl, Nat.le_refl _, fun _ _ _ => rfl⟩
  have h1 := wpG_any _ _ _ _ (h0 a ha)
  rw [← hN] at h1
  have h2 : (Code.region id l.toArray true).wp P (nrm fun a w => wpL P Q cs a w) a w := wp_region_any hm (by simpa using h1)
  refine wp_mono h2 ?_
  intro e a w h
  cases e <;> first | exact h | exact h.elim
end
end Go.V
namespace Go.V
open Go
section
variable {P : Program} {n : Nat} {Q : Exit → Act → World → Prop} {F : List (Nat × Value)} {w : World} {ops : Array Oper} {rest : List Oper} {o : Oper}
/-- A guarded operation that runs, as if it had no guard. -/
theorem F_ung {g : Nat} {b : Bool} {dj : Nat} (hg : o.guard = some (g, b)) (hj : (ops[g]?).bind (·.dst) = some dj) (hv : look F dj = some (.bool b)) (hdj : Nat.ble (dj + 1) n = true) (h : wpF P n ops Q ({ o with guard := none } :: rest) F w) : wpF P n ops Q (o :: rest) F w := by
  intro a ha
  have h1 := h a ha
  have hw : Region.wanted o (yielded ops a.tmps) = true := by rw [wanted_of hg hj ha hv hdj]; simp [wantB]
  have hw2 : Region.wanted { o with guard := none } (yielded ops a.tmps) = true := by simp [Region.wanted]
  simp only [wpList] at h1 ⊢
  rw [if_pos hw2] at h1
  rw [if_pos hw]
  exact h1
end
end Go.V
namespace Go.V
open Go
/-- The blocks of the pieces that a region turns. -/
abbrev Hp.ft {S : Nat → Prop} {w0 w : World} {L : List Res} (h : Hp S w0 w L) (T : List Nat) : Nat → Prop := feet (pick L T)
abbrev Hp.turns {S : Nat → Prop} {w0 w : World} {L : List Res} (h : Hp S w0 w L) (T : List Nat) : World → Prop := fun w' => Chg (feet (pick L T)) w w'
end Go.V
namespace Go.V
open Go
theorem arr_cell {C : List Value} {k i : Nat} {v : Value} (Pre M Post : List Value) (e : C = Pre ++ M ++ Post) (hk : Pre.length = k) (h : M[i]? = some v) : C[k + i]? = some v := by
  have hj2 := (List.getElem?_eq_some_iff.1 h).1
  rw [e, List.append_assoc, List.getElem?_append_right (by omega), List.getElem?_append_left (by omega), show k + i - Pre.length = i by omega]
  exact h
end Go.V
namespace Go.V
open Go
def onS : Exit → Bool
  | .exit _ => true
  | .ret => true
  | _ => false
section
variable {P : Program} {n : Nat} {Q : Exit → Act → World → Prop} {cs : List Code} {F : List (Nat × Value)} {w w0 : World} {S : Nat → Prop} {L : List Res}
  {ops : Array Oper} {rest : List Oper} {o : Oper} {α : Type} {E : El α} {xs ys : List α}
theorem L_scope {c : Code} (h : ∀ Q' : Exit → Act → World → Prop, (∀ a w, wpL P Q cs a w → Q' .normal a w) → (∀ e a w, onS e = true → Q e a w → Q' e a w) → wpLF P n Q' [c] F w) : wpLF P n Q (.scope c :: cs) F w := by
  intro a ha
  have := h (Exit.noGoto (Exit.then (wpL P Q cs) Q)) (fun a w h => h) (fun e a w he h => by cases e <;> first | exact h | cases he) a ha
  simp only [wpL] at this ⊢
  refine wp_scope_straight (wp_mono this ?_)
  intro e a w h
  cases e <;> exact h
theorem L_label {l : Nat} (h : wpLF P n Q cs F w) : wpLF P n Q (.label l :: cs) F w := fun a ha => wp_label (h a ha)

/-- Two that may come now, in whichever order. -/
theorem H_two {K : Act → World → Prop} {S : World → Prop} {tl : List Nat} {g f : Nat} {listed : Array Bool} {i j : Nat} {o' : Oper} (hi : ops[i]? = some o) (hj : ops[j]? = some o') (hr : Region.ready .any ops listed = [i, j]) (ht : tl.contains i = false) (ht' : tl.contains j = false)
    (h : wpF P n ops (cutQ (fun a' w' => S w' ∧ wpG P ops K S tl g f (listed.setIfInBounds i true) a' w') (nrm K)) [o] F w)
    (h' : wpF P n ops (cutQ (fun a' w' => S w' ∧ wpG P ops K S tl g f (listed.setIfInBounds j true) a' w') (nrm K)) [o'] F w) : wpH P n ops K S tl g (f + 1) listed F w := by
  intro a ha
  refine ⟨fun k hk => ?_, (fun e => by rw [hr] at e; cases e), fun k hk => ?_⟩
  · rw [hr] at hk
    simp only [List.mem_cons, List.not_mem_nil, or_false] at hk
    rcases hk with rfl | rfl
    · simpa using ht
    · simpa using ht'
  · rw [hr] at hk
    simp only [List.mem_cons, List.not_mem_nil, or_false] at hk
    rcases hk with rfl | rfl
    · exact wpOp_of_list hi (h a ha)
    · exact wpOp_of_list hj (h' a ha)

/-! ### x[lo:] and x[lo:hi], with their addresses -/
def frmA (A : Option Addr) (cap l sz : Nat) : Option Addr := if cap = l then A else A.map (·.add (l * sz))
theorem O_frm {x y : Operand} {t e : TypeId} {A : Option Addr} {cap : Nat} {k : IntKind} {l : Int} (ho : o.op = .slice t x (some y) none none) (hx : ev F x = some (.slice A xs.length cap)) (hy : ev F y = some (.int k l)) (ht : P.underlying t = some (.slice e)) (hs : (P.info? e).map (·.size) = some E.sz)
    (h0 : 0 ≤ l) (h1 : l ≤ (xs.length : Int)) : OpVal P o F w (.slice (frmA A cap l.toNat E.sz) (xs.drop l.toNat).length (cap - l.toNat)) := fun q a ha => by
  have hu := run_underlying (w := w) ht
  simp only [execOp, ho, ha.ev hx, ha.ev hy, Option.map_some, Option.map_none, Instr.sliceAt, Sem.run_bind, hu, Result.andThen_ok, Instr.slice, Instr.sliceBounds, Instr.sliceBound, asIntOf, Sem.run_pure, Sem.run_ite, if_pos (And.intro h0 h1), run_sizeOf hs, frmA, List.length_drop]
theorem O_mid {x y z : Operand} {t e : TypeId} {A : Option Addr} {m cap : Nat} {k k' : IntKind} {l h : Int} (ho : o.op = .slice t x (some y) (some z) none) (hx : ev F x = some (.slice A m cap)) (hy : ev F y = some (.int k l)) (hz : ev F z = some (.int k' h)) (ht : P.underlying t = some (.slice e)) (hs : (P.info? e).map (·.size) = some E.sz)
    (h0 : 0 ≤ l) (h1 : l ≤ h) (h2 : h ≤ (xs.length : Int)) (hc : xs.length ≤ cap) : OpVal P o F w (.slice (frmA A cap l.toNat E.sz) ((xs.drop l.toNat).take (h.toNat - l.toNat)).length (cap - l.toNat)) := fun q a ha => by
  have hu := run_underlying (w := w) ht
  have hh : 0 ≤ h ∧ h ≤ (cap : Int) := ⟨by omega, by omega⟩
  have hl : 0 ≤ l ∧ l ≤ (h.toNat : Int) := ⟨h0, by omega⟩
  have e : ((xs.drop l.toNat).take (h.toNat - l.toNat)).length = h.toNat - l.toNat := by rw [List.length_take, List.length_drop]; omega
  rw [e]
  simp only [execOp, ho, ha.ev hx, ha.ev hy, ha.ev hz, Option.map_some, Option.map_none, Instr.sliceAt, Sem.run_bind, hu, Result.andThen_ok, Instr.slice, Instr.sliceBounds, Instr.sliceBound, asIntOf, Sem.run_pure, Sem.run_ite, if_pos hh, if_pos hl, run_sizeOf hs, frmA]
theorem sub_frm {A : Option Addr} {cap l : Nat} (hC : Cells A (rowC E xs) w) (hc : xs.length ≤ cap) : Sub A (rowC E xs) (frmA A cap l E.sz) (rowC E (xs.drop l)) := by
  unfold frmA
  by_cases h : cap = l
  · exact .inl (by rw [List.drop_eq_nil_of_le (by omega)]; rfl)
  · rw [if_neg h]
    rcases hC with hC | ⟨b, off, rfl, _⟩
    · exact .inl (by rw [rowC_drop, hC, List.drop_nil])
    · refine .inr ⟨b, off, l * E.sz, rfl, by simp [addr_add], fun j v hj => ?_⟩
      rw [rowC_drop, List.getElem?_drop] at hj
      exact hj
theorem sub_mid {A : Option Addr} {cap l k : Nat} (hC : Cells A (rowC E xs) w) (hc : xs.length ≤ cap) : Sub A (rowC E xs) (frmA A cap l E.sz) (rowC E ((xs.drop l).take k)) := by
  have h := sub_frm (l := l) hC hc
  rcases h with h | ⟨b, off, d, h1, h2, h3⟩
  · exact .inl (by rw [rowC_take, h, List.take_nil])
  · refine .inr ⟨b, off, d, h1, h2, fun j v hj => h3 j v ?_⟩
    rw [rowC_take, List.getElem?_take] at hj
    split at hj
    · exact hj
    · cases hj
theorem Sub.trans {A A' A'' : Option Addr} {C C' C'' : List Value} (h : Sub A C A' C') (k : Sub A' C' A'' C'') : Sub A C A'' C'' := by
  rcases k with k | ⟨b, off, d, h1, h2, h3⟩
  · exact .inl k
  · rcases h with h | ⟨b', off', d', h1', h2', h3'⟩
    · subst h
      refine .inl ?_
      cases C'' with
      | nil => rfl
      | cons v C'' => simpa using h3 0 v rfl
    · rw [h1] at h2'
      cases h2'
      exact .inr ⟨b, off', d' + d, h1', by rw [h2, Nat.add_assoc], fun j v hj => by rw [Nat.add_assoc]; exact h3' _ _ (h3 j v hj)⟩
theorem drop_cap {c l : Nat} (h : xs.length ≤ c) : (xs.drop l).length ≤ c - l := by rw [List.length_drop]; omega
theorem mid_cap {c l k : Nat} (h : xs.length ≤ c) : ((xs.drop l).take k).length ≤ c - l := by rw [List.length_take, List.length_drop]; omega
/-- make, of a number that is known. -/
theorem F_makeK {x y : Operand} {t e : TypeId} {d : Nat} {c : Int} {k k' : IntKind} {z : Value} {bytes : Nat} (hgd : o.guard = none) (hd : o.dst = some d) (hn : Nat.ble (d + 1) n = true) (ho : o.op = .makeSlice t x y)
    (hx : ev F x = some (.int k c)) (hy : ev F y = some (.int k' c)) (ht : P.underlying t = some (.slice e)) (hi : (P.info? e).map (fun i => (i.zero, i.size, i.bytes)) = some (some z, E.sz, bytes)) (hz : z.cells.toList = E.enc E.def_) (hs : 0 < E.sz) (hb : 0 < bytes)
    (h0 : 0 ≤ c) (h2 : c * bytes ≤ 281474976710656) (HS : Hp S w0 w L)
    (K : ∀ w' A cap, Hp S w0 w' (L ++ [.own A cap (rowC E (List.replicate c.toNat E.def_)) e E.sz]) → wpF P n ops Q rest ((d, .slice A (List.replicate c.toNat E.def_).length cap) :: F) w') : wpF P n ops Q (o :: rest) F w :=
  F_makeE (E := E) hgd hd hn ho hx hy ht hi hz hs hb h0 h2 HS rfl K
end
end Go.V
