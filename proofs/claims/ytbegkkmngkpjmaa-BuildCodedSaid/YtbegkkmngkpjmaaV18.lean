/- Regions that draw: what is read comes ahead of the effects. -/
import Derived.Test.YtbegkkmngkpjmaaV17
set_option linter.unusedVariables false
set_option linter.unusedSimpArgs false
namespace Go.V
open Go

def lst (effs : List Nat) (l : Array Bool) : Bool := effs.any fun e => l.getD e false
def SS (effs : List Nat) (S0 S : World → Prop) (l : Array Bool) (w : World) : Prop := match lst effs l with | true => S w | false => S0 w
theorem SS_t {effs : List Nat} {S0 S : World → Prop} {l : Array Bool} {w : World} (h : lst effs l = true) : SS effs S0 S l w = S w := by unfold SS; rw [h]
theorem SS_f {effs : List Nat} {S0 S : World → Prop} {l : Array Bool} {w : World} (h : lst effs l = false) : SS effs S0 S l w = S0 w := by unfold SS; rw [h]
theorem lst_set {effs : List Nat} {l : Array Bool} {i : Nat} (h : i ∉ effs) : lst effs (l.setIfInBounds i true) = lst effs l := by
  unfold lst
  induction effs with
  | nil => rfl
  | cons e es ih =>
    simp only [List.any_cons]
    rw [ih (fun hm => h (List.mem_cons_of_mem _ hm)), getD_set_ne false (fun e2 => h (List.mem_cons.2 (.inl e2.symm.symm)))]
theorem SS_set {effs : List Nat} {S0 S : World → Prop} {l : Array Bool} {i : Nat} {w : World} (h : i ∉ effs) : SS effs S0 S (l.setIfInBounds i true) w = SS effs S0 S l w := by unfold SS; rw [lst_set h]

def wpG2 (P : Program) (ops : Array Oper) (K : Act → World → Prop) (effs : List Nat) (S0 S : World → Prop) (tl : List Nat) (g : Nat) : Nat → Array Bool → Act → World → Prop
  | 0, listed, a, w => (∀ j ∈ Region.ready .any ops listed, j ∈ tl) ∧ wpAny P .any ops (nrm K) g listed a w
  | f + 1, listed, a, w => (∀ j ∈ Region.ready .any ops listed, j ∉ tl) ∧ Region.ready .any ops listed ≠ [] ∧
    ∀ i ∈ Region.ready .any ops listed, wpOp P ops (nrm K) i (fun a' w' => SS effs S0 S (listed.setIfInBounds i true) w' ∧ wpG2 P ops K effs S0 S tl g f (listed.setIfInBounds i true) a' w') a w

section
variable {P : Program} {ops : Array Oper} {K : Act → World → Prop} {effs : List Nat} {S0 S : World → Prop} {tl : List Nat} {g : Nat}
theorem wpG2_any : ∀ (f : Nat) (listed : Array Bool) (a : Act) (w : World), wpG2 P ops K effs S0 S tl g f listed a w → wpAny P .any ops (nrm K) (f + g) listed a w
  | 0, listed, a, w, h => by rw [Nat.zero_add]; exact h.2
  | f + 1, listed, a, w, h => by
    rw [show f + 1 + g = (f + g) + 1 by omega]
    exact ⟨fun e => absurd e h.2.1, fun i hi => wpOp_mono (fun a' w' h' => wpG2_any f _ a' w' h'.2) (h.2.2 i hi)⟩

theorem unl_of {listed : Array Bool} {i : Nat} (hr : i ∈ Region.ready .any ops listed) : listed.getD i false = false := getD_both (mem_ready.1 hr).1
theorem waits_out {listed : Array Bool} {i : Nat} (hr : i ∈ Region.ready .any ops listed) {j : Nat} (hw : Region.waitsFor .any ops j i = true) : j ∉ Region.ready .any ops listed := by
  intro hj
  obtain ⟨oj, hoj, e, he, hb, hon⟩ := Region.waitsFor_spec hw
  obtain ⟨_, o', ho', hall⟩ := mem_ready.1 hj
  obtain rfl : oj = o' := Option.some.inj (hoj.symm.trans ho')
  have h1 := hall e he hb
  rw [hon, unl_of hr] at h1
  cases h1

/-- One that reads, ahead of all effects. -/
theorem wpG2_first {i : Nat} {oi : Oper} {v : Value} (hi : ops[i]? = some oi) (hs : Region.noSelect ops = true) (ht : tlWaits ops tl i = true) (Z : List Nat) (hZ : (Z.all fun z => Region.waitsFor .any ops z i || Z.any fun z' => Region.waitsFor .any ops z z') = true) (he : (effs.all fun e => Z.contains e) = true) (hie : i ∉ effs) :
    ∀ (f : Nat) (listed : Array Bool) (a : Act) (w : World), lst Z listed = false → (∀ (j : Nat) (oj : Oper), ops[j]? = some oj → j ≠ i → listed.getD j true = false → (∀ e ∈ oj.after, Region.binds .any e = true → e.on ≠ i) → oi.apart ops oj = true) →
      i ∈ Region.ready .any ops listed → YieldsIf P ops S0 oi v a → S0 w → wpG2 P ops K effs S0 S tl g f (listed.setIfInBounds i true) (a.put oi.dst v) w → wpG2 P ops K effs S0 S tl g (f + 1) listed a w := by
  simp only [tlWaits, Bool.and_eq_true, Bool.not_eq_true', List.all_eq_true] at ht
  simp only [List.all_eq_true] at he
  have sub : ∀ listed : Array Bool, lst Z listed = false → lst effs listed = false := by
    intro listed h
    unfold lst at h ⊢
    rw [List.any_eq_false] at h ⊢
    intro e hm
    exact h e (by simpa using he e hm)
  have nz : ∀ listed : Array Bool, lst Z listed = false → i ∈ Region.ready .any ops listed → ∀ j ∈ Region.ready .any ops listed, j ∉ Z := by
    intro listed hl hr j hj hjz
    have hw := List.all_eq_true.1 hZ j hjz
    rw [Bool.or_eq_true] at hw
    rcases hw with hw | hw
    · exact waits_out hr hw hj
    · obtain ⟨z, hz, hw⟩ := List.any_eq_true.1 hw
      have hzl : listed.getD z false = false := by
        unfold lst at hl
        rw [List.any_eq_false] at hl
        simpa using hl z hz
      obtain ⟨oj, hoj, e, he, hb, hon⟩ := Region.waitsFor_spec hw
      obtain ⟨_, o', ho', hall⟩ := mem_ready.1 hj
      obtain rfl : oj = o' := Option.some.inj (hoj.symm.trans ho')
      have h1 := hall e he hb
      rw [hon, hzl] at h1
      cases h1
  have hit : i ∉ tl := by simpa using ht.1
  have out : ∀ listed : Array Bool, i ∈ Region.ready .any ops listed → ∀ j ∈ Region.ready .any ops listed, j ∉ tl := fun listed hr j hj hjt => waits_out hr (ht.2 j hjt) hj
  intro f
  induction f with
  | zero =>
    intro listed a w hl hfree hr hy hS H
    refine ⟨out listed hr, (fun e => by rw [e] at hr; cases hr), fun j hj => ?_⟩
    by_cases hji : j = i
    · subst hji; exact hy.wpOp hi hS ⟨by rw [SS_set hie, SS_f (sub _ hl)]; exact hS, H⟩
    · exact absurd (H.1 j (ready_mono hj hji)) (out listed hr j hj)
  | succ f ih =>
    intro listed a w hl hfree hr hy hS H
    refine ⟨out listed hr, (fun e => by rw [e] at hr; cases hr), fun j hj => ?_⟩
    by_cases hji : j = i
    · subst hji; exact hy.wpOp hi hS ⟨by rw [SS_set hie, SS_f (sub _ hl)]; exact hS, H⟩
    · have hjz : j ∉ Z := nz listed hl hr j hj
      have hje : j ∉ effs := fun hm => hjz (by simpa using he j hm)
      obtain ⟨hjun, oj, hoj, hall⟩ := mem_ready.1 hj
      have hnot : ∀ e ∈ oj.after, Region.binds .any e = true → e.on ≠ i := fun e he heq => by
        intro heq2
        have h1 := hall e he heq
        rw [heq2, unl_of hr] at h1
        cases h1
      have hl2 : lst Z (listed.setIfInBounds j true) = false := by rw [lst_set hjz]; exact hl
      have h2 := wpOp_putIf (S := S0) hoj (hfree j oj hoj hji hjun hnot) (fun cs b => Region.noSelect_spec hs i oi cs b hi) (fun cs b => Region.noSelect_spec hs j oj cs b hoj) (fun c a w h => h) hy (H.2.2 j (ready_mono hj hji))
      refine wpOp_mono (fun a' w' h3 => ?_) h2
      have h4 : S0 w' := by
        have h5 := h3.2.1
        rw [SS_set hje, SS_set hie, SS_f (sub _ hl)] at h5
        exact h5
      refine ⟨by rw [SS_f (sub _ hl2)]; exact h4, ih _ a' w' hl2 (fun k ok hk hki hun hno => hfree k ok hk hki ?_ hno) (ready_mono hr (Ne.symm hji)) h3.1 h4 ?_⟩
      · by_cases hjk : j = k
        · subst hjk; exact hjun
        · rw [getD_set_ne true hjk] at hun; exact hun
      · rw [Array.setIfInBounds_comm _ _ hji]; exact h3.2.2
/-- One whose value hangs on no memory. -/
theorem wpG2_free {i : Nat} {oi : Oper} {v : Value} (hi : ops[i]? = some oi) (hs : Region.noSelect ops = true) (ht : tlWaits ops tl i = true) (hie : i ∉ effs) :
    ∀ (f : Nat) (listed : Array Bool) (a : Act) (w : World), (∀ (j : Nat) (oj : Oper), ops[j]? = some oj → j ≠ i → listed.getD j true = false → (∀ e ∈ oj.after, Region.binds .any e = true → e.on ≠ i) → oi.apart ops oj = true) →
      i ∈ Region.ready .any ops listed → YieldsIf P ops (fun _ => True) oi v a → SS effs S0 S listed w → wpG2 P ops K effs S0 S tl g f (listed.setIfInBounds i true) (a.put oi.dst v) w → wpG2 P ops K effs S0 S tl g (f + 1) listed a w := by
  simp only [tlWaits, Bool.and_eq_true, Bool.not_eq_true', List.all_eq_true] at ht
  have hit : i ∉ tl := by simpa using ht.1
  have out : ∀ listed : Array Bool, i ∈ Region.ready .any ops listed → ∀ j ∈ Region.ready .any ops listed, j ∉ tl := fun listed hr j hj hjt => waits_out hr (ht.2 j hjt) hj
  intro f
  induction f with
  | zero =>
    intro listed a w hfree hr hy hS H
    refine ⟨out listed hr, (fun e => by rw [e] at hr; cases hr), fun j hj => ?_⟩
    by_cases hji : j = i
    · subst hji; exact hy.wpOp hi trivial ⟨by rw [SS_set hie]; exact hS, H⟩
    · exact absurd (H.1 j (ready_mono hj hji)) (out listed hr j hj)
  | succ f ih =>
    intro listed a w hfree hr hy hS H
    refine ⟨out listed hr, (fun e => by rw [e] at hr; cases hr), fun j hj => ?_⟩
    by_cases hji : j = i
    · subst hji; exact hy.wpOp hi trivial ⟨by rw [SS_set hie]; exact hS, H⟩
    · obtain ⟨hjun, oj, hoj, hall⟩ := mem_ready.1 hj
      have hnot : ∀ e ∈ oj.after, Region.binds .any e = true → e.on ≠ i := fun e he heq => by
        intro heq2
        have h1 := hall e he heq
        rw [heq2, unl_of hr] at h1
        cases h1
      have h2 := wpOp_putIf (S := fun _ => True) hoj (hfree j oj hoj hji hjun hnot) (fun cs b => Region.noSelect_spec hs i oi cs b hi) (fun cs b => Region.noSelect_spec hs j oj cs b hoj) (fun c a w h => h) hy (H.2.2 j (ready_mono hj hji))
      refine wpOp_mono (fun a' w' h3 => ?_) h2
      have h4 : SS effs S0 S (listed.setIfInBounds j true) w' := by
        have h5 := h3.2.1
        rw [Array.setIfInBounds_comm _ _ (Ne.symm hji), SS_set hie] at h5
        exact h5
      refine ⟨h4, ih _ a' w' (fun k ok hk hki hun hno => hfree k ok hk hki ?_ hno) (ready_mono hr (Ne.symm hji)) h3.1 h4 ?_⟩
      · by_cases hjk : j = k
        · subst hjk; exact hjun
        · rw [getD_set_ne true hjk] at hun; exact hun
      · rw [Array.setIfInBounds_comm _ _ hji]; exact h3.2.2
end

section
variable {P : Program} {n : Nat} {Q : Exit → Act → World → Prop} {cs : List Code} {F : List (Nat × Value)} {w w0 : World} {L : List Res}
  {ops : Array Oper} {rest : List Oper} {o : Oper} {K : Act → World → Prop} {effs : List Nat} {S0 S : World → Prop} {tl : List Nat} {g f : Nat} {listed : Array Bool}
def wpH2 (P : Program) (n : Nat) (ops : Array Oper) (K : Act → World → Prop) (effs : List Nat) (S0 S : World → Prop) (tl : List Nat) (g f : Nat) (listed : Array Bool) (F : List (Nat × Value)) (w : World) : Prop := ∀ a, Is n a F → wpG2 P ops K effs S0 S tl g f listed a w
theorem L_held2 {id : Nat} {l : List Oper} (f g : Nat) (tl effs : List Nat) (hm : P.follows .mixedOrders = true) (hN : l.toArray.size = f + g)
    (h : ∀ w1, Chg NoB w w1 → ∃ S0 S, wpH2 P n l.toArray (fun a w => wpL P Q cs a w) effs S0 S tl g f (Array.replicate l.length false) F w1) : wpLF P n Q (.region id l.toArray true :: cs) F w := by
  intro a ha
  obtain ⟨S0, S, h0⟩ := h w.drew ⟨rfl, rfl, rfl, Nat.le_refl _, fun _ _ _ => rfl⟩
  have h1 := wpG2_any _ _ _ _ (h0 a ha)
  rw [← hN] at h1
  have h2 : (Code.region id l.toArray true).wp P (nrm fun a w => wpL P Q cs a w) a w := wp_region_any hm (by simpa using h1)
  refine wp_mono h2 ?_
  intro e a w h
  cases e <;> first | exact h | exact h.elim
theorem H2_val {i d : Nat} {v : Value} (Z : List Nat) (hi : ops[i]? = some o) (hs : Region.noSelect ops = true) (ht : tlWaits ops tl i = true) (hf : Region.free .any ops listed i = true) (hr : (Region.ready .any ops listed).contains i = true) (hZ : (Z.all fun z => Region.waitsFor .any ops z i || Z.any fun z' => Region.waitsFor .any ops z z') = true) (he : (effs.all fun e => Z.contains e) = true) (hie : effs.contains i = false) (hl : lst Z listed = false)
    (hg : o.guard = Option.none) (hd : o.dst = some d) (hn : Nat.ble (d + 1) n = true) (hS : S0 w) (hv : ∀ w, S0 w → OpVal P o F w v) (k : wpH2 P n ops K effs S0 S tl g f (listed.setIfInBounds i true) ((d, v) :: F) w) : wpH2 P n ops K effs S0 S tl g (f + 1) listed F w := by
  intro a ha
  refine wpG2_first hi hs ht Z hZ he (by simpa using hie) f listed a w hl (Region.free_spec hi hf) (by simpa using hr) (.inl ⟨by simp [Region.wanted, hg], fun w hw => hv w hw n a ha⟩) hS ?_
  rw [hd]; exact k _ (ha.put v (Nat.le_of_ble_eq_true hn))
theorem H2_fval {i d : Nat} {v : Value} (hi : ops[i]? = some o) (hs : Region.noSelect ops = true) (ht : tlWaits ops tl i = true) (hf : Region.free .any ops listed i = true) (hr : (Region.ready .any ops listed).contains i = true) (hie : effs.contains i = false)
    (hg : o.guard = Option.none) (hd : o.dst = some d) (hn : Nat.ble (d + 1) n = true) (hS : SS effs S0 S listed w) (hv : ∀ w, OpVal P o F w v) (k : wpH2 P n ops K effs S0 S tl g f (listed.setIfInBounds i true) ((d, v) :: F) w) : wpH2 P n ops K effs S0 S tl g (f + 1) listed F w := by
  intro a ha
  refine wpG2_free hi hs ht (by simpa using hie) f listed a w (Region.free_spec hi hf) (by simpa using hr) (.inl ⟨by simp [Region.wanted, hg], fun w hw => hv w n a ha⟩) hS ?_
  rw [hd]; exact k _ (ha.put v (Nat.le_of_ble_eq_true hn))
theorem SS_0 (hl : lst effs listed = false) (h : S0 w) : SS effs S0 S listed w := by rw [SS_f hl]; exact h
theorem SS_1 (hl : lst effs listed = true) (h : S w) : SS effs S0 S listed w := by rw [SS_t hl]; exact h
theorem H2_one {i : Nat} (hi : ops[i]? = some o) (hr : Region.ready .any ops listed = [i]) (ht : tl.contains i = false)
    (h : wpF P n ops (cutQ (fun a' w' => SS effs S0 S (listed.setIfInBounds i true) w' ∧ wpG2 P ops K effs S0 S tl g f (listed.setIfInBounds i true) a' w') (nrm K)) [o] F w) : wpH2 P n ops K effs S0 S tl g (f + 1) listed F w := by
  intro a ha
  refine ⟨fun j hj => ?_, (fun e => by rw [hr] at e; cases e), fun j hj => ?_⟩
  · rw [hr] at hj
    simp only [List.mem_singleton] at hj
    subst hj
    simpa using ht
  · rw [hr] at hj
    simp only [List.mem_singleton] at hj
    subst hj
    exact wpOp_of_list hi (h a ha)
theorem H2_next {listed' : Array Bool} {w' : World} (hS : SS effs S0 S listed' w') (h : wpH2 P n ops K effs S0 S tl g f listed' F w') : wpF P n ops (cutQ (fun a' w' => SS effs S0 S listed' w' ∧ wpG2 P ops K effs S0 S tl g f listed' a' w') (nrm K)) [] F w' := fun a ha => ⟨hS, h a ha⟩
theorem H2_end (hr : (Region.ready .any ops listed).all (fun j => tl.contains j) = true) (h : wpT P n ops K g listed F w) : wpH2 P n ops K effs S0 S tl g 0 listed F w :=
  fun a ha => ⟨fun j hj => by simpa using List.all_eq_true.1 hr j hj, h a ha⟩
end
end Go.V
namespace Go.V
open Go
section
variable {w w0 : World} {S : Nat → Prop} {L : List Res} {α : Type} {E : El α} {xs : List α}
theorem Hp.ownTake (h : Hp S w0 w L) {i cap : Nat} {A : Option Addr} {t : TypeId} (hi : nth L i = some (.own A cap (rowC E xs) t E.sz)) (k : Nat) : Hp S w0 w (upd L i (.own A cap (rowC E (xs.take k)) t E.sz)) := by
  have e : rowC E xs = rowC E (xs.take k) ++ rowC E (xs.drop k) := by rw [← rowC_append, List.take_append_drop]
  rw [e] at hi
  exact h.own_cut hi
end
end Go.V
