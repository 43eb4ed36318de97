/- Frames as lists of slots, and one law for each kind of operation that reads or reckons. -/
import Derived.WalkKit
import Derived.Deep.Quiet
import Derived.Deep.LoopGhost
import Derived.KernelRfl
set_option linter.unusedVariables false
set_option linter.unusedSimpArgs false
namespace Go.V
open Go

/-! ### Frames -/
def look : List (Nat × Value) → Nat → Option Value
  | [], _ => none
  | (k, v) :: F, i => match Nat.beq k i with | true => some v | false => look F i

def ev (F : List (Nat × Value)) : Operand → Option Value
  | .tmp i => look F i
  | .const v => some v
  | .global g => some (.pointer (some ⟨g, 0, none⟩))
  | .func f => some (.func (.func f) #[] #[])

def evs (F : List (Nat × Value)) : List Operand → Option (List Value)
  | [] => some []
  | x :: xs => match ev F x, evs F xs with | some v, some vs => some (v :: vs) | _, _ => none

structure Is (n : Nat) (a : Act) (F : List (Nat × Value)) : Prop where
  d : a.defers = []
  s : a.tmps.size = n
  f : ∀ i v, look F i = some v → a.tmps.getD i undef = v

theorem look_cons {k i : Nat} {v : Value} {F : List (Nat × Value)} : look ((k, v) :: F) i = if k = i then some v else look F i := by
  simp only [look]
  by_cases h : k = i
  · subst h; simp
  · have : Nat.beq k i = false := by
      cases hb : Nat.beq k i with
      | false => rfl
      | true => exact absurd (Nat.eq_of_beq_eq_true hb) h
    simp [this, h]

theorem Is.ev {n : Nat} {a : Act} {F : List (Nat × Value)} (h : Is n a F) {x : Operand} {v : Value} (hx : ev F x = some v) : a.eval x = v := by
  cases x <;> simp only [V.ev] at hx
  case tmp i => exact h.f i v hx
  all_goals (simp only [Option.some.injEq] at hx; subst hx; rfl)

theorem Is.evs {n : Nat} {a : Act} {F : List (Nat × Value)} (h : Is n a F) {xs : List Operand} {vs : List Value} (hx : evs F xs = some vs) : xs.map a.eval = vs := by
  induction xs generalizing vs with
  | nil => simp only [V.evs, Option.some.injEq] at hx; subst hx; rfl
  | cons x xs ih =>
    simp only [V.evs] at hx
    split at hx
    · rename_i v vs' e1 e2
      simp only [Option.some.injEq] at hx
      subst hx
      simp [h.ev e1, ih e2]
    · cases hx

theorem Is.put {n : Nat} {a : Act} {F : List (Nat × Value)} (h : Is n a F) {d : Nat} (v : Value) (hd : d < n) : Is n (a.put (some d) v) ((d, v) :: F) := by
  refine ⟨h.d, by simpa [Act.put] using h.s, ?_⟩
  intro i u hu
  rw [look_cons] at hu
  have hs : d < a.tmps.size := by rw [h.s]; exact hd
  simp only [Act.put]
  split at hu
  · rename_i e
    subst e
    simp only [Option.some.injEq] at hu
    subst hu
    simp [Array.getD_eq_getD_getElem?, hs]
  · rename_i e
    have := h.f i u hu
    rw [← this]
    simp [Array.getD_eq_getD_getElem?, Array.getElem?_setIfInBounds, e]

theorem Is.none {n : Nat} {a : Act} {F : List (Nat × Value)} (h : Is n a F) (v : Value) : Is n (a.put none v) F := h
theorem Is.nil {n : Nat} {a : Act} {F : List (Nat × Value)} (h : Is n a F) : Is n a [] := ⟨h.d, h.s, fun _ _ h => by cases h⟩
theorem Is.cons {n : Nat} {a : Act} {F G : List (Nat × Value)} (h : Is n a F) (g : Is n a G) {i : Nat} {v : Value} (e : look F i = some v) : Is n a ((i, v) :: G) := by
  refine ⟨h.d, h.s, fun j u hu => ?_⟩
  rw [look_cons] at hu
  split at hu
  · rename_i e1
    subst e1
    simp only [Option.some.injEq] at hu
    subst hu
    exact h.f _ _ e
  · exact g.f j u hu

theorem Is.know {n : Nat} {a : Act} {F : List (Nat × Value)} (h : Is n a F) {i : Nat} {v v' : Value} (hv : look F i = some v) (e : v = v') : Is n a ((i, v') :: F) := by
  subst e
  refine ⟨h.d, h.s, fun j u hu => ?_⟩
  rw [look_cons] at hu
  split at hu
  · rename_i e1
    subst e1
    simp only [Option.some.injEq] at hu
    subst hu
    exact h.f _ _ hv
  · exact h.f j u hu

/-- The frame with which a function begins. -/
def startF : Nat → List Value → List (Nat × Value)
  | _, [] => []
  | k, v :: vs => (k, v) :: startF (k + 1) vs

theorem look_startF (vs : List Value) : ∀ (k i : Nat) (v : Value), look (startF k vs) i = some v → k ≤ i ∧ vs[i - k]? = some v := by
  induction vs with
  | nil => intro k i v h; simp [startF, look] at h
  | cons u vs ih =>
    intro k i v h
    simp only [startF] at h
    rw [look_cons] at h
    split at h
    · rename_i e
      subst e
      simp only [Option.some.injEq] at h
      subst h
      simp
    · rename_i e
      obtain ⟨h1, h2⟩ := ih _ _ _ h
      refine ⟨by omega, ?_⟩
      rw [show i - k = (i - (k + 1)) + 1 by omega]
      simpa using h2

theorem Is.start (vs : List Value) (n : Nat) (h : vs.length ≤ n) : Is n { tmps := vs.toArray ++ Array.replicate (n - vs.toArray.size) undef, defers := [] } (startF 0 vs) := by
  refine ⟨rfl, by simp; omega, ?_⟩
  intro i v hv
  obtain ⟨_, h2⟩ := look_startF vs 0 i v hv
  have hi : i < vs.length := (List.getElem?_eq_some_iff.1 h2).1
  simp only [Nat.sub_zero] at h2
  simp only [Array.getD_eq_getD_getElem?]
  rw [Array.getElem?_append_left (by simpa using hi)]
  simp [h2]

/-! ### Code, regions -/
def wpL (P : Program) (Q : Exit → Act → World → Prop) : List Code → Act → World → Prop
  | [], a, w => Q .normal a w
  | c :: cs, a, w => c.wp P (Exit.then (wpL P Q cs) Q) a w

def wpLF (P : Program) (n : Nat) (Q : Exit → Act → World → Prop) (cs : List Code) (F : List (Nat × Value)) (w : World) : Prop := ∀ a, Is n a F → wpL P Q cs a w
def wpF (P : Program) (n : Nat) (ops : Array Oper) (Q : Exit → Act → World → Prop) (l : List Oper) (F : List (Nat × Value)) (w : World) : Prop := ∀ a, Is n a F → wpList P ops Q l a w

section
variable {P : Program} {n : Nat} {Q : Exit → Act → World → Prop} {cs : List Code} {F : List (Nat × Value)} {w : World}

theorem then_mono {K K' : Act → World → Prop} {Q Q' : Exit → Act → World → Prop} (hk : ∀ a w, K a w → K' a w) (hq : ∀ e a w, e ≠ .normal → Q e a w → Q' e a w) : ∀ e a w, Exit.then K Q e a w → Exit.then K' Q' e a w := by
  intro e a w h
  cases e <;> simp only [Exit.then] at h ⊢
  · exact hk _ _ h
  all_goals exact hq _ _ _ (by simp) h

theorem wpL_mono {Q' : Exit → Act → World → Prop} (hq : ∀ e a w, Q e a w → Q' e a w) : ∀ (cs : List Code) (a : Act) (w : World), wpL P Q cs a w → wpL P Q' cs a w
  | [], a, w, h => hq _ _ _ h
  | c :: cs, a, w, h => wp_mono (c := c) h (then_mono (fun a w h => wpL_mono hq cs a w h) fun e a w _ h => hq e a w h)

theorem L_seq {x y : Code} (h : wpLF P n Q (x :: y :: cs) F w) : wpLF P n Q (.seq x y :: cs) F w := by
  intro a ha
  have := h a ha
  simp only [wpL] at this ⊢
  refine wp_seq (wp_mono this ?_)
  intro e a w h
  cases e <;> exact h

theorem L_nil (h : ∀ a, Is n a F → Q .normal a w) : wpLF P n Q [] F w := h

theorem L_skip (h : wpLF P n Q cs F w) : wpLF P n Q (.skip :: cs) F w := fun a ha => wp_skip (h a ha)

theorem L_region {id : Nat} {l : List Oper} (h : wpF P n l.toArray (Exit.then (wpL P Q cs) Q) l F w) : wpLF P n Q (.region id l.toArray false :: cs) F w :=
  fun a ha => wp_region_lit (h a ha)

theorem F_nil {ops : Array Oper} (h : wpLF P n Q cs F w) : wpF P n ops (Exit.then (wpL P Q cs) Q) [] F w := fun a ha => h a ha
theorem F_nil' {ops : Array Oper} (h : ∀ a, Is n a F → Q .normal a w) : wpF P n ops Q [] F w := fun a ha => h a ha

theorem L_cond {c : Operand} {x y : Code} {b : Bool} (hc : ev F c = some (.bool b)) (ht : b = true → wpLF P n Q (x :: cs) F w) (hf : b = false → wpLF P n Q (y :: cs) F w) : wpLF P n Q (.cond c x y :: cs) F w :=
  fun a ha => wp_cond_split (ha.ev hc) (fun h => ht h a ha) (fun h => hf h a ha)

theorem L_condP {c : Operand} {x y : Code} {p : Prop} [Decidable p] (hc : ev F c = some (.bool (decide p))) (ht : p → wpLF P n Q (x :: cs) F w) (hf : ¬ p → wpLF P n Q (y :: cs) F w) : wpLF P n Q (.cond c x y :: cs) F w :=
  L_cond hc (fun h => ht (of_decide_eq_true h)) (fun h => hf (of_decide_eq_false h))

theorem L_ret (h : ∀ a, Is n a F → Q .ret a w) : wpLF P n Q (.ret :: cs) F w := fun a ha => wp_ret (h a ha)
theorem L_exit {id : Nat} (h : ∀ a, Is n a F → Q (.exit id) a w) : wpLF P n Q (.exit id :: cs) F w := fun a ha => wp_exit (h a ha)

/-- A block: behind it 'cs'. -/
theorem L_block {id : Nat} {c : Code}
    (h : ∀ Q' : Exit → Act → World → Prop, (∀ a w, wpL P Q cs a w → Q' .normal a w) → (∀ a w, wpL P Q cs a w → Q' (.exit id) a w) →
      (∀ e a w, e ≠ .normal → e ≠ .exit id → Q e a w → Q' e a w) → wpLF P n Q' [c] F w) : wpLF P n Q (.block id c :: cs) F w := by
  intro a ha
  refine wp_block ?_
  have := h (Exit.inBlock id (Exit.then (wpL P Q cs) Q)) (fun a w h => h) (fun a w h => by simp only [Exit.inBlock, if_true]; exact h)
    (fun e a w h1 h2 h => by cases e <;> simp_all [Exit.inBlock, Exit.then]) a ha
  simp only [wpL] at this
  refine wp_mono this ?_
  intro e a w h
  cases e <;> exact h

/-- A loop, its rounds counted by a number that falls. -/
theorem L_loop {c : Code} (I : Nat → Act → World → Prop) (k : Nat) (h0 : ∀ a, Is n a F → I k a w)
    (round : ∀ k a w, I k a w → ∀ Q' : Exit → Act → World → Prop, (∀ j a w, j < k → I j a w → Q' .normal a w) → (∀ e a w, e ≠ .normal → Q e a w → Q' e a w) → wpL P Q' [c] a w) :
    wpLF P n Q (.loop c :: cs) F w := by
  intro a ha
  refine wp_loop_ghost I k (h0 a ha) ?_
  intro k a w hI
  have hr := round k a w hI (Exit.then (fun a' w' => ∃ n', n' < k ∧ I n' a' w') (Exit.then (wpL P Q cs) Q)) (fun j a' w' hj h => ⟨j, hj, h⟩)
    (fun e a w he h => by cases e <;> first | exact absurd rfl he | exact h)
  simp only [wpL] at hr
  refine wp_mono hr ?_
  intro e a w h
  cases e <;> exact h

/-- Ways meet again: R holds behind the first part. -/
theorem L_cut {c : Code} (R : Act → World → Prop)
    (h1 : ∀ Q' : Exit → Act → World → Prop, (∀ a w, R a w → Q' .normal a w) → (∀ e a w, e ≠ .normal → Q e a w → Q' e a w) → wpLF P n Q' [c] F w)
    (h2 : ∀ a w, R a w → wpL P Q cs a w) : wpLF P n Q (c :: cs) F w := by
  intro a ha
  have := h1 (Exit.then R Q) (fun _ _ h => h) (fun e a w he h => by cases e <;> first | exact absurd rfl he | exact h) a ha
  simp only [wpL] at this ⊢
  refine wp_mono this ?_
  intro e a w h
  cases e <;> first | exact h2 _ _ h | exact h

def cutQ (R : Act → World → Prop) (Q : Exit → Act → World → Prop) : Exit → Act → World → Prop
  | .normal, a, w => R a w
  | e, a, w => Q e a w
/-- .. within a region. -/
theorem F_cut {ops : Array Oper} {l : List Oper} (R : Act → World → Prop)
    (h1 : wpF P n ops (cutQ R Q) l F w) (h2 : ∀ a w, R a w → Q .normal a w) : wpF P n ops Q l F w := by
  have hup : ∀ (o : Oper) (a : Act) (K : Act → World → Prop) r, Oper.upon P o a K (cutQ R Q) r → Oper.upon P o a K Q r := by
    intro o a K r h
    cases r with
    | ok v w => cases v <;> exact h
    | halt x w => cases x <;> exact h
  have key : ∀ (l : List Oper) (a : Act) (w : World), wpList P ops (cutQ R Q) l a w → wpList P ops Q l a w := by
    intro l
    induction l with
    | nil => intro a w h; exact h2 _ _ h
    | cons o l ih =>
      intro a w h
      simp only [wpList] at h ⊢
      split
      · rename_i hw
        rw [if_pos hw] at h
        rcases h with h | h
        · exact .inl (hup _ _ _ _ (Oper.wp_mono ih h))
        · exact .inr h
      · rename_i hw
        rw [if_neg hw] at h
        exact ih _ _ h
  exact fun a ha => key _ _ _ (h1 a ha)

/-! ### One operation -/
variable {ops : Array Oper} {rest : List Oper} {o : Oper}

def OpVal (P : Program) (o : Oper) (F : List (Nat × Value)) (w : World) (v : Value) : Prop := ∀ n a, Is n a F → (execOp a.eval o).run P w = .ok (.value v) w

theorem F_val {d : Nat} {v : Value} (hg : o.guard = Option.none) (hd : o.dst = some d) (hn : Nat.ble (d + 1) n = true) (h : OpVal P o F w v) (k : wpF P n ops Q rest ((d, v) :: F) w) : wpF P n ops Q (o :: rest) F w := by
  intro a ha
  refine wpList_plain hg fun K hK => ?_
  unfold Oper.wp
  rw [h n a ha, Oper.upon_value, hd]
  exact hK _ _ (k _ (ha.put v (Nat.le_of_ble_eq_true hn)))

def wantB (u : Value) (b : Bool) : Bool := match u with | .bool c => c == b | _ => false
theorem wanted_of {g : Nat} {b : Bool} {dj : Nat} {v : Value} {a : Act} (hg : o.guard = some (g, b)) (hj : (ops[g]?).bind (·.dst) = some dj) (ha : Is n a F) (hv : look F dj = some v) (hdj : Nat.ble (dj + 1) n = true) :
    Region.wanted o (yielded ops a.tmps) = wantB v b := by
  have h1 := ha.f dj v hv
  have h2 : dj < a.tmps.size := by rw [ha.s]; exact Nat.le_of_ble_eq_true hdj
  simp only [Array.getD_eq_getD_getElem?, Array.getElem?_eq_getElem h2, Option.getD_some] at h1
  simp only [Region.wanted, hg, yielded, hj, Option.bind_some, Array.getElem?_eq_getElem h2, h1, wantB]
  cases v <;> first | rfl | (rename_i c; cases c <;> cases b <;> rfl)

/-- A guarded operation that runs. -/
theorem F_gval {d : Nat} {v : Value} {g : Nat} {b : Bool} {dj : Nat} (hg : o.guard = some (g, b)) (hj : (ops[g]?).bind (·.dst) = some dj) (hv : look F dj = some (.bool b)) (hdj : Nat.ble (dj + 1) n = true)
    (hd : o.dst = some d) (hn : Nat.ble (d + 1) n = true) (h : OpVal P o F w v) (k : wpF P n ops Q rest ((d, v) :: F) w) : wpF P n ops Q (o :: rest) F w := by
  intro a ha
  refine wpList_step fun K hK => ?_
  rw [wanted_of hg hj ha hv hdj]
  simp only [wantB, beq_self_eq_true, if_true]
  unfold Oper.wp
  rw [h n a ha, Oper.upon_value, hd]
  exact hK _ _ (k _ (ha.put v (Nat.le_of_ble_eq_true hn)))

/-- A guarded operation that is passed over. -/
theorem F_gskip {d : Nat} {u : Value} {g : Nat} {b : Bool} {dj : Nat} (hg : o.guard = some (g, b)) (hj : (ops[g]?).bind (·.dst) = some dj) (hv : look F dj = some u) (hdj : Nat.ble (dj + 1) n = true) (hu : wantB u b = false)
    (hd : o.dst = some d) (hn : Nat.ble (d + 1) n = true) (k : wpF P n ops Q rest ((d, undef) :: F) w) : wpF P n ops Q (o :: rest) F w := by
  intro a ha
  refine wpList_step fun K hK => ?_
  rw [wanted_of hg hj ha hv hdj, hu]
  simp only [Bool.false_eq_true, if_false]
  rw [hd]
  exact hK _ _ (k _ (ha.put undef (Nat.le_of_ble_eq_true hn)))

end
end Go.V
