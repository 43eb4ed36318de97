/- Calls that only look, and groups with such calls. -/
import Derived.Test.YtbegkkmngkpjmaaV9
set_option linter.unusedVariables false
set_option linter.unusedSimpArgs false
namespace Go.V
open Go
section
variable {P : Program} {n : Nat} {Q : Exit → Act → World → Prop} {cs : List Code} {F : List (Nat × Value)} {w w0 : World} {S : Nat → Prop} {L : List Res}
  {ops : Array Oper} {rest : List Oper} {o : Oper} {α : Type} {E : El α} {xs ys : List α}

theorem F_qcall {f : FuncId} {fn : Func} {xs : List Operand} {ts : Array TypeId} {vs : List Value} {d : Nat} {v : Value} (hgd : o.guard = Option.none) (hd : o.dst = some d) (hn : Nat.ble (d + 1) n = true) (ho : o.op = .call { callee := .value (.func f), args := xs.toArray, argTypes := ts })
    (hf : P.funcs[f]? = some fn) (hname : (fn.name == "runtime.NumGoroutine") = false) (hb : fn.body.isSome = true) (hxs : evs F xs = some vs)
    (h : Calls P f vs.toArray w fun e w' => e = .returned v ∧ Chg NoB w w') (k : ∀ w', Chg NoB w w' → wpF P n ops Q rest ((d, v) :: F) w') : wpF P n ops Q (o :: rest) F w :=
  F_call hgd hd hn ho hf hname hb hxs (h.mono fun e w' hc => ⟨v, hc.1, k w' hc.2⟩)
theorem F_gqcall {f : FuncId} {fn : Func} {xs : List Operand} {ts : Array TypeId} {vs : List Value} {d : Nat} {v : Value} {g : Nat} {b : Bool} {dj : Nat} (hg : o.guard = some (g, b)) (hj : (ops[g]?).bind (·.dst) = some dj) (hv : look F dj = some (.bool b)) (hdj : Nat.ble (dj + 1) n = true) (hd : o.dst = some d) (hn : Nat.ble (d + 1) n = true) (ho : o.op = .call { callee := .value (.func f), args := xs.toArray, argTypes := ts })
    (hf : P.funcs[f]? = some fn) (hname : (fn.name == "runtime.NumGoroutine") = false) (hb : fn.body.isSome = true) (hxs : evs F xs = some vs)
    (h : Calls P f vs.toArray w fun e w' => e = .returned v ∧ Chg NoB w w') (k : ∀ w', Chg NoB w w' → wpF P n ops Q rest ((d, v) :: F) w') : wpF P n ops Q (o :: rest) F w :=
  F_gcall hg hj hv hdj hd hn ho hf hname hb hxs (h.mono fun e w' hc => ⟨v, hc.1, k w' hc.2⟩)
theorem F_qcall0 {f : FuncId} {fn : Func} {xs : List Operand} {ts : Array TypeId} {vs : List Value} {v : Value} (hgd : o.guard = Option.none) (hd : o.dst = Option.none) (ho : o.op = .call { callee := .value (.func f), args := xs.toArray, argTypes := ts })
    (hf : P.funcs[f]? = some fn) (hname : (fn.name == "runtime.NumGoroutine") = false) (hb : fn.body.isSome = true) (hxs : evs F xs = some vs)
    (h : Calls P f vs.toArray w fun e w' => e = .returned v ∧ Chg NoB w w') (k : ∀ w', Chg NoB w w' → wpF P n ops Q rest F w') : wpF P n ops Q (o :: rest) F w :=
  F_call0 hgd hd ho hf hname hb hxs (h.mono fun e w' hc => ⟨v, hc.1, k w' hc.2⟩)

theorem F_grpQ {l : List Oper} (k : Nat) (F' : List (Nat × Value)) (h1 : wpF P n ops (cutQ (fun a w' => Chg NoB w w' ∧ Is n a F') Q) (l.take k) F w) (h2 : ∀ w', Chg NoB w w' → wpF P n ops Q (l.drop k) F' w') : wpF P n ops Q l F w := by
  intro a ha
  have := h1 a ha
  have key : ∀ (l l2 : List Oper) (a : Act) (w1 : World), wpList P ops (cutQ (fun a w' => Chg NoB w w' ∧ Is n a F') Q) l a w1 → (∀ a w', Chg NoB w w' → Is n a F' → wpList P ops Q l2 a w') → wpList P ops Q (l ++ l2) a w1 := by
    intro l l2
    have hup : ∀ (o : Oper) (a : Act) (K : Act → World → Prop) r, Oper.upon P o a K (cutQ (fun a w' => Chg NoB w w' ∧ Is n a F') Q) r → Oper.upon P o a K Q r := by
      intro o a K r h
      cases r with
      | ok v w => cases v <;> exact h
      | halt x w => cases x <;> exact h
    induction l with
    | nil =>
      intro a w1 h h2
      obtain ⟨h4, h3⟩ : Chg NoB w w1 ∧ Is n a F' := h
      exact h2 a w1 h4 h3
    | cons o l ih =>
      intro a w1 h h2
      simp only [List.cons_append, wpList] at h ⊢
      split
      · rename_i hw
        rw [if_pos hw] at h
        rcases h with h | h
        · exact .inl (hup _ _ _ _ (Oper.wp_mono (fun a w h => ih a w h h2) h))
        · exact .inr h
      · rename_i hw
        rw [if_neg hw] at h
        exact ih _ _ h h2
  have := key _ (l.drop k) a w this (fun a w' h3 h4 => h2 w' h3 a h4)
  rwa [List.take_append_drop] at this
theorem F_grpQE {F' : List (Nat × Value)} {w1 : World} (hq : Chg NoB w w1) (h : ∀ a, Is n a F → Is n a F') : wpF P n ops (cutQ (fun a w' => Chg NoB w w' ∧ Is n a F') Q) [] F w1 := fun a ha => ⟨hq, h a ha⟩
end
end Go.V
