/- Function values. -/
import Derived.Test.YtbegkkmngkpjmaaV16
import Derived.Laws.Cover3
set_option linter.unusedVariables false
set_option linter.unusedSimpArgs false
namespace Go.V
open Go
section
variable {P : Program} {n : Nat} {Q : Exit → Act → World → Prop} {cs : List Code} {F : List (Nat × Value)} {w w0 : World} {S : Nat → Prop} {L : List Res}
  {ops : Array Oper} {rest : List Oper} {o : Oper}
theorem O_makeFunc {f : FuncId} {cs : List Operand} {caps : List Value} (ho : o.op = .makeFunc (.func f) #[] cs.toArray) (hc : evs F cs = some caps) : OpVal P o F w (.func (.func f) #[] caps.toArray) := fun n a ha => by
  have e : cs.map a.eval = caps := ha.evs hc
  simp [execOp, ho, Instr.makeFunc, e]
theorem run_callV {f : FuncId} {fn : Func} {x : Operand} {xs : List Operand} {ts : Array TypeId} {vs cv vs2 : List Value} {a : Act} {q : Nat} (ha : Is q a F) (ho : o.op = .call { callee := .value x, args := xs.toArray, argTypes := ts }) (hx : ev F x = some (.func (.func f) #[] cv.toArray))
    (hf : P.funcs[f]? = some fn) (hname : (fn.name == "runtime.NumGoroutine") = false) (hb : fn.body.isSome = true) (hxs : evs F xs = some vs) (he : vs ++ cv = vs2) (w : World) : (execOp a.eval o).run P w = .ok (.enter f vs2.toArray) w := by
  subst he
  have hbn : fn.body.isNone = false := by cases hb' : fn.body <;> simp_all
  have hargs : xs.map a.eval = vs := ha.evs hxs
  have hxv := ha.ev hx
  simp only [execOp, ho, resolve, Deferred.ofValue, hxv, invoke, Sem.run_bind, Sem.run_pure, Result.andThen_ok, callFunc, run_program, hf]
  simp [hname, hbn, hargs]
section
variable {C : World → Prop} {R : Act → Prop}
theorem Q_callV {f : FuncId} {fn : Func} {x : Operand} {xs : List Operand} {ts : Array TypeId} {vs cv vs2 : List Value} {d : Nat} {v : Value} (hg : o.guard = Option.none) (hd : o.dst = some d) (hn : Nat.ble (d + 1) n = true) (ho : o.op = .call { callee := .value x, args := xs.toArray, argTypes := ts })
    (hx : ev F x = some (.func (.func f) #[] cv.toArray)) (hf : P.funcs[f]? = some fn) (hname : (fn.name == "runtime.NumGoroutine") = false) (hb : fn.body.isSome = true) (hxs : evs F xs = some vs) (he : vs ++ cv = vs2)
    (h : ∀ w, C w → Calls P f vs2.toArray w fun e w' => e = .returned v ∧ C w') (k : wpQ P n ops C R rest ((d, v) :: F)) : wpQ P n ops C R (o :: rest) F := by
  intro a ha
  refine wpQuiet_step fun K hK => ?_
  simp only [Region.wanted, hg, if_true]
  refine ⟨v, fun w hw => ?_, ?_⟩
  · unfold Oper.quietAt
    rw [run_callV ha ho hx hf hname hb hxs he w]
    exact ⟨rfl, h w hw⟩
  · rw [hd]; exact hK _ (k _ (ha.put v (Nat.le_of_ble_eq_true hn)))
theorem Q_gcallV {f : FuncId} {fn : Func} {x : Operand} {xs : List Operand} {ts : Array TypeId} {vs cv vs2 : List Value} {d : Nat} {v : Value} {g : Nat} {b : Bool} {dj : Nat} (hg : o.guard = some (g, b)) (hj : (ops[g]?).bind (·.dst) = some dj) (hv : look F dj = some (.bool b)) (hdj : Nat.ble (dj + 1) n = true) (hd : o.dst = some d) (hn : Nat.ble (d + 1) n = true) (ho : o.op = .call { callee := .value x, args := xs.toArray, argTypes := ts })
    (hx : ev F x = some (.func (.func f) #[] cv.toArray)) (hf : P.funcs[f]? = some fn) (hname : (fn.name == "runtime.NumGoroutine") = false) (hb : fn.body.isSome = true) (hxs : evs F xs = some vs) (he : vs ++ cv = vs2)
    (h : ∀ w, C w → Calls P f vs2.toArray w fun e w' => e = .returned v ∧ C w') (k : wpQ P n ops C R rest ((d, v) :: F)) : wpQ P n ops C R (o :: rest) F := by
  intro a ha
  refine wpQuiet_step fun K hK => ?_
  rw [wanted_of hg hj ha hv hdj]
  simp only [wantB, beq_self_eq_true, if_true]
  refine ⟨v, fun w hw => ?_, ?_⟩
  · unfold Oper.quietAt
    rw [run_callV ha ho hx hf hname hb hxs he w]
    exact ⟨rfl, h w hw⟩
  · rw [hd]; exact hK _ (k _ (ha.put v (Nat.le_of_ble_eq_true hn)))
end
/-- A call of a function value, for its effects. -/
theorem F_callV0 {f : FuncId} {fn : Func} {x : Operand} {xs : List Operand} {ts : Array TypeId} {vs cv vs2 : List Value} (hgd : o.guard = Option.none) (hd : o.dst = Option.none) (ho : o.op = .call { callee := .value x, args := xs.toArray, argTypes := ts })
    (hx : ev F x = some (.func (.func f) #[] cv.toArray)) (hf : P.funcs[f]? = some fn) (hname : (fn.name == "runtime.NumGoroutine") = false) (hb : fn.body.isSome = true) (hxs : evs F xs = some vs) (he : vs ++ cv = vs2)
    (h : Calls P f vs2.toArray w fun e w' => ∃ v, e = .returned v ∧ wpF P n ops Q rest F w') : wpF P n ops Q (o :: rest) F w := by
  intro a ha
  refine wpList_plain hgd fun K hK => ?_
  unfold Oper.wp
  rw [run_callV ha ho hx hf hname hb hxs he w, Oper.upon_enter]
  refine h.mono ?_
  rintro e w' ⟨v, rfl, hk⟩
  rw [hd]
  exact hK _ _ (hk _ ha)
theorem F_callV {f : FuncId} {fn : Func} {x : Operand} {xs : List Operand} {ts : Array TypeId} {vs cv vs2 : List Value} {d : Nat} (hgd : o.guard = Option.none) (hd : o.dst = some d) (hn : Nat.ble (d + 1) n = true) (ho : o.op = .call { callee := .value x, args := xs.toArray, argTypes := ts })
    (hx : ev F x = some (.func (.func f) #[] cv.toArray)) (hf : P.funcs[f]? = some fn) (hname : (fn.name == "runtime.NumGoroutine") = false) (hb : fn.body.isSome = true) (hxs : evs F xs = some vs) (he : vs ++ cv = vs2)
    (h : Calls P f vs2.toArray w fun e w' => ∃ v, e = .returned v ∧ wpF P n ops Q rest ((d, v) :: F) w') : wpF P n ops Q (o :: rest) F w := by
  intro a ha
  refine wpList_plain hgd fun K hK => ?_
  unfold Oper.wp
  rw [run_callV ha ho hx hf hname hb hxs he w, Oper.upon_enter]
  refine h.mono ?_
  rintro e w' ⟨v, rfl, hk⟩
  rw [hd]
  exact hK _ _ (hk _ (ha.put v (Nat.le_of_ble_eq_true hn)))
end
end Go.V
namespace Go.V
open Go
section
variable {P : Program} {F : List (Nat × Value)} {w : World} {o : Oper} {α δ : Type} {E : El δ} {xs : List α}
theorem O_frmD {x y : Operand} {t e : TypeId} {A : Option Addr} {cap : Nat} {k : IntKind} {l : Int} (ho : o.op = .slice t x (some y) none none) (hx : ev F x = some (.slice A xs.length cap)) (hy : ev F y = some (.int k l)) (ht : P.underlying t = some (.slice e)) (hs : (P.info? e).map (·.size) = some E.sz)
    (h0 : 0 ≤ l) (h1 : l ≤ (xs.length : Int)) : OpVal P o F w (.slice (frmA A cap l.toNat E.sz) (xs.drop l.toNat).length (cap - l.toNat)) := by
  have hl : (List.replicate xs.length E.def_).length = xs.length := List.length_replicate
  have := O_frm (E := E) (xs := List.replicate xs.length E.def_) (w := w) ho (by rw [hl]; exact hx) hy ht hs h0 (by rw [hl]; exact h1)
  rwa [List.length_drop, hl, ← List.length_drop] at this
end
end Go.V
namespace Go.V
open Go
section
variable {P : Program} {F : List (Nat × Value)} {w : World} {o : Oper}
theorem O_sleqN {x y : Operand} {xt yt e : TypeId} {A : Option Addr} {l c : Nat} (ho : o.op = .binOp .eql xt x y yt) (hx : ev F x = some (.slice A l c)) (hy : ev F y = some (.slice none 0 0)) (ht : P.underlying xt = some (.slice e)) : OpVal P o F w (.bool A.isNone) :=
  O_eqBy ho hx hy (fun w => by simp [eqGuard]) (by simp [binOp, run_equal_slice_nil w xt e A l c ht])
theorem nil_of_none {A : Option Addr} {l : List Int} {k : IntKind} (h : Cells A (rowC (Eint k) l) w) (hA : A.isNone = true) : l = [] := by
  rcases h with h | ⟨b, o, e, _⟩
  · have := congrArg List.length h
    rw [rowC_length] at this
    exact List.eq_nil_of_length_eq_zero (by simpa [Eint] using this)
  · subst e; cases hA
end
end Go.V
