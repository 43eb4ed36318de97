/- Slices of slices; calls; regions that draw; a function's begin and end. -/
import Derived.Test.YtbegkkmngkpjmaaV6
set_option linter.unusedVariables false
set_option linter.unusedSimpArgs false
namespace Go.V
open Go

section
variable {P : Program} {n : Nat} {Q : Exit → Act → World → Prop} {cs : List Code} {F : List (Nat × Value)} {w w0 : World} {S : Nat → Prop} {L : List Res}
  {ops : Array Oper} {rest : List Oper} {o : Oper}

/-! ### x[lo:hi] -/
theorem O_sliceTo {x y : Operand} {t e : TypeId} {A : Option Addr} {m cap sz : Nat} {k : IntKind} {h : Int} (ho : o.op = .slice t x Option.none (some y) Option.none) (hx : ev F x = some (.slice A m cap)) (hy : ev F y = some (.int k h)) (ht : P.underlying t = some (.slice e)) (hs : (P.info? e).map (·.size) = some sz)
    (h0 : 0 ≤ h) (h1 : h ≤ (cap : Int)) : OpVal P o F w (.slice A h.toNat cap) := fun q a ha => by
  have hu := run_underlying (w := w) ht
  simp only [execOp, ho, ha.ev hx, ha.ev hy, Option.map_some, Option.map_none, Instr.sliceAt, Sem.run_bind, hu, Result.andThen_ok, Instr.slice, Instr.sliceBounds, Instr.sliceBound, asIntOf, Sem.run_pure, Sem.run_ite, if_pos (And.intro h0 h1), run_sizeOf hs, if_true]
  by_cases hc : cap = 0
  · simp [hc]
  · cases A with
    | none => simp [hc]
    | some ad => simp [hc, Addr.add]

theorem O_sliceFrom {x y : Operand} {t e : TypeId} {A : Option Addr} {C : List Value} {m cap sz : Nat} {k : IntKind} {l : Int} (ho : o.op = .slice t x (some y) Option.none Option.none) (hx : ev F x = some (.slice A m cap)) (hy : ev F y = some (.int k l)) (ht : P.underlying t = some (.slice e)) (hs : (P.info? e).map (·.size) = some sz)
    (h0 : 0 ≤ l) (h1 : l ≤ (m : Int)) (hcl : C.length ≤ cap * sz) (hC : Cells A C w) : ∃ A', OpVal P o F w (.slice A' (m - l.toNat) (cap - l.toNat)) ∧ Sub A C A' (C.drop (l.toNat * sz)) := by
  refine ⟨if cap = l.toNat then A else A.map (·.add (l.toNat * sz)), fun q a ha => ?_, ?_⟩
  · have hu := run_underlying (w := w) ht
    simp only [execOp, ho, ha.ev hx, ha.ev hy, Option.map_some, Option.map_none, Instr.sliceAt, Sem.run_bind, hu, Result.andThen_ok, Instr.slice, Instr.sliceBounds, Instr.sliceBound, asIntOf, Sem.run_pure, Sem.run_ite, if_pos (And.intro h0 h1), run_sizeOf hs]
  · by_cases hc : cap = l.toNat
    · rw [hc] at hcl
      exact .inl (List.drop_eq_nil_of_le hcl)
    · rw [if_neg hc]
      rcases hC with hC | ⟨b, off, rfl, _⟩
      · subst hC; exact .inl (by simp)
      · refine .inr ⟨b, off, l.toNat * sz, rfl, by simp [addr_add], fun j v hj => ?_⟩
        rw [List.getElem?_drop] at hj
        exact hj

theorem O_sliceMid {x y z : Operand} {t e : TypeId} {A : Option Addr} {C : List Value} {m cap sz : Nat} {k k' : IntKind} {l h : Int} (ho : o.op = .slice t x (some y) (some z) Option.none) (hx : ev F x = some (.slice A m cap)) (hy : ev F y = some (.int k l)) (hz : ev F z = some (.int k' h)) (ht : P.underlying t = some (.slice e)) (hs : (P.info? e).map (·.size) = some sz)
    (h0 : 0 ≤ l) (h1 : l ≤ h) (h2 : h ≤ (cap : Int)) (hC : Cells A C w) : ∃ A', OpVal P o F w (.slice A' (h.toNat - l.toNat) (cap - l.toNat)) ∧ Sub A C A' ((C.drop (l.toNat * sz)).take ((h.toNat - l.toNat) * sz)) := by
  refine ⟨if cap = l.toNat then A else A.map (·.add (l.toNat * sz)), fun q a ha => ?_, ?_⟩
  · have hu := run_underlying (w := w) ht
    have hh : 0 ≤ h ∧ h ≤ (cap : Int) := ⟨by omega, h2⟩
    have hl : 0 ≤ l ∧ l ≤ (h.toNat : Int) := ⟨h0, by omega⟩
    simp only [execOp, ho, ha.ev hx, ha.ev hy, ha.ev hz, Option.map_some, Option.map_none, Instr.sliceAt, Sem.run_bind, hu, Result.andThen_ok, Instr.slice, Instr.sliceBounds, Instr.sliceBound, asIntOf, Sem.run_pure, Sem.run_ite, if_pos hh, if_pos hl, run_sizeOf hs]
  · by_cases hc : cap = l.toNat
    · have : h.toNat - l.toNat = 0 := by omega
      rw [this]
      exact .inl (by simp)
    · rw [if_neg hc]
      rcases hC with hC | ⟨b, off, rfl, _⟩
      · subst hC; exact .inl (by simp)
      · refine .inr ⟨b, off, l.toNat * sz, rfl, by simp [addr_add], fun j v hj => ?_⟩
        rw [List.getElem?_take] at hj
        split at hj
        · rw [List.getElem?_drop] at hj; exact hj
        · cases hj

/-! ### Calls -/
theorem F_call {f : FuncId} {fn : Func} {xs : List Operand} {ts : Array TypeId} {vs : List Value} {d : Nat} (hgd : o.guard = Option.none) (hd : o.dst = some d) (hn : Nat.ble (d + 1) n = true) (ho : o.op = .call { callee := .value (.func f), args := xs.toArray, argTypes := ts })
    (hf : P.funcs[f]? = some fn) (hname : (fn.name == "runtime.NumGoroutine") = false) (hb : fn.body.isSome = true) (hxs : evs F xs = some vs)
    (h : Calls P f vs.toArray w fun e w' => ∃ v, e = .returned v ∧ wpF P n ops Q rest ((d, v) :: F) w') : wpF P n ops Q (o :: rest) F w := by
  intro a ha
  refine wpList_plain hgd fun K hK => ?_
  have hbn : fn.body.isNone = false := by cases hb' : fn.body <;> simp_all
  have hargs : xs.toArray.map a.eval = vs.toArray := by simp [ha.evs hxs]
  have hrun : (execOp a.eval o).run P w = .ok (.enter f vs.toArray) w := by
    simp only [execOp, ho, resolve, Deferred.ofValue, invoke, Sem.run_bind, Sem.run_pure, Result.andThen_ok, hargs, Act.eval, callFunc, run_program, hf]
    simp [hname, hbn]
  unfold Oper.wp
  rw [hrun, Oper.upon_enter]
  refine h.mono ?_
  rintro e w' ⟨v, rfl, hk⟩
  rw [hd]
  exact hK _ _ (hk _ (ha.put v (Nat.le_of_ble_eq_true hn)))
/-- .. whose value nobody takes. -/
theorem F_call0 {f : FuncId} {fn : Func} {xs : List Operand} {ts : Array TypeId} {vs : List Value} (hgd : o.guard = Option.none) (hd : o.dst = Option.none) (ho : o.op = .call { callee := .value (.func f), args := xs.toArray, argTypes := ts })
    (hf : P.funcs[f]? = some fn) (hname : (fn.name == "runtime.NumGoroutine") = false) (hb : fn.body.isSome = true) (hxs : evs F xs = some vs)
    (h : Calls P f vs.toArray w fun e w' => ∃ v, e = .returned v ∧ wpF P n ops Q rest F w') : wpF P n ops Q (o :: rest) F w := by
  intro a ha
  refine wpList_plain hgd fun K hK => ?_
  have hbn : fn.body.isNone = false := by cases hb' : fn.body <;> simp_all
  have hargs : xs.toArray.map a.eval = vs.toArray := by simp [ha.evs hxs]
  have hrun : (execOp a.eval o).run P w = .ok (.enter f vs.toArray) w := by
    simp only [execOp, ho, resolve, Deferred.ofValue, invoke, Sem.run_bind, Sem.run_pure, Result.andThen_ok, hargs, Act.eval, callFunc, run_program, hf]
    simp [hname, hbn]
  unfold Oper.wp
  rw [hrun, Oper.upon_enter]
  refine h.mono ?_
  rintro e w' ⟨v, rfl, hk⟩
  rw [hd]
  exact hK _ _ (hk _ ha)
/-- .. guarded. -/
theorem F_gcall {f : FuncId} {fn : Func} {xs : List Operand} {ts : Array TypeId} {vs : List Value} {d : Nat} {g : Nat} {b : Bool} {dj : Nat} (hg : o.guard = some (g, b)) (hj : (ops[g]?).bind (·.dst) = some dj) (hv : look F dj = some (.bool b)) (hdj : Nat.ble (dj + 1) n = true) (hd : o.dst = some d) (hn : Nat.ble (d + 1) n = true) (ho : o.op = .call { callee := .value (.func f), args := xs.toArray, argTypes := ts })
    (hf : P.funcs[f]? = some fn) (hname : (fn.name == "runtime.NumGoroutine") = false) (hb : fn.body.isSome = true) (hxs : evs F xs = some vs)
    (h : Calls P f vs.toArray w fun e w' => ∃ v, e = .returned v ∧ wpF P n ops Q rest ((d, v) :: F) w') : wpF P n ops Q (o :: rest) F w := by
  intro a ha
  refine wpList_step fun K hK => ?_
  rw [wanted_of hg hj ha hv hdj]
  simp only [wantB, beq_self_eq_true, if_true]
  have hbn : fn.body.isNone = false := by cases hb' : fn.body <;> simp_all
  have hargs : xs.toArray.map a.eval = vs.toArray := by simp [ha.evs hxs]
  have hrun : (execOp a.eval o).run P w = .ok (.enter f vs.toArray) w := by
    simp only [execOp, ho, resolve, Deferred.ofValue, invoke, Sem.run_bind, Sem.run_pure, Result.andThen_ok, hargs, Act.eval, callFunc, run_program, hf]
    simp [hname, hbn]
  unfold Oper.wp
  rw [hrun, Oper.upon_enter]
  refine h.mono ?_
  rintro e w' ⟨v, rfl, hk⟩
  rw [hd]
  exact hK _ _ (hk _ (ha.put v (Nat.le_of_ble_eq_true hn)))

/-! ### Regions that draw and only read -/
def wpQ (P : Program) (n : Nat) (ops : Array Oper) (C : World → Prop) (Q : Act → Prop) (l : List Oper) (F : List (Nat × Value)) : Prop := ∀ a, Is n a F → wpQuiet P ops C Q l a

theorem L_quiet {id : Nat} {l : List Oper} (hm : P.follows .mixedOrders = true) (hB : Region.lexB .any l.toArray = true)
    (h : wpQ P n l.toArray (Chg NoB w) (fun a' => ∀ w', Chg NoB w w' → wpL P Q cs a' w') l F) : wpLF P n Q (.region id l.toArray true :: cs) F w := by
  intro a ha
  exact wp_region_quiet (C := Chg NoB w) hm hB ⟨rfl, rfl, rfl, Nat.le_refl _, fun _ _ _ => rfl⟩ (h a ha)

section
variable {C : World → Prop} {R : Act → Prop}
theorem Q_nil (h : ∀ w', Chg NoB w w' → wpLF P n Q cs F w') : wpQ P n ops C (fun a' => ∀ w', Chg NoB w w' → wpL P Q cs a' w') [] F := fun a ha w' hw => h w' hw a ha
theorem Q_val {d : Nat} {v : Value} (hg : o.guard = Option.none) (hd : o.dst = some d) (hn : Nat.ble (d + 1) n = true) (h : ∀ w, C w → OpVal P o F w v) (k : wpQ P n ops C R rest ((d, v) :: F)) : wpQ P n ops C R (o :: rest) F := by
  intro a ha
  refine wpQuiet_step fun K hK => ?_
  simp only [Region.wanted, hg, if_true]
  refine ⟨v, fun w hw => ?_, ?_⟩
  · unfold Oper.quietAt; rw [h w hw n a ha]; exact ⟨rfl, rfl⟩
  · rw [hd]; exact hK _ (k _ (ha.put v (Nat.le_of_ble_eq_true hn)))
theorem Q_gval {d : Nat} {v : Value} {g : Nat} {b : Bool} {dj : Nat} (hg : o.guard = some (g, b)) (hj : (ops[g]?).bind (·.dst) = some dj) (hv : look F dj = some (.bool b)) (hdj : Nat.ble (dj + 1) n = true) (hd : o.dst = some d) (hn : Nat.ble (d + 1) n = true) (h : ∀ w, C w → OpVal P o F w v) (k : wpQ P n ops C R rest ((d, v) :: F)) : wpQ P n ops C R (o :: rest) F := by
  intro a ha
  refine wpQuiet_step fun K hK => ?_
  rw [wanted_of hg hj ha hv hdj]
  simp only [wantB, beq_self_eq_true, if_true]
  refine ⟨v, fun w hw => ?_, ?_⟩
  · unfold Oper.quietAt; rw [h w hw n a ha]; exact ⟨rfl, rfl⟩
  · rw [hd]; exact hK _ (k _ (ha.put v (Nat.le_of_ble_eq_true hn)))
theorem Q_gskip {d : Nat} {u : Value} {g : Nat} {b : Bool} {dj : Nat} (hg : o.guard = some (g, b)) (hj : (ops[g]?).bind (·.dst) = some dj) (hv : look F dj = some u) (hdj : Nat.ble (dj + 1) n = true) (hu : wantB u b = false)
    (hd : o.dst = some d) (hn : Nat.ble (d + 1) n = true) (k : wpQ P n ops C R rest ((d, undef) :: F)) : wpQ P n ops C R (o :: rest) F := by
  intro a ha
  refine wpQuiet_step fun K hK => ?_
  rw [wanted_of hg hj ha hv hdj, hu]
  simp only [Bool.false_eq_true, if_false]
  rw [hd]
  exact hK _ (k _ (ha.put undef (Nat.le_of_ble_eq_true hn)))
theorem Q_call {f : FuncId} {fn : Func} {xs : List Operand} {ts : Array TypeId} {vs : List Value} {d : Nat} {v : Value} (hg : o.guard = Option.none) (hd : o.dst = some d) (hn : Nat.ble (d + 1) n = true) (ho : o.op = .call { callee := .value (.func f), args := xs.toArray, argTypes := ts })
    (hf : P.funcs[f]? = some fn) (hname : (fn.name == "runtime.NumGoroutine") = false) (hb : fn.body.isSome = true) (hxs : evs F xs = some vs)
    (h : ∀ w, C w → Calls P f vs.toArray w fun e w' => e = .returned v ∧ C w') (k : wpQ P n ops C R rest ((d, v) :: F)) : wpQ P n ops C R (o :: rest) F := by
  intro a ha
  refine wpQuiet_step fun K hK => ?_
  simp only [Region.wanted, hg, if_true]
  refine ⟨v, fun w hw => ?_, ?_⟩
  · have hbn : fn.body.isNone = false := by cases hb' : fn.body <;> simp_all
    have hargs : xs.toArray.map a.eval = vs.toArray := by simp [ha.evs hxs]
    have hrun : (execOp a.eval o).run P w = .ok (.enter f vs.toArray) w := by
      simp only [execOp, ho, resolve, Deferred.ofValue, invoke, Sem.run_bind, Sem.run_pure, Result.andThen_ok, hargs, Act.eval, callFunc, run_program, hf]
      simp [hname, hbn]
    unfold Oper.quietAt
    rw [hrun]
    exact ⟨rfl, h w hw⟩
  · rw [hd]; exact hK _ (k _ (ha.put v (Nat.le_of_ble_eq_true hn)))
theorem Q_gcall {f : FuncId} {fn : Func} {xs : List Operand} {ts : Array TypeId} {vs : List Value} {d : Nat} {v : Value} {g : Nat} {b : Bool} {dj : Nat} (hg : o.guard = some (g, b)) (hj : (ops[g]?).bind (·.dst) = some dj) (hv : look F dj = some (.bool b)) (hdj : Nat.ble (dj + 1) n = true) (hd : o.dst = some d) (hn : Nat.ble (d + 1) n = true) (ho : o.op = .call { callee := .value (.func f), args := xs.toArray, argTypes := ts })
    (hf : P.funcs[f]? = some fn) (hname : (fn.name == "runtime.NumGoroutine") = false) (hb : fn.body.isSome = true) (hxs : evs F xs = some vs)
    (h : ∀ w, C w → Calls P f vs.toArray w fun e w' => e = .returned v ∧ C w') (k : wpQ P n ops C R rest ((d, v) :: F)) : wpQ P n ops C R (o :: rest) F := by
  intro a ha
  refine wpQuiet_step fun K hK => ?_
  rw [wanted_of hg hj ha hv hdj]
  simp only [wantB, beq_self_eq_true, if_true]
  refine ⟨v, fun w hw => ?_, ?_⟩
  · have hbn : fn.body.isNone = false := by cases hb' : fn.body <;> simp_all
    have hargs : xs.toArray.map a.eval = vs.toArray := by simp [ha.evs hxs]
    have hrun : (execOp a.eval o).run P w = .ok (.enter f vs.toArray) w := by
      simp only [execOp, ho, resolve, Deferred.ofValue, invoke, Sem.run_bind, Sem.run_pure, Result.andThen_ok, hargs, Act.eval, callFunc, run_program, hf]
      simp [hname, hbn]
    unfold Oper.quietAt
    rw [hrun]
    exact ⟨rfl, h w hw⟩
  · rw [hd]; exact hK _ (k _ (ha.put v (Nat.le_of_ble_eq_true hn)))
end

/-! ### Regions that draw, and end in what turns memory -/
def wpS (P : Program) (n : Nat) (ops : Array Oper) (w : World) (Q : Act → Prop) (l : List Oper) (F : List (Nat × Value)) : Prop := ∀ a, Is n a F → wpStill P ops w Q l a

theorem L_tail {id : Nat} {l : List Oper} (m : Nat) (hm : P.follows .mixedOrders = true) (hB : Region.lexTailB .any l.toArray m = true)
    (h : ∀ w1, Chg NoB w w1 → wpS P n l.toArray w1 (fun a' => wpList P l.toArray (Exit.then (wpL P Q cs) Q) (l.drop m) a' w1) (l.take m) F) : wpLF P n Q (.region id l.toArray true :: cs) F w := by
  intro a ha
  exact wp_region_still_tail m hm hB (h w.drew ⟨rfl, rfl, rfl, Nat.le_refl _, fun _ _ _ => rfl⟩ a ha)
section
variable {R : Act → Prop}
theorem S_val {d : Nat} {v : Value} (hg : o.guard = Option.none) (hd : o.dst = some d) (hn : Nat.ble (d + 1) n = true) (h : OpVal P o F w v) (k : wpS P n ops w R rest ((d, v) :: F)) : wpS P n ops w R (o :: rest) F := by
  intro a ha
  refine wpStill_step fun K hK => ?_
  simp only [Region.wanted, hg, if_true]
  unfold Oper.still
  rw [h n a ha, Oper.stillUpon_value, hd]
  exact hK _ (k _ (ha.put v (Nat.le_of_ble_eq_true hn)))
theorem S_nil {Q' : Exit → Act → World → Prop} {l : List Oper} (h : wpF P n ops Q' l F w) : wpS P n ops w (fun a' => wpList P ops Q' l a' w) [] F := fun a ha => h a ha
end

/-! ### A function's begin and end -/
theorem calls_start {f : FuncId} {fn : Func} {c : Code} {vs : List Value} {R : Ending → World → Prop} (hf : P.funcs[f]? = some fn) (hb : fn.body = some c) (hn : Nat.ble vs.length fn.ntmps = true)
    (h : wpLF P fn.ntmps (bodyPost P fn R) [c] (startF 0 vs) w) : Calls P f vs.toArray w R := by
  refine calls_of_wp hf hb ?_
  have := h _ (Is.start vs fn.ntmps (Nat.le_of_ble_eq_true hn))
  simp only [wpL] at this
  refine wp_mono this ?_
  intro e a w h
  cases e <;> exact h

theorem post_ret0 {fn : Func} {R : Ending → World → Prop} {a : Act} (ha : Is n a F) (hr : fn.results = #[]) (h : R (.returned (.tuple #[])) w) : bodyPost P fn R .ret a w :=
  ⟨ha.d, _, results_none hr _ _ _, h⟩
theorem post_end0 {fn : Func} {R : Ending → World → Prop} {a : Act} (ha : Is n a F) (hr : fn.results = #[]) (h : R (.returned (.tuple #[])) w) : bodyPost P fn R .normal a w :=
  ⟨ha.d, _, results_none hr _ _ _, h⟩
theorem post_ret1 {fn : Func} {R : Ending → World → Prop} {a : Act} {t : Nat} {v : Value} (ha : Is n a F) (hr : fn.results = #[.tmp t]) (hv : look F t = some v) (h : R (.returned v) w) : bodyPost P fn R .ret a w :=
  ⟨ha.d, _, results_tmp hr _ _ _, by rw [ha.f t v hv]; exact h⟩
theorem post_ret2 {fn : Func} {R : Ending → World → Prop} {a : Act} {t u : Nat} {v v' : Value} (ha : Is n a F) (hr : fn.results = #[.tmp t, .tmp u]) (hv : look F t = some v) (hv' : look F u = some v') (h : R (.returned (.tuple #[v, v'])) w) : bodyPost P fn R .ret a w :=
  ⟨ha.d, _, results_tmp2 hr _ _ _, by rw [ha.f t v hv, ha.f u v' hv']; exact h⟩
theorem post_ret3 {fn : Func} {R : Ending → World → Prop} {a : Act} {t u s : Nat} {v v' v'' : Value} (ha : Is n a F) (hr : fn.results = #[.tmp t, .tmp u, .tmp s]) (hv : look F t = some v) (hv' : look F u = some v') (hv'' : look F s = some v'') (h : R (.returned (.tuple #[v, v', v''])) w) : bodyPost P fn R .ret a w :=
  ⟨ha.d, .tuple #[a.tmps.getD t undef, a.tmps.getD u undef, a.tmps.getD s undef], by simp [results, hr], by rw [ha.f t v hv, ha.f u v' hv', ha.f s v'' hv'']; exact h⟩
theorem post_ret4 {fn : Func} {R : Ending → World → Prop} {a : Act} {t u s r : Nat} {v v' v'' v3 : Value} (ha : Is n a F) (hr : fn.results = #[.tmp t, .tmp u, .tmp s, .tmp r]) (hv : look F t = some v) (hv' : look F u = some v') (hv'' : look F s = some v'') (hv3 : look F r = some v3) (h : R (.returned (.tuple #[v, v', v'', v3])) w) : bodyPost P fn R .ret a w :=
  ⟨ha.d, .tuple #[a.tmps.getD t undef, a.tmps.getD u undef, a.tmps.getD s undef, a.tmps.getD r undef], by simp [results, hr], by rw [ha.f t v hv, ha.f u v' hv', ha.f s v'' hv'', ha.f r v3 hv3]; exact h⟩

end
end Go.V
