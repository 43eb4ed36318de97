/- More of the typed layer. -/
import Derived.Test.YtbegkkmngkpjmaaV8
import Derived.Laws.StructEq
set_option linter.unusedVariables false
set_option linter.unusedSimpArgs false
namespace Go.V
open Go

theorem fieldPlace_run (P : Program) (w : World) (a : Addr) (f : Field) : True := trivial

section
variable {P : Program} {n : Nat} {Q : Exit → Act → World → Prop} {cs : List Code} {F : List (Nat × Value)} {w w0 : World} {S : Nat → Prop} {L : List Res}
  {ops : Array Oper} {rest : List Oper} {o : Oper} {α : Type} {E : El α} {xs ys : List α}

theorem oc {v : Value} (h : v.cells.toList.all (·.oneCell') = true) : ∀ u ∈ v.cells.toList, u.oneCell' = true := fun u hu => List.all_eq_true.1 h u hu

theorem take_le {k : Nat} {c : Nat} (h : xs.length ≤ c) : (xs.take k).length ≤ c := by rw [List.length_take]; omega

/-- A struct out of a box. -/
theorem O_loadWB' {x : Operand} {t : TypeId} {g : Nat} {C : List Value} {k sz : Nat} {vs : List Value} (ho : o.op = .load t x) (hx : ev F x = some (.pointer (some ⟨g, k, none⟩))) (hT : Wide P t sz) (hC : Cells (some ⟨g, 0, none⟩) C w) (hv : (C.drop k).take sz = vs) (hl : vs.length = sz) (h0 : vs ≠ []) : OpVal P o F w (.agg vs.toArray) := by
  refine O_loadWB ho hx hT hC hl h0 fun j v hj => ?_
  subst hv
  rw [List.getElem?_take] at hj
  split at hj
  · rwa [List.getElem?_drop] at hj
  · cases hj
/-- A whole element. -/
theorem O_loadEl {x : Operand} {t : TypeId} {A : Option Addr} {q : Int} (ho : o.op = .load t x) (hx : ev F x = some (.pointer (adr A (q.toNat * E.sz)))) (hT : Wide P t E.sz) (hC : Cells A (rowC E xs) w) (h0 : 0 ≤ q) (h1 : q < (xs.length : Int)) (hs : 0 < E.sz) : OpVal P o F w (.agg (E.enc (rdx E xs q)).toArray) := by
  refine O_loadW ho hx hT hC (E.len _) (fun h => ?_) fun j v hj => ?_
  · have := congrArg List.length h
    rw [E.len] at this
    simp at this
    omega
  · have hjs : j < E.sz := by rw [← E.len (rdx E xs q)]; exact (List.getElem?_eq_some_iff.1 hj).1
    rw [rowC_at (rdx_at (E := E) h0 h1) hjs, hj]

/-- A field of a struct that lies in a slot. -/
def FieldV (P : Program) (t : TypeId) (f off : Nat) : Prop := ∀ (w : World) (cs : Array Value) (v : Value), cs[off]? = some v → (Instr.field t (.agg cs) f).run P w = .ok v w
theorem O_fieldV {x : Operand} {t : TypeId} {f off : Nat} {cs : Array Value} {v : Value} (ho : o.op = .field t x f) (hx : ev F x = some (.agg cs)) (hf : FieldV P t f off) (hv : cs[off]? = some v) : OpVal P o F w v := fun n a ha => by
  simp [execOp, ho, ha.ev hx, hf w cs v hv]

/-- A struct made out of parts. -/
theorem O_build {t : TypeId} {parts : Array (Nat × Operand)} {vs : List (Nat × Value)} {v : Value} (ho : o.op = .build t parts) (hv : evs F (parts.toList.map (·.2)) = some (vs.map (·.2))) (hk : parts.toList.map (·.1) = vs.map (·.1)) (hr : ∀ w, (Instr.build t vs.toArray).run P w = .ok v w) : OpVal P o F w v := fun n a ha => by
  have h1 := ha.evs hv
  have h2 : (parts.map fun (i, x) => (i, a.eval x)) = vs.toArray := by
    apply Array.toList_inj.1
    simp only [Array.toList_map]
    have : ∀ (ps : List (Nat × Operand)) (vs : List (Nat × Value)), (ps.map (·.2)).map a.eval = vs.map (·.2) → ps.map (·.1) = vs.map (·.1) → ps.map (fun (i, x) => (i, a.eval x)) = vs := by
      intro ps
      induction ps with
      | nil => intro vs h _; cases vs <;> simp_all
      | cons p ps ih =>
        intro vs h h'
        cases vs with
        | nil => simp at h
        | cons v vs =>
          simp only [List.map_cons, List.cons.injEq] at h h' ⊢
          obtain ⟨p1, p2⟩ := p
          obtain ⟨v1, v2⟩ := v
          simp only at h h'
          exact ⟨by rw [h.1, h'.1], ih vs h.2 h'.2⟩
    exact this _ _ h1 hk
  simp only [execOp, ho, h2, Sem.run_bind, hr, Result.andThen_ok, Sem.run_pure]

/-! ### Stores into boxes, checked by reckoning -/
theorem F_stB {x y : Operand} {t te : TypeId} {g k sz : Nat} (i : Nat) (C' : List Value) {C : List Value} {v : Value} (hgd : o.guard = none) (hd : o.dst = none) (ho : o.op = .store t x y) (hx : ev F x = some (.pointer (some ⟨g, k, none⟩))) (hy : ev F y = some v)
    (hs : (P.info? t).map (·.size) = some sz) (HS : Hp S w0 w L) (hi : nth L i = some (.box g C te)) (hv : v.cells.size = sz) (h1 : v.cells.toList.all (·.oneCell') = true) (hk : Nat.ble (k + sz) C.length = true) (hC : ovl C k v.cells.toList = C')
    (K : ∀ w', Hp S w0 w' (upd L i (.box g C' te)) → wpF P n ops Q rest F w') : wpF P n ops Q (o :: rest) F w :=
  F_storeB hgd hd ho hx hy hs hv (oc h1) HS hi (Nat.le_of_ble_eq_true hk) hC K

theorem FieldV.of {t ft : TypeId} {f off : Nat} {fs : Array Field} (h : P.underlying t = some (.struct fs)) (hf : (fs[f]?).map (fun x => (x.type, x.offset)) = some (ft, off)) (hT : Flat P ft) : FieldV P t f off := by
  intro w cs v hv
  obtain ⟨x, hx, e⟩ := Option.map_eq_some_iff.1 hf
  simp only [Prod.mk.injEq] at e
  obtain ⟨rfl, rfl⟩ := e
  simp only [Instr.field, Sem.run_bind, run_underlying h, Result.andThen_ok, hx, asAgg, Sem.run_pure, part, hT w]
  simp [hv]

/-! ### Literals -/
/-- []T{..}. -/
theorem F_litE {t e : TypeId} {len : Nat} {parts : Array (Nat × Operand)} {d : Nat} (vs : List (Nat × Value)) (as : List α) (hgd : o.guard = none) (hd : o.dst = some d) (hn : Nat.ble (d + 1) n = true) (ho : o.op = .buildSlice t len parts)
    (hv : evs F (parts.toList.map (·.2)) = some (vs.map (·.2))) (hk : parts.toList.map (·.1) = vs.map (·.1)) (hl : as.length = len) (hl2 : len ≤ 1000000)
    (hr : ∀ w, (Instr.buildSlice t len vs.toArray).run P w = .ok (.slice (some ⟨w.heap.size, 0, none⟩) len len) (w.alloc (.cells (rowC E as).toArray e))) (HS : Hp S w0 w L)
    (K : ∀ w' A cap, Hp S w0 w' (L ++ [.own A cap (rowC E as) e E.sz]) → wpF P n ops Q rest ((d, .slice A as.length cap) :: F) w') : wpF P n ops Q (o :: rest) F w := by
  subst hl
  exact F_buildSlice (C := rowC E as) hgd hd hn ho hv hk rowC_length hl2 hr HS fun w' g h => K w' _ _ h

theorem cpy_length : (cpy xs ys).length = xs.length := by simp [cpy]; omega

/-! ### Lent besides -/
theorem Lent.nilrd {T : List Nat} {R : List Res} (hR : Lent L w T R) : Lent L w T (.rd none [] :: R) :=
  .cons (Cells.per (.inl rfl)) (fun b hb => by obtain ⟨h, _⟩ := hb; exact absurd rfl h) hR

theorem Hp.chg0 (h : Hp (feet []) w0 w L) : Chg NoB w0 w := h.chg.mono fun k _ hk => by simp [feet, feetL] at hk

def onO {β γ : Type} (y : Option β) (a : γ) (k : β → γ) : γ := match y with | none => a | some x => k x
theorem onO_none {β γ : Type} (a : γ) (k : β → γ) : onO none a k = a := rfl
theorem onO_some {β γ : Type} (x : β) (a : γ) (k : β → γ) : onO (some x) a k = k x := rfl
end

/-! ### Arrays in boxes -/
theorem arr_lt {α : Type} {xs : List α} {q : Int} {m : Nat} (h : xs.length = m) (h1 : q < (m : Int)) : q < (xs.length : Int) := by rw [h]; exact h1
theorem seg_cell {P C R : List Value} {j i : Nat} {v : Value} (hj : P.length = j) (h : C[i]? = some v) : (P ++ C ++ R)[j + i]? = some v := by
  subst hj
  have hi : i < C.length := (List.getElem?_eq_some_iff.1 h).1
  rw [List.append_assoc, List.getElem?_append_right (by omega), Nat.add_sub_cancel_left, List.getElem?_append_left hi]
  exact h
theorem at0 {C : List Value} {i : Nat} {v : Value} (h : C[i]? = some v) : C[0 + i]? = some v := by rw [Nat.zero_add]; exact h

/-! ### Structs held against each other -/
section
variable {P : Program} {n : Nat} {F : List (Nat × Value)} {w : World} {o : Oper} {x y : Operand} {xt yt : TypeId}
theorem eqF_nil {xs ys : Array Value} (w : World) : (Op.eqFields 9999 xs ys []).run P w = .ok (decide True) w := by simp [Op.eqFields]
theorem run_part {t : TypeId} {xs : Array Value} {off : Nat} {v : Value} (ht : (P.underlying t).any (fun | .struct _ => false | .array .. => false | _ => true) = true) (hv : xs[off]? = some v) (w : World) : (part t xs off).run P w = .ok v w := by
  cases hu : P.underlying t with
  | none => rw [hu] at ht; simp at ht
  | some d => rw [hu] at ht; cases d <;> simp at ht <;> simp [part, isAgg, run_underlying hu, hv]
theorem eqF_int {f : Field} {fs : List Field} {xs ys : Array Value} {k k' : IntKind} {a b : Int} {q : Prop} [Decidable q] (hn : (f.name == "_") = false) (hu : P.underlying f.type = some (.int k')) (ha : xs[f.offset]? = some (.int k a)) (hb : ys[f.offset]? = some (.int k b))
    (hr : ∀ w, (Op.eqFields 9999 xs ys fs).run P w = .ok (decide q) w) (w : World) : (Op.eqFields 9999 xs ys (f :: fs)).run P w = .ok (decide (a = b ∧ q)) w := by
  have hn' : f.name ≠ "_" := by simpa using hn
  have hA := run_part (P := P) (t := f.type) (by rw [hu]; rfl) ha
  have hB := run_part (P := P) (t := f.type) (by rw [hu]; rfl) hb
  rw [Op.eqFields]
  simp only [if_pos hn', Sem.run_bind, hA, hB, run_equalIn_int w 9998 f.type k k' a b hu, Result.andThen_ok]
  by_cases h : a = b
  · simp [h, hr]
  · simp [h]
theorem eqF_bool {f : Field} {fs : List Field} {xs ys : Array Value} {a b : Bool} {q : Prop} [Decidable q] (hn : (f.name == "_") = false) (hu : P.underlying f.type = some .bool) (ha : xs[f.offset]? = some (.bool a)) (hb : ys[f.offset]? = some (.bool b))
    (hr : ∀ w, (Op.eqFields 9999 xs ys fs).run P w = .ok (decide q) w) (w : World) : (Op.eqFields 9999 xs ys (f :: fs)).run P w = .ok (decide (a = b ∧ q)) w := by
  have hn' : f.name ≠ "_" := by simpa using hn
  have hA := run_part (P := P) (t := f.type) (by rw [hu]; rfl) ha
  have hB := run_part (P := P) (t := f.type) (by rw [hu]; rfl) hb
  rw [Op.eqFields]
  simp only [if_pos hn', Sem.run_bind, hA, hB, run_equalIn_bool' w 9998 f.type a b hu, Result.andThen_ok]
  by_cases h : a = b
  · simp [h, hr]
  · simp [h]
theorem eqF_int1 {f : Field} {xs ys : Array Value} {k k' : IntKind} {a b : Int} (hn : (f.name == "_") = false) (hu : P.underlying f.type = some (.int k')) (ha : xs[f.offset]? = some (.int k a)) (hb : ys[f.offset]? = some (.int k b)) (w : World) : (Op.eqFields 9999 xs ys [f]).run P w = .ok (decide (a = b)) w := by
  rw [eqF_int hn hu ha hb eqF_nil w]
  simp
theorem eqF_bool1 {f : Field} {xs ys : Array Value} {a b : Bool} (hn : (f.name == "_") = false) (hu : P.underlying f.type = some .bool) (ha : xs[f.offset]? = some (.bool a)) (hb : ys[f.offset]? = some (.bool b)) (w : World) : (Op.eqFields 9999 xs ys [f]).run P w = .ok (decide (a = b)) w := by
  rw [eqF_bool hn hu ha hb eqF_nil w]
  simp
theorem run_aguardE {xs ys : Array Value} (hg : P.eqGuardType P.depth xt = false) (w : World) : (eqGuard .eql xt x y (.agg xs) (.agg ys)).run P w = .ok () w := by
  simp [eqGuard, hg]
theorem run_aguardN {xs ys : Array Value} (hg : P.eqGuardType P.depth xt = false) (w : World) : (eqGuard .neq xt x y (.agg xs) (.agg ys)).run P w = .ok () w := by
  simp [eqGuard, hg]
theorem O_aeq {xs ys : Array Value} {fs : Array Field} {p : Prop} [Decidable p] (ho : o.op = .binOp .eql xt x y yt) (hx : ev F x = some (.agg xs)) (hy : ev F y = some (.agg ys)) (ht : P.underlying xt = some (.struct fs)) (hs : P.stoodInHeld xt = false) (hg : P.eqGuardType P.depth xt = false)
    (hF : ∀ w, (Op.eqFields 9999 xs ys fs.toList).run P w = .ok (decide p) w) : OpVal P o F w (.bool (decide p)) := by
  refine O_eqBy ho hx hy (run_aguardE hg) ?_
  have hf : P.fieldsOf xt = fs := by simp [Program.fieldsOf, ht]
  have h1 := fun w => run_equalIn_struct (P := P) w 9999 xt xs ys (by rw [hf]; exact ht) hs
  have h2 : ∀ w, (Op.equal xt (.agg xs) (.agg ys)).run P w = .ok (decide p) w := fun w => by
    have := h1 w
    rw [hf, hF] at this
    exact this
  simp only [binOp]
  simp [h2]
theorem O_ane {xs ys : Array Value} {fs : Array Field} {p : Prop} [Decidable p] (ho : o.op = .binOp .neq xt x y yt) (hx : ev F x = some (.agg xs)) (hy : ev F y = some (.agg ys)) (ht : P.underlying xt = some (.struct fs)) (hs : P.stoodInHeld xt = false) (hg : P.eqGuardType P.depth xt = false)
    (hF : ∀ w, (Op.eqFields 9999 xs ys fs.toList).run P w = .ok (decide p) w) : OpVal P o F w (.bool (decide (¬ p))) := by
  refine O_neBy ho hx hy (run_aguardN hg) ?_
  have hf : P.fieldsOf xt = fs := by simp [Program.fieldsOf, ht]
  have h1 := fun w => run_equalIn_struct (P := P) w 9999 xt xs ys (by rw [hf]; exact ht) hs
  have h2 : ∀ w, (Op.equal xt (.agg xs) (.agg ys)).run P w = .ok (decide p) w := fun w => by
    have := h1 w
    rw [hf, hF] at this
    exact this
  simp only [binOp]
  simp [h2]
end
end Go.V
