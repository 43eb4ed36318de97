/- Operations on memory that only look. -/
import Derived.Test.YtbegkkmngkpjmaaV4
set_option linter.unusedVariables false
set_option linter.unusedSimpArgs false
namespace Go.V
open Go

/-- How an element lies in cells. -/
structure El (α : Type) where
  enc : α → List Value
  sz : Nat
  len : ∀ x, (enc x).length = sz
  def_ : α
  one : ∀ x, ∀ v ∈ enc x, v.oneCell' = true

def rowC {α : Type} (E : El α) (xs : List α) : List Value := xs.flatMap E.enc
def rdx {α : Type} (E : El α) (xs : List α) (i : Int) : α := xs.getD i.toNat E.def_

def Eint (k : IntKind) : El Int := ⟨fun x => [.int k x], 1, fun _ => rfl, 0, fun _ _ h => by simp only [List.mem_singleton] at h; subst h; rfl⟩
abbrev rd (xs : List Int) (i : Int) : Int := xs.getD i.toNat 0

section
variable {α : Type} {E : El α} {xs ys : List α}
theorem rowC_nil : rowC E [] = [] := rfl
theorem rowC_append : rowC E (xs ++ ys) = rowC E xs ++ rowC E ys := by simp [rowC]
theorem rowC_length : (rowC E xs).length = xs.length * E.sz := by
  induction xs with
  | nil => simp [rowC]
  | cons x xs ih =>
    rw [show x :: xs = [x] ++ xs by rfl, rowC_append, List.length_append, ih]
    simp [rowC, E.len, Nat.add_mul, Nat.add_comm]
theorem rowC_at {i j : Nat} {x : α} (h : xs[i]? = some x) (hj : j < E.sz) : (rowC E xs)[i * E.sz + j]? = (E.enc x)[j]? := by
  induction xs generalizing i with
  | nil => simp at h
  | cons y xs ih =>
    rw [show y :: xs = [y] ++ xs by rfl, rowC_append]
    cases i with
    | zero =>
      simp only [List.getElem?_cons_zero, Option.some.injEq] at h
      subst h
      rw [List.getElem?_append_left (by simp [rowC, E.len]; omega)]
      simp [rowC]
    | succ i =>
      simp only [List.getElem?_cons_succ] at h
      have : (rowC E [y]).length = E.sz := by simp [rowC, E.len]
      rw [List.getElem?_append_right (by rw [this, Nat.add_mul]; omega), this]
      rw [show (i + 1) * E.sz + j - E.sz = i * E.sz + j by rw [Nat.add_mul]; omega]
      exact ih h
theorem rowC_take (k : Nat) : rowC E (xs.take k) = (rowC E xs).take (k * E.sz) := by
  induction xs generalizing k with
  | nil => simp [rowC]
  | cons y xs ih =>
    cases k with
    | zero => simp [rowC]
    | succ k =>
      rw [show (y :: xs).take (k + 1) = [y] ++ xs.take k by rfl, rowC_append, ih, show y :: xs = [y] ++ xs by rfl, rowC_append]
      have : (rowC E [y]).length = E.sz := by simp [rowC, E.len]
      rw [List.take_append, this, show (k + 1) * E.sz - E.sz = k * E.sz by rw [Nat.add_mul]; omega]
      rw [List.take_of_length_le (l := rowC E [y]) (by rw [this, Nat.add_mul]; omega)]
theorem rowC_drop (k : Nat) : rowC E (xs.drop k) = (rowC E xs).drop (k * E.sz) := by
  induction xs generalizing k with
  | nil => simp [rowC]
  | cons y xs ih =>
    cases k with
    | zero => simp [rowC]
    | succ k =>
      rw [show (y :: xs).drop (k + 1) = xs.drop k by rfl, ih, show y :: xs = [y] ++ xs by rfl, rowC_append]
      have : (rowC E [y]).length = E.sz := by simp [rowC, E.len]
      rw [List.drop_append, this, show (k + 1) * E.sz - E.sz = k * E.sz by rw [Nat.add_mul]; omega]
      rw [List.drop_of_length_le (l := rowC E [y]) (by rw [this, Nat.add_mul]; omega), List.nil_append]
theorem rdx_at {i : Int} (h0 : 0 ≤ i) (h1 : i < (xs.length : Int)) : xs[i.toNat]? = some (rdx E xs i) := by
  have : i.toNat < xs.length := by omega
  simp [rdx, List.getElem?_eq_getElem this]
theorem rowC_set {i : Nat} {x : α} (hi : i < xs.length) : rowC E (xs.set i x) = (rowC E xs).take (i * E.sz) ++ E.enc x ++ (rowC E xs).drop ((i + 1) * E.sz) := by
  rw [← rowC_take, ← rowC_drop, List.set_eq_take_append_cons_drop, if_pos hi, rowC_append]
  simp [rowC]
end

/-- k cells behind an address. -/
def adr (A : Option Addr) (k : Nat) : Option Addr := A.map fun a => ⟨a.block, a.off + k, none⟩
theorem adr_some (b o k : Nat) : adr (some ⟨b, o, none⟩) k = some ⟨b, o + k, none⟩ := rfl
theorem addr_add (b o k : Nat) : (⟨b, o, none⟩ : Addr).add k = ⟨b, o + k, none⟩ := by unfold Addr.add; split <;> simp_all

section
variable {P : Program} {n : Nat} {F : List (Nat × Value)} {w : World} {o : Oper}

/-- A type of one cell. -/
def Flat (P : Program) (t : TypeId) : Prop := ∀ w, (isAgg t).run P w = .ok false w
theorem Flat.of {t : TypeId} {d : TypeDesc} (h : P.underlying t = some d) (hd : (match d with | .struct _ => false | .array _ _ => false | _ => true) = true) : Flat P t := by
  intro w
  unfold isAgg
  simp only [Sem.run_bind, run_underlying h, Result.andThen_ok]
  cases d <;> first | rfl | simp at hd
/-- A type of more cells. -/
def Wide (P : Program) (t : TypeId) (sz : Nat) : Prop := ∀ w, (isAgg t).run P w = .ok true w ∧ (sizeOf t).run P w = .ok sz w
theorem run_sizeOf {t : TypeId} {sz : Nat} (h : (P.info? t).map (·.size) = some sz) (w : World) : (sizeOf t).run P w = .ok sz w := by
  obtain ⟨i, hi, rfl⟩ := Option.map_eq_some_iff.1 h
  simp [sizeOf, typeInfo, hi]
theorem Wide.of {t : TypeId} {d : TypeDesc} {sz : Nat} (h : P.underlying t = some d) (hd : (match d with | .struct _ => true | .array _ _ => true | _ => false) = true) (hs : (P.info? t).map (·.size) = some sz) : Wide P t sz := by
  intro w
  refine ⟨?_, run_sizeOf hs w⟩
  unfold isAgg
  simp only [Sem.run_bind, run_underlying h, Result.andThen_ok]
  cases d <;> first | rfl | simp at hd

theorem run_load_flat {t : TypeId} (hT : Flat P t) {b k : Nat} {v : Value} (hc : w.cell? ⟨b, k, none⟩ = some v) : (Instr.loadAt t (.pointer (some ⟨b, k, none⟩))).run P w = .ok v w := by
  simp [Instr.loadAt, Instr.sureAddr, loadVar, hT w, hc]

theorem O_load {x : Operand} {t : TypeId} {b k : Nat} {v : Value} (ho : o.op = .load t x) (hx : ev F x = some (.pointer (some ⟨b, k, none⟩))) (hT : Flat P t) (hc : w.cell? ⟨b, k, none⟩ = some v) : OpVal P o F w v := fun n a ha => by
  simp [execOp, ho, ha.ev hx, run_load_flat hT hc]

/-- A cell out of what lies behind an address. -/
theorem O_loadC {x : Operand} {t : TypeId} {A : Option Addr} {C : List Value} {k : Nat} {v : Value} (ho : o.op = .load t x) (hx : ev F x = some (.pointer (adr A k))) (hT : Flat P t) (hC : Cells A C w) (hv : C[k]? = some v) : OpVal P o F w v := by
  rcases hC with h | ⟨b, off, rfl, hc⟩
  · subst h; simp at hv
  · exact O_load ho hx hT (hc k v hv)
/-- .. of a box. -/
theorem O_loadB {x : Operand} {t : TypeId} {g : Nat} {C : List Value} {k : Nat} {v : Value} (ho : o.op = .load t x) (hx : ev F x = some (.pointer (some ⟨g, k, none⟩))) (hT : Flat P t) (hC : Cells (some ⟨g, 0, none⟩) C w) (hv : C[k]? = some v) : OpVal P o F w v := by
  rcases hC with h | ⟨b, off, e, hc⟩
  · subst h; simp at hv
  · cases e
    have := hc k v hv
    rw [Nat.zero_add] at this
    exact O_load ho hx hT this

theorem run_loadCells {b k : Nat} : ∀ (m i : Nat) (acc : Array Value) (vs : List Value), vs.length = m → (∀ j v, vs[j]? = some v → w.cell? ⟨b, k + (i + j), none⟩ = some v) →
    (loadCellsFrom ⟨b, k, none⟩ i m acc).run P w = .ok (acc ++ vs.toArray) w
  | 0, i, acc, vs, hl, _ => by
    have : vs = [] := List.eq_nil_of_length_eq_zero hl
    subst this
    simp [loadCellsFrom]
  | m + 1, i, acc, vs, hl, h => by
    cases vs with
    | nil => simp at hl
    | cons v vs =>
      have h0 := h 0 v rfl
      have ih := run_loadCells m (i + 1) (acc.push v) vs (by simpa using hl) (fun j u hu => by
        have := h (j + 1) u (by simpa using hu)
        rw [show i + 1 + j = i + (j + 1) by omega]
        exact this)
      simp only [Nat.add_zero] at h0
      simp only [loadCellsFrom, Sem.run_bind, addr_add, run_load, h0, Result.andThen_ok, ih]
      simp

/-- A struct or an array out of what lies behind an address. -/
theorem O_loadW {x : Operand} {t : TypeId} {A : Option Addr} {C : List Value} {k sz : Nat} {vs : List Value} (ho : o.op = .load t x) (hx : ev F x = some (.pointer (adr A k))) (hT : Wide P t sz) (hC : Cells A C w) (hl : vs.length = sz) (h0 : vs ≠ []) (hv : ∀ j v, vs[j]? = some v → C[k + j]? = some v) : OpVal P o F w (.agg vs.toArray) := fun n a ha => by
  rcases hC with h | ⟨b, off, rfl, hc⟩
  · subst h
    cases vs with
    | nil => exact absurd rfl h0
    | cons v vs => simpa using hv 0 v rfl
  · have hr := run_loadCells (P := P) (w := w) (b := b) (k := off + k) sz 0 #[] vs hl (fun j v hj => by
      have := hc _ _ (hv j v hj)
      rw [Nat.zero_add, Nat.add_assoc]
      exact this)
    simp only [Array.empty_append] at hr
    rw [adr_some] at hx
    simp [execOp, ho, ha.ev hx, Instr.loadAt, Instr.sureAddr, loadVar, (hT w).1, (hT w).2, loadCells, hr]
theorem O_loadWB {x : Operand} {t : TypeId} {g : Nat} {C : List Value} {k sz : Nat} {vs : List Value} (ho : o.op = .load t x) (hx : ev F x = some (.pointer (some ⟨g, k, none⟩))) (hT : Wide P t sz) (hC : Cells (some ⟨g, 0, none⟩) C w) (hl : vs.length = sz) (h0 : vs ≠ []) (hv : ∀ j v, vs[j]? = some v → C[k + j]? = some v) : OpVal P o F w (.agg vs.toArray) :=
  O_loadW (A := some ⟨g, 0, none⟩) (k := k) ho (by rw [hx, adr_some, Nat.zero_add]) hT hC hl h0 hv

/-- The field of a struct's type. -/
def FieldAt (P : Program) (s : TypeId) (f : Nat) (off : Nat) : Prop := ∀ (w : World) (a : Addr), (Instr.fieldAt s (.pointer (some a)) f).run P w = .ok (.pointer (some (a.add off))) w

theorem O_fieldB {x : Operand} {s : TypeId} {f off : Nat} {g k : Nat} (ho : o.op = .fieldAddr s x f) (hx : ev F x = some (.pointer (some ⟨g, k, none⟩))) (hf : FieldAt P s f off) : OpVal P o F w (.pointer (some ⟨g, k + off, none⟩)) := fun n a ha => by
  simp [execOp, ho, ha.ev hx, hf w, addr_add]
theorem O_fieldC {x : Operand} {s : TypeId} {f off : Nat} {A : Option Addr} {k : Nat} (ho : o.op = .fieldAddr s x f) (hx : ev F x = some (.pointer (adr A k))) (hA : ∃ b o, A = some ⟨b, o, none⟩) (hf : FieldAt P s f off) : OpVal P o F w (.pointer (adr A (k + off))) := fun n a ha => by
  obtain ⟨b, o', rfl⟩ := hA
  rw [adr_some] at hx
  simp [execOp, ho, ha.ev hx, hf w, addr_add, adr_some, Nat.add_assoc]

/-- The address of an element of a slice. -/
theorem O_idx {x y : Operand} {t e : TypeId} {A : Option Addr} {m cap sz : Nat} {k : IntKind} {q : Int} (ho : o.op = .indexAddr t x y) (hx : ev F x = some (.slice A m cap)) (hy : ev F y = some (.int k q)) (ht : P.underlying t = some (.slice e)) (hs : (P.info? e).map (·.size) = some sz)
    (h0 : 0 ≤ q) (h1 : q < (m : Int)) (hA : ∃ b o, A = some ⟨b, o, none⟩) : OpVal P o F w (.pointer (adr A (q.toNat * sz))) := fun n a ha => by
  obtain ⟨b, off, rfl⟩ := hA
  simp [execOp, ho, ha.ev hx, ha.ev hy, Instr.indexAt, asIntOf, run_underlying ht, run_sizeOf hs, h0, h1, addr_add, adr_some]
/-- .. of an array behind a pointer. -/
theorem O_idxA {x y : Operand} {t e : TypeId} {g j m sz : Nat} {k : IntKind} {q : Int} (ho : o.op = .indexAddr t x y) (hx : ev F x = some (.pointer (some ⟨g, j, none⟩))) (hy : ev F y = some (.int k q)) (ht : P.underlying t = some (.array m e)) (hs : (P.info? e).map (·.size) = some sz)
    (h0 : 0 ≤ q) (h1 : q < (m : Int)) : OpVal P o F w (.pointer (some ⟨g, j + q.toNat * sz, none⟩)) := fun n a ha => by
  simp [execOp, ho, ha.ev hx, ha.ev hy, Instr.indexAt, Instr.sureAddr, asIntOf, run_underlying ht, run_sizeOf hs, h0, h1, addr_add]

theorem Cells.isA {A : Option Addr} {C : List Value} (h : Cells A C w) (hC : C ≠ []) : ∃ b o, A = some ⟨b, o, none⟩ := by
  rcases h with h | ⟨b, off, e, _⟩
  · exact absurd h hC
  · exact ⟨b, off, e⟩
theorem ne_of_at {C : List Value} {k : Nat} {v : Value} (h : C[k]? = some v) : C ≠ [] := by rintro rfl; simp at h
theorem rowC_ne {α : Type} {E : El α} {xs : List α} {i : Int} (h0 : 0 ≤ i) (h1 : i < (xs.length : Int)) (hs : 0 < E.sz) : rowC E xs ≠ [] := by
  intro h
  have := congrArg List.length h
  rw [rowC_length] at this
  simp only [List.length_nil, Nat.mul_eq_zero] at this
  omega

/-- An element's cell. -/
theorem rowC_cell {α : Type} {E : El α} {xs : List α} {i : Int} {j : Nat} {v : Value} (h0 : 0 ≤ i) (h1 : i < (xs.length : Int)) (hv : (E.enc (rdx E xs i))[j]? = some v) : (rowC E xs)[i.toNat * E.sz + j]? = some v := by
  have hj : j < E.sz := by rw [← E.len (rdx E xs i)]; exact (List.getElem?_eq_some_iff.1 hv).1
  rw [rowC_at (rdx_at (E := E) h0 h1) hj, hv]
theorem rowC_cell0 {α : Type} {E : El α} {xs : List α} {i : Int} {v : Value} (h0 : 0 ≤ i) (h1 : i < (xs.length : Int)) (hv : (E.enc (rdx E xs i))[0]? = some v) : (rowC E xs)[i.toNat * E.sz]? = some v := rowC_cell (j := 0) h0 h1 hv

/-- An element of a slice of numbers. -/
theorem int_cell {k : IntKind} {xs : List Int} {i : Int} (h0 : 0 ≤ i) (h1 : i < (xs.length : Int)) : (rowC (Eint k) xs)[i.toNat * 1]? = some (.int k (rd xs i)) := rowC_cell0 (E := Eint k) h0 h1 rfl

theorem O_len {x : Operand} {t : TypeId} {A : Option Addr} {m cap : Nat} (ho : o.op = .call { callee := .builtin .len, args := #[x], argTypes := #[t] }) (hx : ev F x = some (.slice A m cap)) {e : TypeId} (ht : P.underlying t = some (.slice e)) : OpVal P o F w (.int .i64 m) := fun n a ha => by
  simp [execOp, ho, resolve, invoke, builtin, ha.ev hx, Builtin.len_, run_underlying ht, goInt]
theorem O_min {x y : Operand} {t u : TypeId} {k : IntKind} {p q : Int} (ho : o.op = .call { callee := .builtin .min, args := #[x, y], argTypes := #[t, u] }) (hx : ev F x = some (.int k p)) (hy : ev F y = some (.int k q)) : OpVal P o F w (.int k (min p q)) := fun n a ha => by
  have : (if q < p then q else p) = min p q := by rw [Int.min_def]; split <;> split <;> omega
  simp [execOp, ho, resolve, invoke, builtin, ha.ev hx, ha.ev hy, Builtin.min_, Builtin.min2, this]
theorem O_max {x y : Operand} {t u : TypeId} {k : IntKind} {p q : Int} (ho : o.op = .call { callee := .builtin .max, args := #[x, y], argTypes := #[t, u] }) (hx : ev F x = some (.int k p)) (hy : ev F y = some (.int k q)) : OpVal P o F w (.int k (max p q)) := fun n a ha => by
  have : (if p < q then q else p) = max p q := by rw [Int.max_def]; split <;> split <;> omega
  simp [execOp, ho, resolve, invoke, builtin, ha.ev hx, ha.ev hy, Builtin.max_, Builtin.max2, this]
end
end Go.V
