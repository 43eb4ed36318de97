/- The typed layer: slices as lists; and the pure programs' words. -/
import Derived.Test.YtbegkkmngkpjmaaV7
set_option linter.unusedVariables false
set_option linter.unusedSimpArgs false
namespace Go.V
open Go

/-! ### The pure programs' words -/
/-- The most rounds. -/
def FU : Nat := 36893488147419103232
def gd {α : Type} (p : Prop) [Decidable p] (x : Option α) : Option α := if p then x else none
def bnd {α β : Type} (a : α) (f : α → β) : β := f a
theorem gd_pos {α : Type} {p : Prop} [Decidable p] (h : p) (x : Option α) : gd p x = x := if_pos h
theorem bnd_eq {α β : Type} (a : α) (f : α → β) : bnd a f = f a := rfl
theorem of_gd {α : Type} {p : Prop} [Decidable p] {x : Option α} {r : α} (h : gd p x = some r) : p ∧ x = some r := by
  unfold gd at h
  split at h
  · exact ⟨‹_›, h⟩
  · cases h
theorem of_bnd {α β : Type} {a : α} {f : α → Option β} {r : β} (h : bnd a f = some r) : ∃ x, a = x ∧ f x = some r := ⟨a, rfl, h⟩
theorem of_bind {α β : Type} {x : Option α} {f : α → Option β} {r : β} (h : x.bind f = some r) : ∃ y, x = some y ∧ f y = some r := Option.bind_eq_some_iff.1 h
theorem of_pos {α : Type} {p : Prop} [Decidable p] {x y : Option α} {r : α} (h : (if p then x else y) = some r) (c : p) : x = some r := (if_pos c).symm.trans h
theorem of_neg {α : Type} {p : Prop} [Decidable p] {x y : Option α} {r : α} (h : (if p then x else y) = some r) (c : ¬ p) : y = some r := (if_neg c).symm.trans h
def cpy {α : Type} (xs ys : List α) : List α := ys.take xs.length ++ xs.drop ys.length

section
variable {P : Program} {n : Nat} {Q : Exit → Act → World → Prop} {cs : List Code} {F : List (Nat × Value)} {w w0 : World} {S : Nat → Prop} {L : List Res}
  {ops : Array Oper} {rest : List Oper} {o : Oper} {α : Type} {E : El α} {xs ys : List α}

theorem Hp.own_cap (h : Hp S w0 w L) {i : Nat} {A : Option Addr} {cap : Nat} {C : List Value} {t : TypeId} {sz : Nat} (hi : nth L i = some (.own A cap C t sz)) : C.length ≤ cap * sz := by
  rcases h.ok _ (nth_mem hi) with ⟨_, _, e⟩ | ⟨g, D, _, _, hl, _⟩
  · subst e; exact Nat.zero_le _
  · rw [List.length_append] at hl; omega
theorem Hp.own_capE (h : Hp S w0 w L) {i : Nat} {A : Option Addr} {cap : Nat} {t : TypeId} (hi : nth L i = some (.own A cap (rowC E xs) t E.sz)) (h0 : 0 < E.sz) : xs.length ≤ cap := by
  have := h.own_cap hi
  rw [rowC_length] at this
  exact Nat.le_of_mul_le_mul_right this h0

/-- A nil slice of one's own. -/
theorem Hp.addNil (h : Hp S w0 w L) (t : TypeId) (sz : Nat) : Hp S w0 w (L ++ [.own none 0 [] t sz]) :=
  h.more (Chg.refl _ _) (.inl ⟨rfl, rfl, rfl⟩) (fun g hg => by simp [Res.foot] at hg) (fun _ _ h => by cases h)

theorem O_idxE {x y : Operand} {t e : TypeId} {A : Option Addr} {cap : Nat} {k : IntKind} {q : Int} {m : Nat} {C : List Value} (ho : o.op = .indexAddr t x y) (hx : ev F x = some (.slice A m cap)) (hy : ev F y = some (.int k q)) (ht : P.underlying t = some (.slice e)) (hs : (P.info? e).map (·.size) = some E.sz)
    (hC : Cells A C w) (hne : C ≠ []) (h0 : 0 ≤ q) (h1 : q < (m : Int)) : OpVal P o F w (.pointer (adr A (q.toNat * E.sz))) :=
  O_idx ho hx hy ht hs h0 h1 (hC.isA hne)

/-! ### x[lo:hi] -/
theorem O_toE {x y : Operand} {t e : TypeId} {A : Option Addr} {m cap sz : Nat} {k : IntKind} {h : Int} (zs : List α) (ho : o.op = .slice t x none (some y) none) (hx : ev F x = some (.slice A m cap)) (hy : ev F y = some (.int k h)) (ht : P.underlying t = some (.slice e)) (hs : (P.info? e).map (·.size) = some sz)
    (h0 : 0 ≤ h) (h1 : h ≤ (zs.length : Int)) (hc : zs.length ≤ cap) : OpVal P o F w (.slice A (zs.take h.toNat).length cap) := by
  have e : (zs.take h.toNat).length = h.toNat := by rw [List.length_take]; omega
  rw [e]
  exact O_sliceTo ho hx hy ht hs h0 (by omega)
theorem O_fromE {x y : Operand} {t e : TypeId} {A : Option Addr} {cap : Nat} {k : IntKind} {l : Int} (ho : o.op = .slice t x (some y) none none) (hx : ev F x = some (.slice A xs.length cap)) (hy : ev F y = some (.int k l)) (ht : P.underlying t = some (.slice e)) (hs : (P.info? e).map (·.size) = some E.sz)
    (h0 : 0 ≤ l) (h1 : l ≤ (xs.length : Int)) (hc : xs.length ≤ cap) (hC : Cells A (rowC E xs) w) : ∃ A', OpVal P o F w (.slice A' (xs.drop l.toNat).length (cap - l.toNat)) ∧ Sub A (rowC E xs) A' (rowC E (xs.drop l.toNat)) := by
  obtain ⟨A', h2, h3⟩ := O_sliceFrom ho hx hy ht hs h0 h1 (by rw [rowC_length]; exact Nat.mul_le_mul_right _ hc) hC
  exact ⟨A', by rw [List.length_drop]; exact h2, by rw [rowC_drop]; exact h3⟩
theorem O_midE {x y z : Operand} {t e : TypeId} {A : Option Addr} {m cap : Nat} {k k' : IntKind} {l h : Int} (ho : o.op = .slice t x (some y) (some z) none) (hx : ev F x = some (.slice A m cap)) (hy : ev F y = some (.int k l)) (hz : ev F z = some (.int k' h)) (ht : P.underlying t = some (.slice e)) (hs : (P.info? e).map (·.size) = some E.sz)
    (h0 : 0 ≤ l) (h1 : l ≤ h) (h2 : h ≤ (xs.length : Int)) (hc : xs.length ≤ cap) (hC : Cells A (rowC E xs) w) : ∃ A', OpVal P o F w (.slice A' ((xs.drop l.toNat).take (h.toNat - l.toNat)).length (cap - l.toNat)) ∧ Sub A (rowC E xs) A' (rowC E ((xs.drop l.toNat).take (h.toNat - l.toNat))) := by
  obtain ⟨A', h3, h4⟩ := O_sliceMid ho hx hy hz ht hs h0 h1 (by omega) hC
  have e : ((xs.drop l.toNat).take (h.toNat - l.toNat)).length = h.toNat - l.toNat := by rw [List.length_take, List.length_drop]; omega
  exact ⟨A', by rw [e]; exact h3, by rw [rowC_take, rowC_drop]; exact h4⟩

/-- The first elements. -/
theorem Sub.take {A : Option Addr} (k : Nat) (hA : rowC E (xs.take k) = [] ∨ ∃ b o, A = some ⟨b, o, none⟩) : Sub A (rowC E xs) A (rowC E (xs.take k)) := by
  rcases hA with h | ⟨b, off, rfl⟩
  · exact .inl h
  · refine .inr ⟨b, off, 0, rfl, rfl, fun j v hj => ?_⟩
    rw [rowC_take, List.getElem?_take] at hj
    split at hj
    · rw [Nat.zero_add]; exact hj
    · cases hj
theorem Cells.take {A : Option Addr} (h : Cells A (rowC E xs) w) (k : Nat) : Sub A (rowC E xs) A (rowC E (xs.take k)) := by
  refine Sub.take k ?_
  rcases h with h | ⟨b, off, e, _⟩
  · exact .inl (by rw [rowC_take, h, List.take_nil])
  · exact .inr ⟨b, off, e⟩
theorem Cells.pre {A : Option Addr} (h : Cells A (rowC E (xs ++ ys)) w) : Sub A (rowC E (xs ++ ys)) A (rowC E xs) := by
  have := h.take xs.length
  rwa [List.take_left] at this
theorem Cells.self {A : Option Addr} {C : List Value} (h : Cells A C w) : Sub A C A C := by
  refine Sub.refl A C ?_
  rcases h with h | ⟨b, off, e, _⟩
  · exact .inl h
  · exact .inr ⟨b, off, e⟩

/-! ### make, append, copy, stores -/
theorem F_makeE {x y : Operand} {t e : TypeId} {d : Nat} {c : Int} {k k' : IntKind} {z : Value} {bytes : Nat} (hgd : o.guard = none) (hd : o.dst = some d) (hn : Nat.ble (d + 1) n = true) (ho : o.op = .makeSlice t x y)
    (hx : ev F x = some (.int k c)) (hy : ev F y = some (.int k' c)) (ht : P.underlying t = some (.slice e)) (hi : (P.info? e).map (fun i => (i.zero, i.size, i.bytes)) = some (some z, E.sz, bytes)) (hz : z.cells.toList = E.enc E.def_) (hs : 0 < E.sz) (hb : 0 < bytes)
    (h0 : 0 ≤ c) (h2 : c * bytes ≤ 281474976710656) (HS : Hp S w0 w L) {zs : List α} (ez : List.replicate c.toNat E.def_ = zs)
    (K : ∀ w' A cap, Hp S w0 w' (L ++ [.own A cap (rowC E zs) e E.sz]) → wpF P n ops Q rest ((d, .slice A zs.length cap) :: F) w') : wpF P n ops Q (o :: rest) F w := by
  subst ez
  refine F_make (E := E) hgd hd hn ho hx hy ht hi hz hs hb h0 (Int.le_refl _) h2 HS fun w' g h => ?_
  have := K w' _ _ h
  rwa [List.length_replicate] at this

theorem nth_last (L : List Res) (x : Res) : nth (L ++ [x]) L.length = some x := by rw [nth_eq]; simp
/-- What stands last in a row of one's own may be forgotten. -/
theorem Hp.own_cut (h : Hp S w0 w L) {i : Nat} {A : Option Addr} {cap : Nat} {C C' : List Value} {t : TypeId} {sz : Nat} (hi : nth L i = some (.own A cap (C ++ C') t sz)) : Hp S w0 w (upd L i (.own A cap C t sz)) := by
  refine h.turn hi (Chg.refl _ _) ?_ (fun g hg => .inl ?_) (fun B I e => by cases e)
  rotate_left
  · cases A <;> exact hg
  have := h.ok _ (nth_mem hi)
  simp only [Res.holds] at this ⊢
  rcases this with ⟨rfl, rfl, hc⟩ | ⟨g, D, rfl, h1, h2⟩
  · exact .inl ⟨rfl, rfl, (List.append_eq_nil_iff.1 hc).1⟩
  · exact .inr ⟨g, C' ++ D, rfl, by rw [← List.append_assoc]; exact h1, by rw [← List.append_assoc]; exact h2⟩
theorem F_makeCE {x y : Operand} {t e : TypeId} {d : Nat} {m c : Int} {k k' : IntKind} {z : Value} {bytes : Nat} (hgd : o.guard = none) (hd : o.dst = some d) (hn : Nat.ble (d + 1) n = true) (ho : o.op = .makeSlice t x y)
    (hx : ev F x = some (.int k m)) (hy : ev F y = some (.int k' c)) (ht : P.underlying t = some (.slice e)) (hi : (P.info? e).map (fun i => (i.zero, i.size, i.bytes)) = some (some z, E.sz, bytes)) (hz : z.cells.toList = E.enc E.def_) (hs : 0 < E.sz) (hb : 0 < bytes)
    (h0 : 0 ≤ m) (h1 : m ≤ c) (h2 : c * bytes ≤ 281474976710656) (HS : Hp S w0 w L) {zs : List α} (ez : List.replicate m.toNat E.def_ = zs)
    (K : ∀ w' A cap, Hp S w0 w' (L ++ [.own A cap (rowC E zs) e E.sz]) → wpF P n ops Q rest ((d, .slice A zs.length cap) :: F) w') : wpF P n ops Q (o :: rest) F w := by
  subst ez
  refine F_make (E := E) hgd hd hn ho hx hy ht hi hz hs hb h0 h1 h2 HS fun w' g h => ?_
  have e1 : rowC E (List.replicate c.toNat E.def_) = rowC E (List.replicate m.toNat E.def_) ++ rowC E (List.replicate (c.toNat - m.toNat) E.def_) := by
    have e2 : m.toNat + (c.toNat - m.toNat) = c.toNat := by omega
    rw [← rowC_append, List.replicate_append_replicate, e2]
  rw [e1] at h
  have h3 := h.own_cut (i := L.length) (nth_last L _)
  have e3 : ∀ x y : Res, upd (L ++ [x]) L.length y = L ++ [y] := fun x y => by rw [upd_eq, List.set_append_right _ _ (Nat.le_refl _), Nat.sub_self]; rfl
  rw [e3] at h3
  have := K w' _ _ h3
  rwa [List.length_replicate] at this

theorem F_appE {x y : Operand} {t te : TypeId} {d i c2 cap bytes : Nat} {A B : Option Addr} {z : Value} (hgd : o.guard = none) (hd : o.dst = some d) (hn : Nat.ble (d + 1) n = true)
    (ho : o.op = .call { callee := .builtin .append, args := #[x, y], argTypes := #[t, t] }) (ht : P.underlying t = some (.slice te)) (hinf : (P.info? te).map (fun i => (i.zero, i.size, i.bytes)) = some (some z, E.sz, bytes)) (hz : z.cells.toList = E.enc E.def_) (h0 : 0 < E.sz) (hb : 0 < bytes)
    (hx : ev F x = some (.slice A xs.length cap)) (hy : ev F y = some (.slice B ys.length c2)) (HS : Hp S w0 w L) (hi : nth L i = some (.own A cap (rowC E xs) te E.sz)) (hnews : Cells B (rowC E ys) w) {zs : List α} (ez : xs ++ ys = zs) (hbytes : (zs.length : Int) * bytes ≤ 140737488355328)
    (K : ∀ w' A' cap', Hp S w0 w' (upd L i (.own A' cap' (rowC E zs) te E.sz)) → wpF P n ops Q rest ((d, .slice A' zs.length cap') :: F) w') : wpF P n ops Q (o :: rest) F w := by
  subst ez
  have hzs : z.cells.size = E.sz := by have := congrArg List.length hz; rw [E.len] at this; simpa using this
  refine F_append hgd hd hn ho ht hinf hzs h0 hb hx hy HS hi (Nat.le_of_eq rowC_length.symm) hnews rowC_length (fun u hu => ?_) ?_ fun w' A' cap' h => ?_
  · obtain ⟨x, _, hx⟩ := List.mem_flatMap.1 hu
    exact E.one x u hx
  · have : (((xs.length + ys.length) * bytes : Nat) : Int) ≤ 140737488355328 := by simpa using hbytes
    omega
  · have e : (rowC E xs).take (xs.length * E.sz) ++ rowC E ys = rowC E (xs ++ ys) := by rw [← rowC_take, List.take_length, rowC_append]
    rw [e] at h
    have := K w' A' cap' h
    rwa [List.length_append] at this

theorem rowC_one {u : Value} (hu : u ∈ rowC E xs) : u.oneCell' = true := by
  obtain ⟨x, _, hx⟩ := List.mem_flatMap.1 hu
  exact E.one x u hx

theorem cpy_row : ovl (rowC E xs) 0 ((rowC E ys).take (min ys.length xs.length * E.sz)) = rowC E (cpy xs ys) := by
  rw [ovl, cpy, rowC_append, rowC_take, rowC_drop]
  have h1 : (rowC E ys).take (min ys.length xs.length * E.sz) = (rowC E ys).take (xs.length * E.sz) := by
    rcases Nat.le_total ys.length xs.length with h | h
    · rw [Nat.min_eq_left h, List.take_of_length_le (by rw [rowC_length]; exact Nat.le_refl _), List.take_of_length_le (by rw [rowC_length]; exact Nat.mul_le_mul_right _ h)]
    · rw [Nat.min_eq_right h]
  rw [h1]
  simp only [List.take_zero, List.nil_append, Nat.zero_add, List.length_take, rowC_length]
  congr 1
  rcases Nat.le_total ys.length xs.length with h | h
  · rw [Nat.min_eq_right (Nat.mul_le_mul_right _ h)]
  · rw [Nat.min_eq_left (Nat.mul_le_mul_right _ h), List.drop_of_length_le (by rw [rowC_length]; exact Nat.le_refl _), List.drop_of_length_le (by rw [rowC_length]; exact Nat.mul_le_mul_right _ h)]

theorem F_copyE {x y : Operand} {t te : TypeId} {d i c2 cap : Nat} {A B : Option Addr} (hgd : o.guard = none) (hd : o.dst = some d) (hn : Nat.ble (d + 1) n = true)
    (ho : o.op = .call { callee := .builtin .copy, args := #[x, y], argTypes := #[t, t] }) (ht : P.underlying t = some (.slice te)) (hs : (P.info? te).map (·.size) = some E.sz)
    (hx : ev F x = some (.slice A xs.length cap)) (hy : ev F y = some (.slice B ys.length c2)) (HS : Hp S w0 w L) (hi : nth L i = some (.own A cap (rowC E xs) te E.sz)) (hD : Cells B (rowC E ys) w) {zs : List α} (ez : cpy xs ys = zs)
    (K : ∀ w', Hp S w0 w' (upd L i (.own A cap (rowC E zs) te E.sz)) → wpF P n ops Q rest ((d, .int .i64 (min ys.length xs.length : Nat)) :: F) w') : wpF P n ops Q (o :: rest) F w := by
  subst ez
  refine F_copy hgd hd hn ho ht hs hx hy HS hi (Nat.le_of_eq rowC_length.symm) hD rowC_length (fun u hu => rowC_one hu) fun w' h => ?_
  rw [cpy_row] at h
  exact K w' h
theorem F_copyE0 {x y : Operand} {t te : TypeId} {i c2 cap : Nat} {A B : Option Addr} (hgd : o.guard = none) (hd : o.dst = none)
    (ho : o.op = .call { callee := .builtin .copy, args := #[x, y], argTypes := #[t, t] }) (ht : P.underlying t = some (.slice te)) (hs : (P.info? te).map (·.size) = some E.sz)
    (hx : ev F x = some (.slice A xs.length cap)) (hy : ev F y = some (.slice B ys.length c2)) (HS : Hp S w0 w L) (hi : nth L i = some (.own A cap (rowC E xs) te E.sz)) (hD : Cells B (rowC E ys) w) {zs : List α} (ez : cpy xs ys = zs)
    (K : ∀ w', Hp S w0 w' (upd L i (.own A cap (rowC E zs) te E.sz)) → wpF P n ops Q rest F w') : wpF P n ops Q (o :: rest) F w := by
  subst ez
  refine F_copy0 hgd hd ho ht hs hx hy HS hi (Nat.le_of_eq rowC_length.symm) hD rowC_length (fun u hu => rowC_one hu) fun w' h => ?_
  rw [cpy_row] at h
  exact K w' h

/-- xs[i] = v, whole elements. -/
theorem F_setE {x y : Operand} {t te : TypeId} {A : Option Addr} {i cap : Nat} {q : Int} {v : Value} {a : α} (hgd : o.guard = none) (hd : o.dst = none) (ho : o.op = .store t x y) (hx : ev F x = some (.pointer (adr A (q.toNat * E.sz)))) (hy : ev F y = some v) (hv : v.cells.toList = E.enc a)
    (hs : (P.info? t).map (·.size) = some E.sz) (HS : Hp S w0 w L) (hi : nth L i = some (.own A cap (rowC E xs) te E.sz)) (h0 : 0 < E.sz) (q0 : 0 ≤ q) (q1 : q < (xs.length : Int)) {zs : List α} (ez : xs.set q.toNat a = zs)
    (K : ∀ w', Hp S w0 w' (upd L i (.own A cap (rowC E zs) te E.sz)) → wpF P n ops Q rest F w') : wpF P n ops Q (o :: rest) F w := by
  subst ez
  have hvs : v.cells.size = E.sz := by have := congrArg List.length hv; rw [E.len] at this; simpa using this
  have hq : q.toNat < xs.length := by omega
  have hle : q.toNat * E.sz + E.sz ≤ xs.length * E.sz := by rw [← Nat.succ_mul]; exact Nat.mul_le_mul_right _ hq
  refine F_storeO hgd hd ho hx hy hs hvs (fun u hu => E.one a u (by rwa [← hv])) HS hi h0 (by rw [rowC_length]; exact hle) ?_ K
  rw [hv, ovl, E.len, rowC_set hq, Nat.add_mul, Nat.one_mul]
/-- One cell of an element. -/
theorem F_fldE {x y : Operand} {t te : TypeId} {A : Option Addr} {i cap j : Nat} {q : Int} {v : Value} {a : α} (hgd : o.guard = none) (hd : o.dst = none) (ho : o.op = .store t x y) (hx : ev F x = some (.pointer (adr A (q.toNat * E.sz + j)))) (hy : ev F y = some v) (hv : (E.enc (rdx E xs q)).set j v = E.enc a) (hj : j < E.sz) (hv1 : v.oneCell' = true)
    (hs : (P.info? t).map (·.size) = some 1) (HS : Hp S w0 w L) (hi : nth L i = some (.own A cap (rowC E xs) te E.sz)) (q0 : 0 ≤ q) (q1 : q < (xs.length : Int)) {zs : List α} (ez : xs.set q.toNat a = zs)
    (K : ∀ w', Hp S w0 w' (upd L i (.own A cap (rowC E zs) te E.sz)) → wpF P n ops Q rest F w') : wpF P n ops Q (o :: rest) F w := by
  subst ez
  have hq : q.toNat < xs.length := by omega
  have hle : q.toNat * E.sz + E.sz ≤ xs.length * E.sz := by rw [← Nat.succ_mul]; exact Nat.mul_le_mul_right _ hq
  have hvc : v.cells = #[v] := by cases v <;> first | rfl | simp [Value.oneCell'] at hv1
  refine F_storeO hgd hd ho hx hy hs (by rw [hvc]; rfl) (fun u hu => by rw [hvc] at hu; simp only [List.mem_singleton] at hu; subst hu; exact hv1) HS hi (by omega) (by rw [rowC_length]; omega) ?_ K
  rw [hvc, rowC_set hq, ← hv]
  have hlen : (rowC E xs).length = xs.length * E.sz := rowC_length
  have hmid : ((rowC E xs).drop (q.toNat * E.sz)).take E.sz = E.enc (rdx E xs q) := by
    apply List.ext_getElem?
    intro k
    rw [List.getElem?_take]
    split
    · rename_i hk
      rw [List.getElem?_drop]
      exact rowC_at (rdx_at (E := E) q0 q1) hk
    · rename_i hk
      rw [List.getElem?_eq_none (by rw [E.len]; omega)]
  rw [show (#[v] : Array Value).toList = [v] from rfl, ovl_one (by rw [hlen]; omega)]
  apply List.ext_getElem?
  intro k
  have hel : (E.enc (rdx E xs q)).length = E.sz := E.len _
  have htk : ((rowC E xs).take (q.toNat * E.sz)).length = q.toNat * E.sz := by rw [List.length_take, hlen]; omega
  rw [List.getElem?_set]
  by_cases hk1 : k < q.toNat * E.sz
  · rw [if_neg (by omega), List.append_assoc, List.getElem?_append_left (by rw [htk]; exact hk1), List.getElem?_take, if_pos hk1]
  · by_cases hk2 : k < q.toNat * E.sz + E.sz
    · rw [List.append_assoc, List.getElem?_append_right (by rw [htk]; omega), htk, List.getElem?_append_left (by rw [List.length_set, hel]; omega), List.getElem?_set, hel]
      by_cases hkj : q.toNat * E.sz + j = k
      · rw [if_pos hkj, if_pos (by rw [hlen]; omega), if_pos (by omega), if_pos hj]
      · rw [if_neg hkj, if_neg (by omega), ← hmid, List.getElem?_take, if_pos (by omega), List.getElem?_drop]
        congr 1; omega
    · rw [if_neg (by omega), List.getElem?_append_right (by rw [List.length_append, htk, List.length_set, hel]; omega), List.length_append, htk, List.length_set, hel, List.getElem?_drop, Nat.add_mul, Nat.one_mul]
      congr 1; omega

/-! ### Code's ends -/
def offB (id : Nat) : Exit → Bool
  | .normal => false
  | .exit j => match Nat.beq j id with | true => false | false => true
  | _ => true
theorem L_blk {id : Nat} {c : Code}
    (h : ∀ Q' : Exit → Act → World → Prop, (∀ a w, wpL P Q cs a w → Q' .normal a w) → (∀ a w, wpL P Q cs a w → Q' (.exit id) a w) →
      (∀ e a w, offB id e = true → Q e a w → Q' e a w) → wpLF P n Q' [c] F w) : wpLF P n Q (.block id c :: cs) F w :=
  L_block fun Q' h1 h2 h3 => h Q' h1 h2 fun e a w he => h3 e a w (by intro h; subst h; cases he) (by
    intro h; subst h
    simp [offB] at he)
def onB : Exit → Bool
  | .normal => false
  | _ => true
theorem L_join {c : Code} (R : Act → World → Prop)
    (h1 : ∀ Q' : Exit → Act → World → Prop, (∀ a w, R a w → Q' .normal a w) → (∀ e a w, onB e = true → Q e a w → Q' e a w) → wpLF P n Q' [c] F w)
    (h2 : ∀ a w, R a w → wpL P Q cs a w) : wpLF P n Q (c :: cs) F w :=
  L_cut R (fun Q' a b => h1 Q' a fun e a w he => b e a w (by intro h; subst h; cases he)) h2
theorem L_lp {c : Code} (I : Nat → Act → World → Prop) (k : Nat) (h0 : ∀ a, Is n a F → I k a w)
    (round : ∀ k a w, I k a w → ∀ Q' : Exit → Act → World → Prop, (∀ j a w, j < k → I j a w → Q' .normal a w) → (∀ e a w, onB e = true → Q e a w → Q' e a w) → wpL P Q' [c] a w) :
    wpLF P n Q (.loop c :: cs) F w :=
  L_loop I k h0 fun k a w h Q' a' b => round k a w h Q' a' fun e a w he => b e a w (by intro h; subst h; cases he)
theorem L_endB {Q' : Exit → Act → World → Prop} (hN : ∀ a w, wpL P Q cs a w → Q' .normal a w) (h : wpLF P n Q cs F w) : wpLF P n Q' [] F w := fun a ha => hN a w (h a ha)
theorem L_exitB {Q' : Exit → Act → World → Prop} {id : Nat} {cs' : List Code} (hX : ∀ a w, wpL P Q cs a w → Q' (.exit id) a w) (h : wpLF P n Q cs F w) : wpLF P n Q' (.exit id :: cs') F w := fun a ha => wp_exit (hX a w (h a ha))
theorem L_exitR {Q' : Exit → Act → World → Prop} {id : Nat} {cs' : List Code} (h : ∀ a, Is n a F → Q' (.exit id) a w) : wpLF P n Q' (.exit id :: cs') F w := fun a ha => wp_exit (h a ha)
theorem wpLF_app {a : Act} (h : wpLF P n Q cs F w) (ha : Is n a F) : wpL P Q cs a w := h a ha
def onR {R T U : Type} (y : Sum R T) (ret : R → Option U) (k : T → Option U) : Option U := match y with | .inl r => ret r | .inr s => k s
theorem onR_inl {R T U : Type} (r : R) (ret : R → Option U) (k : T → Option U) : onR (.inl r) ret k = ret r := rfl
theorem onR_inr {R T U : Type} (s : T) (ret : R → Option U) (k : T → Option U) : onR (.inr s) ret k = k s := rfl

/-- What a slot holds is known by another name. -/
theorem F_know {i : Nat} {v v' : Value} {l : List Oper} (hv : look F i = some v) (e : v = v') (k : wpF P n ops Q l ((i, v') :: F) w) : wpF P n ops Q l F w :=
  fun a ha => k a (Is.know ha hv e)
theorem Q_know {i : Nat} {v v' : Value} {l : List Oper} {C : World → Prop} {R : Act → Prop} (hv : look F i = some v) (e : v = v') (k : wpQ P n ops C R l ((i, v') :: F)) : wpQ P n ops C R l F :=
  fun a ha => k a (Is.know ha hv e)
theorem S_know {i : Nat} {v v' : Value} {l : List Oper} {R : Act → Prop} (hv : look F i = some v) (e : v = v') (k : wpS P n ops w R l ((i, v') :: F)) : wpS P n ops w R l F :=
  fun a ha => k a (Is.know ha hv e)

/-- Some operations of a region, that end in one frame whatever the way. -/
theorem F_grp {l : List Oper} (k : Nat) (F' : List (Nat × Value)) (h1 : wpF P n ops (cutQ (fun a w' => w' = w ∧ Is n a F') Q) (l.take k) F w) (h2 : wpF P n ops Q (l.drop k) F' w) : wpF P n ops Q l F w := by
  intro a ha
  have := h1 a ha
  have key : ∀ (l l2 : List Oper) (a : Act) (w1 : World), wpList P ops (cutQ (fun a w' => w' = w ∧ Is n a F') Q) l a w1 → (∀ a, Is n a F' → wpList P ops Q l2 a w) → wpList P ops Q (l ++ l2) a w1 := by
    intro l l2
    have hup : ∀ (o : Oper) (a : Act) (K : Act → World → Prop) r, Oper.upon P o a K (cutQ (fun a w' => w' = w ∧ Is n a F') Q) r → Oper.upon P o a K Q r := by
      intro o a K r h
      cases r with
      | ok v w => cases v <;> exact h
      | halt x w => cases x <;> exact h
    induction l with
    | nil =>
      intro a w1 h h2
      obtain ⟨rfl, h3⟩ : w1 = w ∧ Is n a F' := h
      exact h2 a h3
    | cons o l ih =>
      intro a w1 h h2
      simp only [List.cons_append, wpList] at h ⊢
      split
      · rename_i hw
        rw [if_pos hw] at h
        rcases h with h | h
        · exact .inl (hup _ _ _ _ (Oper.wp_mono (fun a w h => ih a w h h2) h))
        · exact .inr h
      · rename_i hw
        rw [if_neg hw] at h
        exact ih _ _ h h2
  have := key _ (l.drop k) a w this h2
  rwa [List.take_append_drop] at this
theorem F_grpE {F' : List (Nat × Value)} (h : ∀ a, Is n a F → Is n a F') : wpF P n ops (cutQ (fun a w' => w' = w ∧ Is n a F') Q) [] F w := fun a ha => ⟨rfl, h a ha⟩

theorem Q_grp {l : List Oper} {C : World → Prop} {R : Act → Prop} (k : Nat) (F' : List (Nat × Value)) (h1 : wpQ P n ops C (fun a => Is n a F') (l.take k) F) (h2 : wpQ P n ops C R (l.drop k) F') : wpQ P n ops C R l F := by
  intro a ha
  have key : ∀ (l l2 : List Oper) (a : Act), wpQuiet P ops C (fun a => Is n a F') l a → (∀ a, Is n a F' → wpQuiet P ops C R l2 a) → wpQuiet P ops C R (l ++ l2) a := by
    intro l l2
    induction l with
    | nil => intro a h h2; exact h2 a h
    | cons o l ih =>
      intro a h h2
      simp only [List.cons_append, wpQuiet] at h ⊢
      split
      · rename_i hw
        rw [if_pos hw] at h
        exact Oper.quiet_mono (fun a h => ih a h h2) h
      · rename_i hw
        rw [if_neg hw] at h
        exact ih _ h h2
  have := key _ (l.drop k) a (h1 a ha) h2
  rwa [List.take_append_drop] at this
theorem Q_grpE {C : World → Prop} {F' : List (Nat × Value)} (h : ∀ a, Is n a F → Is n a F') : wpQ P n ops C (fun a => Is n a F') [] F := fun a ha => h a ha
theorem dec_and_t {p q : Prop} [Decidable p] [Decidable q] (c : p) : Value.bool (decide q) = Value.bool (decide (p ∧ q)) := by simp [c]
theorem dec_and_f {p q : Prop} [Decidable p] [Decidable q] (c : ¬ p) : Value.bool false = Value.bool (decide (p ∧ q)) := by simp [c]
theorem dec_or_t {p q : Prop} [Decidable p] [Decidable q] (c : p) : Value.bool true = Value.bool (decide (p ∨ q)) := by simp [c]
theorem dec_or_f {p q : Prop} [Decidable p] [Decidable q] (c : ¬ p) : Value.bool (decide q) = Value.bool (decide (p ∨ q)) := by simp [c]
theorem dec_t {p : Prop} [Decidable p] (c : p) : Value.bool (decide p) = Value.bool true := by simp [c]
theorem dec_f {p : Prop} [Decidable p] (c : ¬ p) : Value.bool (decide p) = Value.bool false := by simp [c]
end
attribute [irreducible] bnd
end Go.V
