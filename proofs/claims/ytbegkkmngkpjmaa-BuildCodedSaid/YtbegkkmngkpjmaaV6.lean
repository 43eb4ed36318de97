/- Operations that turn memory; calls; regions that draw. -/
import Derived.Test.YtbegkkmngkpjmaaV5
import Derived.Maps.AppendAt
import Derived.StillTail
set_option linter.unusedVariables false
set_option linter.unusedSimpArgs false
namespace Go.V
open Go

section
variable {P : Program} {n : Nat} {Q : Exit → Act → World → Prop} {cs : List Code} {F : List (Nat × Value)} {w w0 : World} {S : Nat → Prop} {L : List Res}
  {ops : Array Oper} {rest : List Oper} {o : Oper}

theorem F_eff {d : Nat} {v : Value} {w' : World} (hg : o.guard = Option.none) (hd : o.dst = some d) (hn : Nat.ble (d + 1) n = true) (h : ∀ n a, Is n a F → (execOp a.eval o).run P w = .ok (.value v) w')
    (k : wpF P n ops Q rest ((d, v) :: F) w') : wpF P n ops Q (o :: rest) F w := by
  intro a ha
  refine wpList_plain hg fun K hK => ?_
  unfold Oper.wp
  rw [h n a ha, Oper.upon_value, hd]
  exact hK _ _ (k _ (ha.put v (Nat.le_of_ble_eq_true hn)))
theorem F_unit {w' : World} (hg : o.guard = Option.none) (hd : o.dst = Option.none) (h : ∀ n a, Is n a F → (execOp a.eval o).run P w = .ok .skip w')
    (k : wpF P n ops Q rest F w') : wpF P n ops Q (o :: rest) F w := by
  intro a ha
  refine wpList_plain hg fun K hK => ?_
  unfold Oper.wp
  rw [h n a ha, Oper.upon_skip, hd]
  exact hK _ _ (k _ (ha.none undef))

/-! ### Stores -/
def ovl (C : List Value) (k : Nat) (vs : List Value) : List Value := C.take k ++ vs ++ C.drop (k + vs.length)
theorem ovl_one {C : List Value} {k : Nat} {v : Value} (hk : k < C.length) : ovl C k [v] = C.set k v := by
  rw [ovl, List.set_eq_take_append_cons_drop, if_pos hk]; simp

theorem setRow_chg {g : Nat} {old new : Array Value} {t : TypeId} (hg : w.heap[g]? = some (.cells old t (0, 0))) : Chg (fun b => some g = some b) w (w.setRow g new) :=
  ⟨rfl, rfl, rfl, by simp, fun k hk hne => setRow_other w g k new (fun e => hne (by rw [e]))⟩

theorem run_store {t : TypeId} {v : Value} {sz g k : Nat} {cur : Array Value} {te : TypeId} (hs : (P.info? t).map (·.size) = some sz) (hv : v.cells.size = sz) (h1 : ∀ u ∈ v.cells.toList, u.oneCell' = true) (hg : w.heap[g]? = some (.cells cur te (0, 0))) (hk : k + sz ≤ cur.size) :
    (Instr.storeAt t (.pointer (some ⟨g, k, none⟩)) v).run P w = .ok () (w.setRow g (cur.toList.take k ++ v.cells.toList ++ cur.toList.drop (k + v.cells.toList.length)).toArray) := by
  have := run_storeCells_at P g k te v.cells.toList 0 cur w hg (by simp [hv]; omega) h1
  simp only [Nat.add_zero] at this
  simp [Instr.storeAt, Instr.sureAddr, storeVar, run_sizeOf hs, hv, this]

theorem ovl_app {C D : List Value} {k : Nat} {vs : List Value} (h : k + vs.length ≤ C.length) : (C ++ D).take k ++ vs ++ (C ++ D).drop (k + vs.length) = ovl C k vs ++ D := by
  rw [ovl, List.take_append_of_le_length (by omega), List.drop_append_of_le_length h]
  simp
theorem ovl_length {C : List Value} {k : Nat} {vs : List Value} (h : k + vs.length ≤ C.length) : (ovl C k vs).length = C.length := by
  simp [ovl]; omega

/-- Into a box. -/
theorem F_storeB {x y : Operand} {t te : TypeId} {g k i sz : Nat} {C C' : List Value} {v : Value} (hgd : o.guard = Option.none) (hd : o.dst = Option.none) (ho : o.op = .store t x y) (hx : ev F x = some (.pointer (some ⟨g, k, none⟩))) (hy : ev F y = some v)
    (hs : (P.info? t).map (·.size) = some sz) (hv : v.cells.size = sz) (h1 : ∀ u ∈ v.cells.toList, u.oneCell' = true) (HS : Hp S w0 w L) (hi : nth L i = some (.box g C te)) (hk : k + sz ≤ C.length) (hC : ovl C k v.cells.toList = C')
    (K : ∀ w', Hp S w0 w' (upd L i (.box g C' te)) → wpF P n ops Q rest F w') : wpF P n ops Q (o :: rest) F w := by
  have hg : w.heap[g]? = some (.cells C.toArray te (0, 0)) := HS.ok _ (nth_mem hi)
  have hl : k + v.cells.toList.length ≤ C.length := by simpa [hv] using hk
  refine F_unit hgd hd (w' := w.setRow g C'.toArray) (fun m a ha => ?_) (K _ ?_)
  · have := run_store (P := P) hs hv h1 hg (by simpa using hk)
    simp only [List.toList_toArray] at this
    have e : C.take k ++ v.cells.toList ++ C.drop (k + v.cells.toList.length) = C' := hC
    rw [e] at this
    simp [execOp, ho, ha.ev hx, ha.ev hy, this]
  · exact HS.turn hi (setRow_chg hg) (setRow_heap w g _ _ te (0, 0) hg) (fun b hb => .inl hb) (fun _ _ h => by cases h)

/-- Into a row of one's own. -/
theorem F_storeO {x y : Operand} {t te : TypeId} {A : Option Addr} {k i sz cap esz : Nat} {C C' : List Value} {v : Value} (hgd : o.guard = Option.none) (hd : o.dst = Option.none) (ho : o.op = .store t x y) (hx : ev F x = some (.pointer (adr A k))) (hy : ev F y = some v)
    (hs : (P.info? t).map (·.size) = some sz) (hv : v.cells.size = sz) (h1 : ∀ u ∈ v.cells.toList, u.oneCell' = true) (HS : Hp S w0 w L) (hi : nth L i = some (.own A cap C te esz)) (h0 : 0 < sz) (hk : k + sz ≤ C.length) (hC : ovl C k v.cells.toList = C')
    (K : ∀ w', Hp S w0 w' (upd L i (.own A cap C' te esz)) → wpF P n ops Q rest F w') : wpF P n ops Q (o :: rest) F w := by
  rcases HS.ok _ (nth_mem hi) with ⟨_, _, e⟩ | ⟨g, D, rfl, hg, hlen, hcap⟩
  · subst e; simp at hk; omega
  have hl : k + v.cells.toList.length ≤ C.length := by simpa [hv] using hk
  rw [adr_some, Nat.zero_add] at hx
  refine F_unit hgd hd (w' := w.setRow g (C' ++ D).toArray) (fun m a ha => ?_) (K _ ?_)
  · have := run_store (P := P) (k := k) hs hv h1 hg (by simp only [List.size_toArray, List.length_append]; omega)
    simp only [List.toList_toArray] at this
    rw [ovl_app hl, hC] at this
    simp [execOp, ho, ha.ev hx, ha.ev hy, this]
  · refine HS.turn hi (setRow_chg hg) (.inr ⟨g, D, rfl, setRow_heap w g _ _ te (0, 0) hg, ?_, hcap⟩) (fun b hb => .inl hb) (fun _ _ h => by cases h)
    rw [← hC]
    simpa [ovl_length hl] using hlen

/-! ### New blocks -/
theorem alloc_chg (ob : Obj) : Chg NoB w (w.alloc ob) := ⟨rfl, rfl, rfl, by simp, fun _ hk _ => heap_alloc_old w ob hk⟩

theorem F_box {x : Operand} {t : TypeId} {d : Nat} {v : Value} {C : List Value} (hgd : o.guard = Option.none) (hd : o.dst = some d) (hn : Nat.ble (d + 1) n = true) (ho : o.op = .box t x) (hx : ev F x = some v) (hC : v.cells.toList = C) (HS : Hp S w0 w L)
    (K : ∀ w' g, Hp S w0 w' (L ++ [.box g C t]) → wpF P n ops Q rest ((d, .pointer (some ⟨g, 0, none⟩)) :: F) w') : wpF P n ops Q (o :: rest) F w := by
  subst hC
  refine F_eff hgd hd hn (w' := w.alloc (.cells v.cells t)) (v := .pointer (some ⟨w.heap.size, 0, none⟩)) (fun m a ha => ?_) (K _ _ ?_)
  · simp [execOp, ho, ha.ev hx, Instr.box, newVar, newRow]
  · exact HS.more (alloc_chg _) (by simp only [Res.holds, Array.toArray_toList]; exact heap_alloc_new w _) (fun g hg => by simp only [Res.foot, Option.some.injEq] at hg; omega) (fun _ _ h => by cases h)

theorem F_alloc {t : TypeId} {d : Nat} {z : Value} {C : List Value} (hgd : o.guard = Option.none) (hd : o.dst = some d) (hn : Nat.ble (d + 1) n = true) (ho : o.op = .alloc t) (hz : (P.info? t).map (·.zero) = some (some z)) (hC : z.cells.toList = C) (HS : Hp S w0 w L)
    (K : ∀ w' g, Hp S w0 w' (L ++ [.box g C t]) → wpF P n ops Q rest ((d, .pointer (some ⟨g, 0, none⟩)) :: F) w') : wpF P n ops Q (o :: rest) F w := by
  subst hC
  obtain ⟨i, hi, hz⟩ := Option.map_eq_some_iff.1 hz
  refine F_eff hgd hd hn (w' := w.alloc (.cells z.cells t)) (v := .pointer (some ⟨w.heap.size, 0, none⟩)) (fun m a ha => ?_) (K _ _ ?_)
  · simp [execOp, ho, Instr.alloc, newVar, newRow, zeroValue, typeInfo, hi, hz]
  · exact HS.more (alloc_chg _) (by simp only [Res.holds, Array.toArray_toList]; exact heap_alloc_new w _) (fun g hg => by simp only [Res.foot, Option.some.injEq] at hg; omega) (fun _ _ h => by cases h)

theorem rowC_replicate {α : Type} (E : El α) (x : α) (m : Nat) (hs : 0 < E.sz) : rowC E (List.replicate m x) = (List.range (m * E.sz)).map fun i => (E.enc x).toArray[i % E.sz]! := by
  apply List.ext_getElem?
  intro j
  by_cases hj : j < m * E.sz
  · have h1 : j / E.sz < m := by rw [Nat.div_lt_iff_lt_mul hs]; exact hj
    have h2 : j % E.sz < E.sz := Nat.mod_lt _ hs
    have h3 : (List.replicate m x)[j / E.sz]? = some x := by simp [h1]
    have := rowC_at (E := E) h3 h2
    rw [Nat.div_add_mod'] at this
    rw [this]
    simp only [List.getElem?_map, List.getElem?_range hj, Option.map_some]
    have h4 : j % E.sz < (E.enc x).length := by rw [E.len]; exact h2
    simp [List.getElem?_eq_getElem h4, h4]
  · rw [List.getElem?_eq_none (by rw [rowC_length]; simp; omega), List.getElem?_eq_none (by simp; omega)]

/-- make([]T, m, c). -/
theorem F_make {α : Type} {E : El α} {x y : Operand} {t e : TypeId} {d : Nat} {m c : Int} {k k' : IntKind} {z : Value} {bytes : Nat} (hgd : o.guard = Option.none) (hd : o.dst = some d) (hn : Nat.ble (d + 1) n = true) (ho : o.op = .makeSlice t x y)
    (hx : ev F x = some (.int k m)) (hy : ev F y = some (.int k' c)) (ht : P.underlying t = some (.slice e)) (hi : (P.info? e).map (fun i => (i.zero, i.size, i.bytes)) = some (some z, E.sz, bytes)) (hz : z.cells.toList = E.enc E.def_) (hs : 0 < E.sz) (hb : 0 < bytes)
    (h0 : 0 ≤ m) (h1 : m ≤ c) (h2 : c * bytes ≤ 281474976710656) (HS : Hp S w0 w L)
    (K : ∀ w' g, Hp S w0 w' (L ++ [.own (some ⟨g, 0, none⟩) c.toNat (rowC E (List.replicate c.toNat E.def_)) e E.sz]) → wpF P n ops Q rest ((d, .slice (some ⟨g, 0, none⟩) m.toNat c.toNat) :: F) w') : wpF P n ops Q (o :: rest) F w := by
  obtain ⟨i, hi, hiz⟩ := Option.map_eq_some_iff.1 hi
  simp only [Prod.mk.injEq] at hiz
  obtain ⟨hz0, hz1, hz2⟩ := hiz
  have hc : c ≤ 281474976710656 := by
    have h3 : c * 1 ≤ c * bytes := Int.mul_le_mul_of_nonneg_left (by omega) (by omega)
    omega
  have wm : IntKind.i64.wrap m = m := wr_i64 (by omega)
  have wc : IntKind.i64.wrap c = c := wr_i64 (by omega)
  have big : ∀ q : Int, 0 ≤ q → q ≤ c → (q < 0 || decide ((bytes : Int) * q > 2 ^ 48)) = false := by
    intro q q0 qc
    have h3 : (bytes : Int) * q ≤ bytes * c := Int.mul_le_mul_of_nonneg_left qc (by omega)
    have h4 : (bytes : Int) * c = c * bytes := Int.mul_comm _ _
    simp
    omega
  refine F_eff hgd hd hn (w' := w.alloc (.cells (rowC E (List.replicate c.toNat E.def_)).toArray e)) (v := .slice (some ⟨w.heap.size, 0, none⟩) m.toNat c.toNat) (fun q a ha => ?_) (K _ _ ?_)
  · have hrow : (if c.toNat * E.sz = 0 then (#[] : Array Value) else z.cells) = z.cells ∨ c.toNat * E.sz = 0 := by by_cases h : c.toNat * E.sz = 0 <;> simp [h]
    have hzc : z.cells = (E.enc E.def_).toArray := by rw [← hz]
    have hsz : (E.enc E.def_).length = E.sz := E.len _
    simp only [execOp, ho, ha.ev hx, ha.ev hy, Instr.makeSlice, Sem.run_bind, run_underlying ht, Result.andThen_ok, asInt, asIntOf, Sem.run_pure, typeInfo, run_program, hi, hz1, hz2, wm, wc, big c (by omega) (Int.le_refl _)]
    have e1 : decide (m < 0) = false := by simp; omega
    have e2 : decide (m > c) = false := by simp; omega
    simp only [e1, e2, Bool.or_self, Bool.false_eq_true, if_false, run_askRoom, Result.andThen_ok, sizeOf, typeInfo, Sem.run_bind, run_program, hi, Sem.run_pure, hz1]
    by_cases hc0 : c.toNat * E.sz = 0
    · have : c.toNat = 0 := by
        rcases Nat.mul_eq_zero.1 hc0 with h | h
        · exact h
        · omega
      simp [this, newRow, rowC]
      congr 2
      apply Array.toList_inj.1
      simp
    · simp only [hc0, if_false, zeroValue, typeInfo, Sem.run_bind, run_program, hi, Sem.run_pure, Result.andThen_ok, hz0, newRow, run_newObj]
      rw [rowC_replicate E E.def_ c.toNat hs]
      simp only [hzc, List.size_toArray, hsz]
      simp
      congr 2
      apply Array.toList_inj.1
      simp
  · refine HS.more (alloc_chg _) (.inr ⟨w.heap.size, [], rfl, by simp only [List.append_nil]; exact heap_alloc_new w _, ?_, ?_⟩) (fun g hg => by simp only [Res.foot, Option.some.injEq] at hg; omega) (fun _ _ h => by cases h)
    · simp [rowC_length]
    · unfold maxLen; omega


/-- []T{v0, v1, ..}: what the literal's cells are is a closed fact. -/
theorem F_buildSlice {t e : TypeId} {len : Nat} {parts : Array (Nat × Operand)} {vs : List (Nat × Value)} {d : Nat} {C : List Value} {sz : Nat} (hgd : o.guard = Option.none) (hd : o.dst = some d) (hn : Nat.ble (d + 1) n = true) (ho : o.op = .buildSlice t len parts)
    (hv : evs F (parts.toList.map (·.2)) = some (vs.map (·.2))) (hk : parts.toList.map (·.1) = vs.map (·.1)) (hC : C.length = len * sz) (hl : len ≤ 1000000)
    (hr : ∀ w, (Instr.buildSlice t len vs.toArray).run P w = .ok (.slice (some ⟨w.heap.size, 0, none⟩) len len) (w.alloc (.cells C.toArray e))) (HS : Hp S w0 w L)
    (K : ∀ w' g, Hp S w0 w' (L ++ [.own (some ⟨g, 0, none⟩) len C e sz]) → wpF P n ops Q rest ((d, .slice (some ⟨g, 0, none⟩) len len) :: F) w') : wpF P n ops Q (o :: rest) F w := by
  refine F_eff hgd hd hn (w' := w.alloc (.cells C.toArray e)) (v := .slice (some ⟨w.heap.size, 0, none⟩) len len) (fun q a ha => ?_) (K _ _ ?_)
  · have h1 := ha.evs hv
    have h2 : (parts.map fun (i, x) => (i, a.eval x)) = vs.toArray := by
      apply Array.toList_inj.1
      simp only [Array.toList_map]
      have : ∀ (ps : List (Nat × Operand)) (vs : List (Nat × Value)), (ps.map (·.2)).map a.eval = vs.map (·.2) → ps.map (·.1) = vs.map (·.1) → ps.map (fun (i, x) => (i, a.eval x)) = vs := by
        intro ps
        induction ps with
        | nil => intro vs h _; cases vs <;> simp_all
        | cons p ps ih =>
          intro vs h h'
          cases vs with
          | nil => simp at h
          | cons v vs =>
            simp only [List.map_cons, List.cons.injEq] at h h' ⊢
            obtain ⟨p1, p2⟩ := p
            obtain ⟨v1, v2⟩ := v
            simp only at h h'
            exact ⟨by rw [h.1, h'.1], ih vs h.2 h'.2⟩
      exact this _ _ h1 hk
    simp only [execOp, ho, h2, Sem.run_bind, hr, Result.andThen_ok, Sem.run_pure]
  · refine HS.more (alloc_chg _) (.inr ⟨w.heap.size, [], rfl, by simp only [List.append_nil]; exact heap_alloc_new w _, by simpa using hC, by unfold maxLen; omega⟩) (fun g hg => by simp only [Res.foot, Option.some.injEq] at hg; omega) (fun _ _ h => by cases h)

/-! ### append, copy -/
/-- append(x, y...), x's row one's own. -/
theorem F_append {x y : Operand} {t te : TypeId} {d i m n2 c2 cap sz bytes : Nat} {A B : Option Addr} {C news : List Value} {z : Value} (hgd : o.guard = Option.none) (hd : o.dst = some d) (hn : Nat.ble (d + 1) n = true)
    (ho : o.op = .call { callee := .builtin .append, args := #[x, y], argTypes := #[t, t] }) (ht : P.underlying t = some (.slice te)) (hinf : (P.info? te).map (fun i => (i.zero, i.size, i.bytes)) = some (some z, sz, bytes)) (hz : z.cells.size = sz) (h0 : 0 < sz) (hb : 0 < bytes)
    (hx : ev F x = some (.slice A m cap)) (hy : ev F y = some (.slice B n2 c2)) (HS : Hp S w0 w L) (hi : nth L i = some (.own A cap C te sz)) (hm : m * sz ≤ C.length) (hnews : Cells B news w) (hl : news.length = n2 * sz) (h1 : ∀ u ∈ news, u.oneCell' = true) (hbytes : (m + n2) * bytes ≤ 140737488355328)
    (K : ∀ w' A' cap', Hp S w0 w' (upd L i (.own A' cap' (C.take (m * sz) ++ news) te sz)) → wpF P n ops Q rest ((d, .slice A' (m + n2) cap') :: F) w') : wpF P n ops Q (o :: rest) F w := by
  obtain ⟨inf, hinf, hiz⟩ := Option.map_eq_some_iff.1 hinf
  simp only [Prod.mk.injEq] at hiz
  obtain ⟨hz0, hz1, hz2⟩ := hiz
  have hmn : m + n2 ≤ 140737488355328 := Nat.le_trans (Nat.le_mul_of_pos_right _ hb) hbytes
  have hlenT : (C.take (m * sz)).length = m * sz := by simp; omega
  have hown : w.ownsRow 0 te sz (.slice A m cap) m (C.take (m * sz)) := by
    refine ⟨hlenT, ?_⟩
    rcases HS.ok _ (nth_mem hi) with ⟨rfl, rfl, e⟩ | ⟨g, D, rfl, hg, hlen, hcap⟩
    · subst e
      have : m = 0 := by
        simp only [List.length_nil, Nat.le_zero, Nat.mul_eq_zero] at hm
        omega
      subst this
      exact .inl ⟨rfl, rfl⟩
    · refine .inr ⟨g, cap, _, rfl, Nat.zero_le _, hg, ?_, hcap, by simpa using hlen, ?_⟩
      · rw [List.length_append] at hlen
        have : m * sz ≤ cap * sz := by omega
        exact Nat.le_of_mul_le_mul_right this h0
      · simp only [List.toList_toArray]
        rw [List.take_append_of_le_length hm]
  have main : ∃ A' cap' w', (∀ q a, Is q a F → (execOp a.eval o).run P w = .ok (.value (.slice A' (m + n2) cap')) w') ∧ w'.ownsRow 0 te sz (.slice A' (m + n2) cap') (m + n2) (C.take (m * sz) ++ news) ∧ w.grownBy w' (Value.ownBlock (.slice A m cap)) ∧
      ((Value.slice A' (m + n2) cap').ownBlock = (Value.slice A m cap).ownBlock ∨ (Value.slice A' (m + n2) cap').ownBlock = some w.heap.size) := by
    by_cases hn0 : n2 = 0
    · subst hn0
      have hnil : news = [] := List.eq_nil_of_length_eq_zero (by simpa using hl)
      subst hnil
      refine ⟨A, cap, w, fun q a ha => ?_, by simpa using hown, ⟨rfl, rfl, rfl, Nat.le_refl _, fun _ _ _ => rfl⟩, .inl rfl⟩
      have hmc : m ≤ cap := by
        rcases hown.2 with ⟨e, rfl⟩ | ⟨g, cap', cur, e, _, _, h, _⟩
        · exact Nat.zero_le _
        · simp only [Value.slice.injEq] at e; omega
      cases A with
      | none => cases B <;> simp [execOp, ho, resolve, invoke, builtin, ha.ev hx, ha.ev hy, Builtin.append_, run_underlying ht, sizeOf, typeInfo, hinf, Builtin.lenOf, hmc, Builtin.firstCells, loadCells, loadCellsFrom]
      | some ad => cases B <;> simp [execOp, ho, resolve, invoke, builtin, ha.ev hx, ha.ev hy, Builtin.append_, run_underlying ht, sizeOf, typeInfo, hinf, Builtin.lenOf, hmc, Builtin.firstCells, loadCells, loadCellsFrom, storeCells]
    · have hne : news ≠ [] := by intro e; subst e; simp only [List.length_nil] at hl; have := hl.symm; rw [Nat.mul_eq_zero] at this; omega
      rcases hnews with e | ⟨b, off, rfl, hc⟩
      · exact absurd e hne
      · obtain ⟨v', w', hr, h2, h3, _, h4⟩ := run_append_own_at (P := P) w 0 t o.type te inf z sz bytes ht hinf hz0 hz1 hz2 hz h0 (.slice A m cap) m (C.take (m * sz)) hown ⟨b, off, none⟩ n2 c2 news hl
          (fun j u hu => by rw [addr_add]; exact hc j u hu) h1 (by unfold maxLen; omega) hbytes (Nat.zero_le _)
        have hv' : ∃ A' cap', v' = .slice A' (m + n2) cap' := by
          rcases h2.2 with ⟨rfl, e⟩ | ⟨g, cap', cur, rfl, _⟩
          · exact ⟨none, 0, by rw [e]⟩
          · exact ⟨_, cap', rfl⟩
        obtain ⟨A', cap', rfl⟩ := hv'
        refine ⟨A', cap', w', fun q a ha => ?_, h2, h3, h4⟩
        simp [execOp, ho, resolve, invoke, builtin, ha.ev hx, ha.ev hy, hr]
  obtain ⟨A', cap', w', hrun, h2, h3, h4⟩ := main
  refine F_eff hgd hd hn hrun (K _ _ _ ?_)
  have hfoot : ∀ b, (Value.slice A m cap).ownBlock = some b → (Res.own A cap C te sz).foot = some b := by
    intro b hb
    cases A with
    | none => simp [Value.ownBlock] at hb
    | some a => simpa [Value.ownBlock, Res.foot] using hb
  have hchg : Chg (fun b => (Res.own A cap C te sz).foot = some b) w w' :=
    ⟨h3.os, h3.tape, h3.output, h3.size, fun k hk hne => h3.block k hk fun e => hne (hfoot k e.symm)⟩
  refine HS.turn hi hchg ?_ ?_ (fun _ _ h => by cases h)
  · rcases h2.2 with ⟨e, e2⟩ | ⟨g, cap'', cur, e, _, hg, hmc, hcap, hcs, htake⟩
    · simp only [Value.slice.injEq] at e
      obtain ⟨rfl, _, rfl⟩ := e
      refine .inl ⟨rfl, rfl, List.eq_nil_of_length_eq_zero ?_⟩
      rw [h2.1, e2, Nat.zero_mul]
    · simp only [Value.slice.injEq] at e
      obtain ⟨rfl, _, rfl⟩ := e
      refine .inr ⟨g, cur.toList.drop ((m + n2) * sz), rfl, ?_, ?_, hcap⟩
      · rw [← htake, List.take_append_drop]; exact hg
      · rw [← htake, List.take_append_drop]; simpa using hcs
  · intro g hg
    have hA : (Value.slice A' (m + n2) cap').ownBlock = some g := by
      cases A' with
      | none => simp [Res.foot] at hg
      | some a => simpa [Value.ownBlock, Res.foot] using hg
    rcases h4 with h4 | h4
    · exact .inl (hfoot g (h4 ▸ hA))
    · rw [h4] at hA
      simp only [Option.some.injEq] at hA
      exact .inr (by omega)

theorem run_firstCells {A : Option Addr} {C : List Value} {m k c sz : Nat} (hC : Cells A C w) (hl : C.length = k * sz) (hm : m ≤ k) : (Builtin.firstCells sz m (.slice A k c)).run P w = .ok (C.take (m * sz)).toArray w := by
  have hle : m * sz ≤ k * sz := Nat.mul_le_mul_right _ hm
  cases A with
  | none =>
    rcases hC with e | ⟨b, off, e, _⟩
    · subst e
      simp [Builtin.firstCells]
    · cases e
  | some a =>
    rcases hC with e | ⟨b, off, e, hc⟩
    · subst e
      simp only [List.length_nil] at hl
      have : m * sz = 0 := by omega
      simp [Builtin.firstCells, this, loadCells, loadCellsFrom]
    · cases e
      have := run_loadCells (P := P) (w := w) (b := b) (k := off) (m * sz) 0 #[] (C.take (m * sz)) (by simp; omega) (fun j v hj => by
        rw [Nat.zero_add]
        exact hc j v (by rw [List.getElem?_take] at hj; split at hj <;> simp_all))
      simpa [Builtin.firstCells, loadCells] using this

theorem upd_self {r : Res} : ∀ (L : List Res) (i : Nat), nth L i = some r → upd L i r = L
  | [], _, h => by cases h
  | x :: L, 0, h => by simp only [nth, Option.some.injEq] at h; subst h; rfl
  | x :: L, i + 1, h => by simp only [nth] at h; simp only [upd, upd_self L i h]

/-- copy(x, y), x's row one's own. -/
theorem copy_run {x y : Operand} {t te : TypeId} {i m n2 c2 cap sz : Nat} {A B : Option Addr} {C D : List Value}
    (ho : o.op = .call { callee := .builtin .copy, args := #[x, y], argTypes := #[t, t] }) (ht : P.underlying t = some (.slice te)) (hs : (P.info? te).map (·.size) = some sz)
    (hx : ev F x = some (.slice A m cap)) (hy : ev F y = some (.slice B n2 c2)) (HS : Hp S w0 w L) (hi : nth L i = some (.own A cap C te sz)) (hm : m * sz ≤ C.length) (hD : Cells B D w) (hl : D.length = n2 * sz) (h1 : ∀ u ∈ D, u.oneCell' = true) :
    ∃ w', (∀ q a, Is q a F → (execOp a.eval o).run P w = .ok (.value (.int .i64 (min n2 m : Nat))) w') ∧ Hp S w0 w' (upd L i (.own A cap (ovl C 0 (D.take (min n2 m * sz))) te sz)) := by
  have hfc := run_firstCells (P := P) (c := c2) hD hl (Nat.min_le_left n2 m)
  have hle : min n2 m * sz ≤ m * sz := Nat.mul_le_mul_right _ (Nat.min_le_right _ _)
  have hle2 : min n2 m * sz ≤ n2 * sz := Nat.mul_le_mul_right _ (Nat.min_le_left _ _)
  have hlt : (D.take (min n2 m * sz)).length = min n2 m * sz := by simp; omega
  · have hok := HS.ok _ (nth_mem hi)
    rcases hok with ⟨rfl, rfl, e⟩ | ⟨g, E, rfl, hg, hlen, hcap⟩
    · subst e
      refine ⟨w, fun q a ha => ?_, ?_⟩
      · simp [execOp, ho, resolve, invoke, builtin, ha.ev hx, ha.ev hy, Builtin.copy_, run_underlying ht, run_sizeOf hs, Builtin.lenOf, Nat.min_def, goInt] at hfc ⊢
        have hfc' := run_firstCells (P := P) (c := c2) hD hl (Nat.min_le_left n2 m)
        rw [Nat.min_def] at hfc'
        simp [hfc']
      · have : D.take (min n2 m * sz) = [] := by
          simp only [List.length_nil] at hm
          have : min n2 m * sz = 0 := by omega
          rw [this]; rfl
        rw [this]
        have : upd L i (.own none 0 (ovl [] 0 []) te sz) = L := by
          exact upd_self L i hi
        rw [this]
        exact HS
    · have hst := run_storeCells_at P g 0 te (D.take (min n2 m * sz)) 0 (C ++ E).toArray w hg (by simp only [List.size_toArray, List.length_append, hlt]; omega) (fun v hv => h1 v (List.mem_of_mem_take hv))
      simp only [Nat.add_zero, Nat.zero_add, List.toList_toArray] at hst
      have e := ovl_app (C := C) (D := E) (k := 0) (vs := D.take (min n2 m * sz)) (by rw [hlt]; omega)
      simp only [Nat.zero_add] at e
      rw [e] at hst
      refine ⟨w.setRow g (ovl C 0 (D.take (min n2 m * sz)) ++ E).toArray, fun q a ha => ?_, ?_⟩
      · have hmin : Nat.min n2 m = min n2 m := rfl
        simp only [execOp, ho, resolve, invoke, builtin, List.map_toArray, List.map_cons, List.map_nil, ha.ev hx, ha.ev hy, Builtin.copy_, Sem.run_bind, Sem.run_pure, Result.andThen_ok, List.getElem?_toArray, List.getElem?_cons_zero, List.getElem?_cons_succ, run_underlying ht, run_sizeOf hs, Builtin.lenOf, hmin, hfc, hst, goInt]
      · refine HS.turn hi (setRow_chg hg) (.inr ⟨g, E, rfl, setRow_heap w g _ _ te (0, 0) hg, ?_, hcap⟩) (fun b hb => .inl hb) (fun _ _ h => by cases h)
        have := ovl_length (C := C) (k := 0) (vs := D.take (min n2 m * sz)) (by rw [hlt]; omega)
        simpa [this] using hlen

theorem F_copy {x y : Operand} {t te : TypeId} {d i m n2 c2 cap sz : Nat} {A B : Option Addr} {C D : List Value} (hgd : o.guard = Option.none) (hd : o.dst = some d) (hn : Nat.ble (d + 1) n = true)
    (ho : o.op = .call { callee := .builtin .copy, args := #[x, y], argTypes := #[t, t] }) (ht : P.underlying t = some (.slice te)) (hs : (P.info? te).map (·.size) = some sz)
    (hx : ev F x = some (.slice A m cap)) (hy : ev F y = some (.slice B n2 c2)) (HS : Hp S w0 w L) (hi : nth L i = some (.own A cap C te sz)) (hm : m * sz ≤ C.length) (hD : Cells B D w) (hl : D.length = n2 * sz) (h1 : ∀ u ∈ D, u.oneCell' = true)
    (K : ∀ w', Hp S w0 w' (upd L i (.own A cap (ovl C 0 (D.take (min n2 m * sz))) te sz)) → wpF P n ops Q rest ((d, .int .i64 (min n2 m : Nat)) :: F) w') : wpF P n ops Q (o :: rest) F w := by
  obtain ⟨w', hrun, hHp⟩ := copy_run ho ht hs hx hy HS hi hm hD hl h1
  exact F_eff hgd hd hn hrun (K w' hHp)
theorem F_copy0 {x y : Operand} {t te : TypeId} {i m n2 c2 cap sz : Nat} {A B : Option Addr} {C D : List Value} (hgd : o.guard = Option.none) (hd : o.dst = Option.none)
    (ho : o.op = .call { callee := .builtin .copy, args := #[x, y], argTypes := #[t, t] }) (ht : P.underlying t = some (.slice te)) (hs : (P.info? te).map (·.size) = some sz)
    (hx : ev F x = some (.slice A m cap)) (hy : ev F y = some (.slice B n2 c2)) (HS : Hp S w0 w L) (hi : nth L i = some (.own A cap C te sz)) (hm : m * sz ≤ C.length) (hD : Cells B D w) (hl : D.length = n2 * sz) (h1 : ∀ u ∈ D, u.oneCell' = true)
    (K : ∀ w', Hp S w0 w' (upd L i (.own A cap (ovl C 0 (D.take (min n2 m * sz))) te sz)) → wpF P n ops Q rest F w') : wpF P n ops Q (o :: rest) F w := by
  obtain ⟨w', hrun, hHp⟩ := copy_run ho ht hs hx hy HS hi hm hD hl h1
  intro a ha
  refine wpList_plain hgd fun K' hK => ?_
  unfold Oper.wp
  rw [hrun n a ha, Oper.upon_value, hd]
  exact hK _ _ (K w' hHp a ha)

end
end Go.V
