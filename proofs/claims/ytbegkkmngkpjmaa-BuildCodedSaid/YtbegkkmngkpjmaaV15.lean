/- append where the old slice is read on; rows that are turned in place. -/
import Derived.Test.YtbegkkmngkpjmaaV14
set_option linter.unusedVariables false
set_option linter.unusedSimpArgs false
namespace Go.V
open Go

section
variable {P : Program} {n : Nat} {Q : Exit → Act → World → Prop} {cs : List Code} {F : List (Nat × Value)} {w w0 : World} {S : Nat → Prop} {L : List Res}
  {ops : Array Oper} {rest : List Oper} {o : Oper} {α : Type} {E : El α} {xs ys : List α}

/-- append(x, y...), x's row one's own: in place, or into a new row, and then the old one is as it was. -/
theorem F_appE2 {x y : Operand} {t te : TypeId} {d i c2 cap bytes : Nat} {A B : Option Addr} {z : Value} (hgd : o.guard = none) (hd : o.dst = some d) (hn : Nat.ble (d + 1) n = true)
    (ho : o.op = .call { callee := .builtin .append, args := #[x, y], argTypes := #[t, t] }) (ht : P.underlying t = some (.slice te)) (hinf : (P.info? te).map (fun i => (i.zero, i.size, i.bytes)) = some (some z, E.sz, bytes)) (hz : z.cells.toList = E.enc E.def_) (h0 : 0 < E.sz) (hb : 0 < bytes)
    (hx : ev F x = some (.slice A xs.length cap)) (hy : ev F y = some (.slice B ys.length c2)) (HS : Hp S w0 w L) (hi : nth L i = some (.own A cap (rowC E xs) te E.sz)) (hnews : Cells B (rowC E ys) w) {zs : List α} (ez : xs ++ ys = zs) (hbytes : (zs.length : Int) * bytes ≤ 140737488355328)
    (K1 : ∀ w', Hp S w0 w' (upd L i (.own A cap (rowC E zs) te E.sz)) → wpF P n ops Q rest ((d, .slice A zs.length cap) :: F) w')
    (K2 : ∀ w' A' cap', Hp S w0 w' (L ++ [.own A' cap' (rowC E zs) te E.sz]) → wpF P n ops Q rest ((d, .slice A' zs.length cap') :: F) w') : wpF P n ops Q (o :: rest) F w := by
  subst ez
  obtain ⟨inf, hinf, hiz⟩ := Option.map_eq_some_iff.1 hinf
  simp only [Prod.mk.injEq] at hiz
  obtain ⟨hz0, hz1, hz2⟩ := hiz
  have hzs : z.cells.size = E.sz := by have := congrArg List.length hz; rw [E.len] at this; simpa using this
  have hb2 : (xs.length + ys.length) * bytes ≤ 140737488355328 := by
    have e : (((xs ++ ys).length : Nat) : Int) * bytes = (((xs.length + ys.length) * bytes : Nat) : Int) := by rw [List.length_append]; simp
    rw [e] at hbytes; omega
  have hmn : xs.length + ys.length ≤ 140737488355328 := Nat.le_trans (Nat.le_mul_of_pos_right _ hb) hb2
  have hl : (rowC E ys).length = ys.length * E.sz := rowC_length
  have h1 : ∀ u ∈ rowC E ys, u.oneCell' = true := fun u hu => by
    obtain ⟨x, _, hx⟩ := List.mem_flatMap.1 hu
    exact E.one x u hx
  have own := HS.ok _ (nth_mem hi)
  by_cases hn0 : ys = []
  · subst hn0
    rw [List.append_nil] at K1
    have hmc : xs.length ≤ cap := by
      rcases own with ⟨_, _, e⟩ | ⟨g, D, _, _, hlen, _⟩
      · have : (rowC E xs).length = 0 := by rw [e]; rfl
        rw [rowC_length] at this
        rcases Nat.mul_eq_zero.1 this with h | h
        · omega
        · omega
      · rw [List.length_append, rowC_length] at hlen
        have : xs.length * E.sz ≤ cap * E.sz := by omega
        exact Nat.le_of_mul_le_mul_right this h0
    refine F_eff hgd hd hn (w' := w) (v := .slice A xs.length cap) (fun q a ha => ?_) (K1 w (by rw [upd_self L i hi]; exact HS))
    have hx' := ha.ev hx
    have hy' := ha.ev hy
    cases A with
    | none => cases B <;> simp [execOp, ho, resolve, invoke, builtin, hx', hy', Builtin.append_, run_underlying ht, sizeOf, typeInfo, hinf, Builtin.lenOf, hmc, Builtin.firstCells, loadCells, loadCellsFrom]
    | some ad => cases B <;> simp [execOp, ho, resolve, invoke, builtin, hx', hy', Builtin.append_, run_underlying ht, sizeOf, typeInfo, hinf, Builtin.lenOf, hmc, Builtin.firstCells, loadCells, loadCellsFrom, storeCells]
  · have yl : 0 < ys.length := List.length_pos_iff.2 hn0
    have hne : rowC E ys ≠ [] := by intro e; rw [e] at hl; simp only [List.length_nil] at hl; have := hl.symm; rw [Nat.mul_eq_zero] at this; omega
    rcases hnews with e | ⟨b, off, rfl, hc⟩
    · exact absurd e hne
    · have hc' : ∀ j u, (rowC E ys)[j]? = some u → w.cell? ((⟨b, off, none⟩ : Addr).add j) = some u := fun j u hu => by rw [addr_add]; exact hc j u hu
      -- what the new row is
      have fresh : ∀ (old : Nat), old < xs.length + ys.length → ∀ R : Value, R = .slice (some ⟨w.heap.size, 0, none⟩) (xs.length + ys.length) (grownCap w (xs.length + ys.length) old te) →
          (∀ q a, Is q a F → (execOp a.eval o).run P w = .ok (.value R) (w.drew.alloc (.cells ((rowC E xs).toArray ++ (rowC E ys).toArray ++ Builtin.zeroCells z.cells (grownCap w (xs.length + ys.length) old te - (xs.length + ys.length))) te))) →
          wpF P n ops Q (o :: rest) F w := by
        intro old hold R hR hrun
        subst hR
        have hge := grownCap_ge w (xs.length + ys.length) old te
        have hcm : grownCap w (xs.length + ys.length) old te ≤ maxLen := grownCap_le_maxLen w (xs.length + ys.length) old te (by unfold maxLen; omega)
        refine F_eff hgd hd hn hrun ?_
        have := K2 (w.drew.alloc (.cells ((rowC E xs).toArray ++ (rowC E ys).toArray ++ Builtin.zeroCells z.cells (grownCap w (xs.length + ys.length) old te - (xs.length + ys.length))) te)) (some ⟨w.heap.size, 0, none⟩) (grownCap w (xs.length + ys.length) old te) ?_
        · rwa [List.length_append] at this
        · refine HS.more ⟨rfl, rfl, rfl, by simp, fun k hk _ => (alloc_chg (w := w.drew) _).block k hk (fun h => h)⟩ (.inr ⟨w.heap.size, (Builtin.zeroCells z.cells (grownCap w (xs.length + ys.length) old te - (xs.length + ys.length))).toList, rfl, ?_, ?_, hcm⟩) (fun g hg => by simp only [Res.foot, Option.some.injEq] at hg; omega) (fun _ _ h => by cases h)
          · rw [rowC_append]
            have e : (rowC E xs ++ rowC E ys ++ (Builtin.zeroCells z.cells (grownCap w (xs.length + ys.length) old te - (xs.length + ys.length))).toList).toArray = (rowC E xs).toArray ++ (rowC E ys).toArray ++ Builtin.zeroCells z.cells (grownCap w (xs.length + ys.length) old te - (xs.length + ys.length)) := by
              apply Array.toList_inj.1; simp
            rw [e]
            exact heap_alloc_new w.drew _
          · rw [rowC_append, List.length_append, List.length_append, rowC_length, rowC_length, show ∀ (a : Array Value), a.toList.length = a.size from fun a => Array.length_toList, size_zeroCells, hzs, ← Nat.add_mul, ← Nat.add_mul]
            congr 1; omega
      rcases own with ⟨rfl, rfl, e⟩ | ⟨g, D, rfl, hg, hlen, hcap⟩
      · have x0 : xs.length = 0 := by
          have : (rowC E xs).length = 0 := by rw [e]; rfl
          rw [rowC_length] at this
          rcases Nat.mul_eq_zero.1 this with h | h
          · exact h
          · omega
        have xn : xs = [] := List.eq_nil_of_length_eq_zero x0
        subst xn
        simp only [List.length_nil, Nat.zero_add] at hx fresh hmn hb2
        have hr := run_append_nil (P := P) w t o.type te inf z ht hinf hz0 ⟨b, off, none⟩ ys.length c2 (rowC E ys) (by rw [hl, hz1]) hc' yl (by omega) (by rw [hz2]; omega)
        refine fresh 0 yl _ rfl fun q a ha => ?_
        have e1 : (rowC E ([] : List α)).toArray = #[] := rfl
        simp only [execOp, ho, resolve, invoke, builtin, List.map_toArray, List.map_cons, List.map_nil, ha.ev hx, ha.ev hy, Sem.run_bind, Sem.run_pure, Result.andThen_ok, hr, e1, Array.empty_append]
      · by_cases hroom : xs.length + ys.length ≤ cap
        · have hcs : (rowC E xs ++ D).length = cap * E.sz := hlen
          have hfit : xs.length * inf.size + (rowC E ys).length ≤ (rowC E xs ++ D).toArray.size := by
            rw [hl, hz1, List.size_toArray, hcs, ← Nat.add_mul]; exact Nat.mul_le_mul_right _ hroom
          have hr := run_append_room (P := P) w t o.type te inf ht hinf g xs.length cap _ hg ⟨b, off, none⟩ ys.length c2 (rowC E ys) (by rw [hl, hz1]) hc' h1 hroom hfit
          have et : (rowC E xs ++ D).take (xs.length * E.sz) = rowC E xs := by
            rw [List.take_append_of_le_length (by rw [rowC_length]; exact Nat.le_refl _), List.take_of_length_le (by rw [rowC_length]; exact Nat.le_refl _)]
          rw [List.toList_toArray, hz1, et] at hr
          refine F_eff hgd hd hn (w' := w.setRow g (rowC E xs ++ rowC E ys ++ (rowC E xs ++ D).drop (xs.length * E.sz + (rowC E ys).length)).toArray) (v := .slice (some ⟨g, 0, none⟩) (xs.length + ys.length) cap) (fun q a ha => ?_) ?_
          · simp only [execOp, ho, resolve, invoke, builtin, List.map_toArray, List.map_cons, List.map_nil, ha.ev hx, ha.ev hy, Sem.run_bind, Sem.run_pure, Result.andThen_ok, hr]
          · have := K1 (w.setRow g (rowC E xs ++ rowC E ys ++ (rowC E xs ++ D).drop (xs.length * E.sz + (rowC E ys).length)).toArray) ?_
            · rwa [List.length_append] at this
            · refine HS.turn hi (setRow_chg hg) (.inr ⟨g, (rowC E xs ++ D).drop (xs.length * E.sz + (rowC E ys).length), rfl, ?_, ?_, hcap⟩) (fun b hb => .inl hb) (fun _ _ h => by cases h)
              · rw [rowC_append]; exact setRow_heap w g _ _ te (0, 0) hg
              · rw [rowC_append, List.length_append, List.length_append, List.length_drop, hcs, rowC_length, hl, ← Nat.add_mul]
                have : (xs.length + ys.length) * E.sz ≤ cap * E.sz := Nat.mul_le_mul_right _ hroom
                omega
        · have holds : ∀ j u, (rowC E xs)[j]? = some u → w.cell? ((⟨g, 0, none⟩ : Addr).add j) = some u := by
            intro j u hu
            have := HS.cells_own hi
            rcases this with e | ⟨b', o', e, hcl⟩
            · rw [e] at hu; cases hu
            · simp only [Option.some.injEq, Addr.mk.injEq] at e
              obtain ⟨rfl, rfl, _⟩ := e
              rw [addr_add]; exact hcl j u hu
          have hr := run_append_grow (P := P) w t o.type te inf z ht hinf hz0 ⟨g, 0, none⟩ xs.length cap (rowC E xs) (by rw [rowC_length, hz1]) holds ⟨b, off, none⟩ ys.length c2 (rowC E ys) (by rw [hl, hz1]) hc' (by omega) (by omega) (by rw [hz2]; exact growslice_fits (by omega) hb2)
          refine fresh cap (by omega) _ rfl fun q a ha => ?_
          simp only [execOp, ho, resolve, invoke, builtin, List.map_toArray, List.map_cons, List.map_nil, ha.ev hx, ha.ev hy, Sem.run_bind, Sem.run_pure, Result.andThen_ok, hr]

/-- What stands ahead in a row that was appended to. -/
theorem Cells.preZ {A : Option Addr} {zs : List α} (h : Cells A (rowC E zs) w) (e : xs ++ ys = zs) : Sub A (rowC E zs) A (rowC E xs) := by subst e; exact h.pre
theorem Hp.shrink {i cap : Nat} {A : Option Addr} {t : TypeId} {zs : List α} (h : Hp S w0 w L) (hi : nth L i = some (.own A cap (rowC E zs) t E.sz)) (e : xs ++ ys = zs) : Hp S w0 w (upd L i (.own A cap (rowC E xs) t E.sz)) := by
  subst e
  rw [rowC_append] at hi
  exact h.own_cut hi

/-- A row whose first m are another list now. -/
def cpyV (xs : List α) (m : Nat) (ys : List α) : List α := cpy (xs.take m) ys ++ xs.drop m
theorem cpy_len (xs ys : List α) : (cpy xs ys).length = xs.length := by
  unfold cpy; rw [List.length_append, List.length_take, List.length_drop]; omega
theorem cpyV_length (xs : List α) (m : Nat) (ys : List α) : (cpyV xs m ys).length = xs.length := by
  unfold cpyV; rw [List.length_append, cpy_len, List.length_take, List.length_drop]; omega
theorem cpyV_row (m : Nat) : ovl (rowC E xs) 0 ((rowC E ys).take (min ys.length (xs.take m).length * E.sz)) = rowC E (cpyV xs m ys) := by
  have e : rowC E xs = rowC E (xs.take m) ++ rowC E (xs.drop m) := by rw [← rowC_append, List.take_append_drop]
  have hle : 0 + ((rowC E ys).take (min ys.length (xs.take m).length * E.sz)).length ≤ (rowC E (xs.take m)).length := by
    rw [Nat.zero_add, List.length_take, rowC_length, rowC_length]
    exact Nat.le_trans (Nat.min_le_left _ _) (Nat.mul_le_mul_right _ (Nat.min_le_right _ _))
  have := ovl_app (C := rowC E (xs.take m)) (D := rowC E (xs.drop m)) (k := 0) hle
  rw [← e] at this
  rw [ovl, this, cpy_row, cpyV, rowC_append]
theorem F_copyV {x y : Operand} {t te : TypeId} {d i c2 cap m : Nat} {A B : Option Addr} (hgd : o.guard = none) (hd : o.dst = some d) (hn : Nat.ble (d + 1) n = true)
    (ho : o.op = .call { callee := .builtin .copy, args := #[x, y], argTypes := #[t, t] }) (ht : P.underlying t = some (.slice te)) (hs : (P.info? te).map (·.size) = some E.sz)
    (hx : ev F x = some (.slice A (xs.take m).length cap)) (hy : ev F y = some (.slice B ys.length c2)) (HS : Hp S w0 w L) (hi : nth L i = some (.own A cap (rowC E xs) te E.sz)) (hD : Cells B (rowC E ys) w) {zs : List α} (ez : cpyV xs m ys = zs)
    (K : ∀ w', Hp S w0 w' (upd L i (.own A cap (rowC E zs) te E.sz)) → wpF P n ops Q rest ((d, .int .i64 (min ys.length (xs.take m).length : Nat)) :: F) w') : wpF P n ops Q (o :: rest) F w := by
  subst ez
  refine F_copy hgd hd hn ho ht hs hx hy HS hi (by rw [rowC_length]; exact Nat.mul_le_mul_right _ (by rw [List.length_take]; exact Nat.min_le_right _ _)) hD rowC_length (fun u hu => rowC_one hu) fun w' h => ?_
  rw [cpyV_row] at h
  exact K w' h
theorem F_copyV0 {x y : Operand} {t te : TypeId} {i c2 cap m : Nat} {A B : Option Addr} (hgd : o.guard = none) (hd : o.dst = none)
    (ho : o.op = .call { callee := .builtin .copy, args := #[x, y], argTypes := #[t, t] }) (ht : P.underlying t = some (.slice te)) (hs : (P.info? te).map (·.size) = some E.sz)
    (hx : ev F x = some (.slice A (xs.take m).length cap)) (hy : ev F y = some (.slice B ys.length c2)) (HS : Hp S w0 w L) (hi : nth L i = some (.own A cap (rowC E xs) te E.sz)) (hD : Cells B (rowC E ys) w) {zs : List α} (ez : cpyV xs m ys = zs)
    (K : ∀ w', Hp S w0 w' (upd L i (.own A cap (rowC E zs) te E.sz)) → wpF P n ops Q rest F w') : wpF P n ops Q (o :: rest) F w := by
  subst ez
  refine F_copy0 hgd hd ho ht hs hx hy HS hi (by rw [rowC_length]; exact Nat.mul_le_mul_right _ (by rw [List.length_take]; exact Nat.min_le_right _ _)) hD rowC_length (fun u hu => rowC_one hu) fun w' h => ?_
  rw [cpyV_row] at h
  exact K w' h
theorem lt_take {xs : List α} {m : Nat} {q : Int} (h : q < ((xs.take m).length : Int)) : q < (xs.length : Int) := by
  rw [List.length_take] at h; omega
theorem le_of_len_le {zs : List α} {c : Nat} (e : xs ++ ys = zs) (h : zs.length ≤ c) : xs.length ≤ c := by subst e; rw [List.length_append] at h; omega
theorem take_len {xs zs : List α} (e : xs.length = zs.length) (m : Nat) : (xs.take m).length = (zs.take m).length := by rw [List.length_take, List.length_take, e]
end
end Go.V
