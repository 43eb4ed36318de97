/- Arguments that are read as data: slices of flat elements as pieces of memory. -/
import Derived.Test.YtbegkkmngkpjmaaV9
import Derived.SizedLaws
import Derived.ChangeSlices
import Derived.OpenShut
import Derived.WalkKit
import Derived.ProofKit
import Derived.ChangeOld
import Derived.Below
import Derived.Lib.LaidTab
import Derived.Deep.DeepHandedRow
set_option linter.unusedVariables false
set_option linter.unusedSimpArgs false
namespace Go.V
open Go Go.ChangeShapes Go.WideShapes

section
variable {H : Type} {enc : TypeId × Value → H} {P : Program} {W : World} {spare : Nat → Bool} {held : Bool}

theorem flat_of_getElem {α : Type} (E : El α) (hp : 0 < E.sz) : ∀ (l : List α) (j : Nat) (v : Value), (rowC E l)[j]? = some v → ∃ i q x, j = i * E.sz + q ∧ q < E.sz ∧ l[i]? = some x ∧ (E.enc x)[q]? = some v := by
  intro l j v h
  have hj : j = j / E.sz * E.sz + j % E.sz := by rw [Nat.mul_comm]; exact (Nat.div_add_mod j E.sz).symm
  have hq : j % E.sz < E.sz := Nat.mod_lt _ hp
  have hlen : (rowC E l).length = l.length * E.sz := rowC_length
  have hlt : j < (rowC E l).length := (List.getElem?_eq_some_iff.1 h).1
  have hi : j / E.sz < l.length := by rw [Nat.div_lt_iff_lt_mul hp]; omega
  have hx : l[j / E.sz]? = some l[j / E.sz] := List.getElem?_eq_getElem hi
  refine ⟨j / E.sz, j % E.sz, _, hj, hq, hx, ?_⟩
  rw [← rowC_at hx hq, ← hj]; exact h

/-- A slice of flat elements, handed as an argument. -/
theorem open_row {α : Type} (E : El α) {ok : α → Prop} {t e : TypeId} {r : Reach} {b0 : Nat} {v : Value} {d : DataW H} {ps : List MemPlace} {B : Nat} {ts : List TypeId} {ds : List (DataW H)} {j : Nat}
    (ht : P.underlying t = some (.slice e)) (hc : P.cellsOf e = E.sz) (hp : 0 < E.sz) (hB : P.bytesOf e = B)
    (dec : ∀ n cs y, DataW.trod enc P W 0 spare held n e cs = some y → ∃ x, cs = E.enc x ∧ ok x)
    (hval : Value.okWide P W r b0 t v) (hd : DataW.Trod enc P W 0 spare held t v d ps)
    (hsz : (DataW.weightsEach P ts ds).all (· ≤ reachBytes) = true) (hts : ts[j]? = some t) (hds : ds[j]? = some d) :
    ∃ A cap l, v = .slice A (l : List α).length cap ∧ l.length ≤ cap ∧ cap ≤ maxLen ∧ (∀ x ∈ l, ok x) ∧ l.length * B ≤ 140737488351232 ∧ (Res.rd A (rowC E l)).holds W := by
  obtain ⟨a, len, cap, rfl⟩ := okWide_slice ht hval
  obtain ⟨fuel, hf⟩ := hd
  rcases DataW.trod_slice ht hf with ⟨hcs, _⟩ | ⟨x, l, c, elems, rest, n, _, hcs, hx, hb, hl, hm, hlen, hel, _, _⟩
  · simp [Value.cells] at hcs
    obtain ⟨rfl, rfl, rfl⟩ := hcs
    exact ⟨none, 0, [], rfl, by simp, by simp, by simp, by simp, .inl rfl, fun b hb => absurd rfl hb.1, fun w' _ => .inl rfl⟩
  · simp [Value.cells] at hcs
    obtain ⟨rfl, rfl, rfl⟩ := hcs
    have each : ∀ i, i < len → ∃ y : α, ok y ∧ W.cells? 0 (x.add (i * E.sz)) E.sz = some (E.enc y) := by
      intro i hi
      have h := hel i hi
      rw [hc, List.getElem?_eq_getElem (by omega), Option.bind_eq_some_iff] at h
      obtain ⟨cs, h1, h2⟩ := h
      obtain ⟨y, rfl, hy⟩ := dec _ _ _ h2
      exact ⟨y, hy, h1⟩
    have mk : ∀ m, m ≤ len → ∃ l : List α, l.length = m ∧ ∀ i y, l[i]? = some y → ok y ∧ W.cells? 0 (x.add (i * E.sz)) E.sz = some (E.enc y) := by
      intro m
      induction m with
      | zero => exact fun _ => ⟨[], rfl, fun i y h => by simp at h⟩
      | succ m ih =>
        intro hm'
        obtain ⟨l, hl', hh⟩ := ih (by omega)
        obtain ⟨y, hy, hcl⟩ := each m (by omega)
        refine ⟨l ++ [y], by simp [hl'], fun i z hz => ?_⟩
        rw [List.getElem?_append] at hz
        split at hz
        · exact hh i z hz
        · have : i = m := by have := (List.getElem?_eq_some_iff.1 hz).1; simp at this; omega
          subst this
          simp [hl'] at hz
          subst hz
          exact ⟨hy, hcl⟩
    obtain ⟨l, hl', hh⟩ := mk len (Nat.le_refl _)
    have wt : len * B ≤ 140737488351232 := by
      obtain ⟨hx1, _⟩ := Prod.mk.inj hx
      subst hx1
      have z := sized_slice hsz hts hds ht
      rw [hB] at z
      simp only [List.length_map] at z
      refine Nat.le_trans (Nat.mul_le_mul_right _ ?_) z
      omega
    have cell : ∀ j v, (rowC E l)[j]? = some v → W.cell? (x.add j) = some v := by
      intro j v hv
      obtain ⟨i, q, y, rfl, hq, hy, hv⟩ := flat_of_getElem E hp l j v hv
      have := (World.cells?_some (hh i y hy).2).2.2 q hq
      have e2 : (x.add (i * E.sz)).add q = x.add (i * E.sz + q) := by
        unfold Addr.add
        by_cases h1 : i * E.sz = 0 <;> by_cases h2 : q = 0 <;> simp [h1, h2, Nat.add_assoc]
      rw [e2] at this
      rw [this, hv]
    have spot : rowC E l ≠ [] → x.spot = none := by
      intro hne
      cases hr : rowC E l with
      | nil => exact absurd hr hne
      | cons v0 rr =>
        have := cell 0 v0 (by rw [hr]; rfl)
        rw [show x.add 0 = x from by simp [Addr.add]] at this
        exact World.cell?_spot this
    have blkOk : rowC E l ≠ [] → x.block < W.heap.size := by
      intro hne
      cases hr : rowC E l with
      | nil => exact absurd hr hne
      | cons v0 rr =>
        have := cell 0 v0 (by rw [hr]; rfl)
        rw [show x.add 0 = x from by simp [Addr.add]] at this
        unfold World.cell? at this
        split at this
        · rename_i hb; exact (Array.getElem?_eq_some_iff.1 hb).1
        · cases this
    have CC : ∀ w' : World, (∀ b, blk (some x) (rowC E l) b → w'.heap[b]? = W.heap[b]?) → Cells (some x) (rowC E l) w' := by
      intro w' hw'
      by_cases hne : rowC E l = []
      · exact .inl hne
      · refine .inr ⟨x.block, x.off, ?_, fun j v hv => ?_⟩
        · have := spot hne
          cases x; simp_all
        · have h1 := cell j v hv
          rw [← h1]
          have h2 : W.cell? ⟨x.block, x.off + j, none⟩ = W.cell? (x.add j) := by
            have := spot hne
            cases x
            simp only at this
            subst this
            by_cases hj : j = 0
            · subst hj; simp [Addr.add]
            · simp [Addr.add, hj]
          rw [← h2]
          exact World.cell?_of_block (w := W) (hw' x.block ⟨hne, _, rfl, rfl⟩)
    refine ⟨some x, cap, l, by rw [hl'], by omega, hm, fun y hy => ?_, by rw [hl']; exact wt, CC W (fun _ _ => rfl), ?_, CC⟩
    · obtain ⟨i, hi⟩ := List.getElem?_of_mem hy
      exact (hh i y hi).1
    · rintro b ⟨hne, a', h1, h2⟩
      cases h1
      rw [← h2]
      exact blkOk hne

theorem dec_int {e : TypeId} {k : IntKind} (he : P.underlying e = some (.int k)) : ∀ n cs y, DataW.trod enc P W 0 spare held n e cs = some y → ∃ x, cs = (Eint k).enc x ∧ (Lit.int k x).wf = true := by
  intro n cs y h
  obtain ⟨x, rfl, _, hx⟩ := DataW.trod_int he h
  exact ⟨x, rfl, hx⟩

/-- A struct, handed as an argument. -/
theorem dec_arg {α : Type} {E : El α} {ok : α → Prop} {t : TypeId} {cs : Array Value} {d : DataW H} {ps : List MemPlace}
    (dec : ∀ n cs y, DataW.trod enc P W 0 spare held n t cs = some y → ∃ x, cs = E.enc x ∧ ok x)
    (hd : DataW.Trod enc P W 0 spare held t (.agg cs) d ps) : ∃ x, cs = (E.enc x).toArray ∧ ok x := by
  obtain ⟨fuel, hf⟩ := hd
  obtain ⟨x, hx, hk⟩ := dec _ _ _ hf
  refine ⟨x, ?_, hk⟩
  have : (Value.agg cs).cells = cs := rfl
  rw [this] at hx
  cases cs; simp_all

/-- Pieces that are only read, from one world on. -/
theorem Hp.start {w : World} {L : List Res} (hk : ∀ r ∈ L, ∃ B I, r = .per B I) (hh : ∀ r ∈ L, r.holds w) : Hp NoB w w L := by
  have hf : feetL L = [] := by
    unfold feetL
    rw [List.filterMap_eq_nil_iff]
    intro r hr
    obtain ⟨B, I, rfl⟩ := hk r hr
    rfl
  exact ⟨Chg.refl _ _, hh, (fun b hb => by unfold feet at hb; rw [hf] at hb; cases hb), (by rw [hf]; exact List.nodup_nil), (fun B I _ b _ hb => by unfold feet at hb; rw [hf] at hb; cases hb)⟩
theorem Hp.start0 {w : World} : Hp NoB w w [] := Hp.start (fun r h => by cases h) (fun r h => by cases h)
theorem Hp.start1 {w : World} {A : Option Addr} {C : List Value} (h : (Res.rd A C).holds w) : Hp NoB w w [.rd A C] :=
  Hp.start (fun r h => by simp only [List.mem_singleton] at h; exact ⟨_, _, h⟩) (fun r h' => by simp only [List.mem_singleton] at h'; subst h'; exact h)
theorem Hp.start2 {w : World} {A A' : Option Addr} {C C' : List Value} (h : (Res.rd A C).holds w) (h' : (Res.rd A' C').holds w) : Hp NoB w w [.rd A C, .rd A' C'] :=
  Hp.start (fun r hr => by simp only [List.mem_cons, List.not_mem_nil, or_false] at hr; rcases hr with rfl | rfl <;> exact ⟨_, _, rfl⟩) (fun r hr => by simp only [List.mem_cons, List.not_mem_nil, or_false] at hr; rcases hr with rfl | rfl <;> assumption)
theorem Hp.start3 {w : World} {A A' A'' : Option Addr} {C C' C'' : List Value} (h : (Res.rd A C).holds w) (h' : (Res.rd A' C').holds w) (h'' : (Res.rd A'' C'').holds w) : Hp NoB w w [.rd A C, .rd A' C', .rd A'' C''] :=
  Hp.start (fun r hr => by simp only [List.mem_cons, List.not_mem_nil, or_false] at hr; rcases hr with rfl | rfl | rfl <;> exact ⟨_, _, rfl⟩) (fun r hr => by simp only [List.mem_cons, List.not_mem_nil, or_false] at hr; rcases hr with rfl | rfl | rfl <;> assumption)

theorem trod_lt {t : TypeId} {v : Value} {d : DataW H} {ps : List MemPlace} (h : DataW.Trod enc P W 0 spare held t v d ps) : ∀ x ∈ ps, x.block < W.heap.size := by
  obtain ⟨m, hm⟩ := h; exact DataW.trod_lt m _ _ _ hm

/-- Of a list of laid variables, the rest. -/
theorem laid_tail {x : String × DataW Unit} {rest : List (String × DataW Unit)} (h : laidMet P (x :: rest) W) : laidMet P rest W := by
  obtain ⟨ps, hv, hn, hc⟩ := h
  obtain ⟨g, t, cs, fuel, p, q, _, _, _, _, hr, rfl⟩ := hv
  exact ⟨q, hr, (List.nodup_append.1 hn).2.1, fun b off hb => hc b off (by simp [hb])⟩

/-- A laid table of numbers, as a piece that is read. -/
theorem open_tab {name : String} {k : IntKind} {zs : List Int} {g : Nat} (h : Lib.TabIs P W name k zs) (hg : P.globalNamed name = some g) (hz : zs ≠ []) : (Res.rd (some ⟨g, 0, none⟩) (rowC (Eint k) zs)).holds W := by
  have cell : ∀ j v, (rowC (Eint k) zs)[j]? = some v → W.cell? ⟨g, j, none⟩ = some v := by
    intro j v hv
    obtain ⟨i, q, x, rfl, hq, hx, hv⟩ := flat_of_getElem (Eint k) Nat.one_pos zs j v hv
    have hq0 : q = 0 := by have : q < 1 := hq; omega
    subst hq0
    have hi : i < zs.length := (List.getElem?_eq_some_iff.1 hx).1
    have h1 := h.cell hg i hi
    have e1 : zs.getD i 0 = x := by rw [List.getD, hx]; rfl
    have e2 : v = .int k x := by
      have : ([Value.int k x] : List Value)[0]? = some v := hv
      simpa using this.symm
    rw [e1] at h1
    rw [e2, ← h1]
    show W.cell? ⟨g, i * 1 + 0, none⟩ = _
    rw [Nat.mul_one, Nat.add_zero]
  have hlt : g < W.heap.size := by
    cases zs with
    | nil => exact absurd rfl hz
    | cons z zs =>
      have h1 := h.cell hg 0 (by simp)
      unfold World.cell? at h1
      split at h1
      · rename_i hb; exact (Array.getElem?_eq_some_iff.1 hb).1
      · cases h1
  have CC : ∀ w' : World, w'.heap[g]? = W.heap[g]? → Cells (some ⟨g, 0, none⟩) (rowC (Eint k) zs) w' := fun w' hw => .inr ⟨g, 0, rfl, fun j v hj => by
    rw [Nat.zero_add, ← cell j v hj]
    exact World.cell?_of_block (w := W) hw⟩
  have ne : rowC (Eint k) zs ≠ [] := by
    cases zs with
    | nil => exact absurd rfl hz
    | cons z zs => simp [rowC, Eint]
  refine ⟨CC W rfl, ?_, fun w' hw => CC w' (hw g ⟨ne, _, rfl, rfl⟩)⟩
  rintro b ⟨_, a, h1, h2⟩
  cases h1
  rw [← h2]; exact hlt
theorem Hp.start4 {w : World} {A A' A'' B : Option Addr} {C C' C'' D : List Value} (h : (Res.rd A C).holds w) (h' : (Res.rd A' C').holds w) (h'' : (Res.rd A'' C'').holds w) (h4 : (Res.rd B D).holds w) : Hp NoB w w [.rd A C, .rd A' C', .rd A'' C'', .rd B D] :=
  Hp.start (fun r hr => by simp only [List.mem_cons, List.not_mem_nil, or_false] at hr; rcases hr with rfl | rfl | rfl | rfl <;> exact ⟨_, _, rfl⟩) (fun r hr => by simp only [List.mem_cons, List.not_mem_nil, or_false] at hr; rcases hr with rfl | rfl | rfl | rfl <;> assumption)
/-- Pieces that are only read, one by one. -/
inductive Rds (w : World) : List Res → Prop where
  | nil : Rds w []
  | cons {A : Option Addr} {C : List Value} {L : List Res} : (Res.rd A C).holds w → Rds w L → Rds w (.rd A C :: L)
theorem Rds.start {w : World} {L : List Res} (h : Rds w L) : Hp NoB w w L := by
  refine Hp.start ?_ ?_
  · induction h with
    | nil => intro r hr; cases hr
    | cons hx _ ih =>
      intro r hr
      rcases List.mem_cons.1 hr with rfl | hr
      · exact ⟨_, _, rfl⟩
      · exact ih r hr
  · induction h with
    | nil => intro r hr; cases hr
    | cons hx _ ih =>
      intro r hr
      rcases List.mem_cons.1 hr with rfl | hr
      · exact hx
      · exact ih r hr
end
end Go.V
namespace Go.V
open Go
/-- A slice's datum has as many places. -/
theorem slice_len {P : Program} {H : Type} {enc : TypeId × Value → H} {W : World} {spare : Nat → Bool} {held : Bool} {t e : TypeId} {A : Option Addr} {m cap : Nat} {d : DataW H} {ps : List MemPlace} (ht : P.underlying t = some (.slice e)) (hd : DataW.Trod enc P W 0 spare held t (.slice A m cap) d ps) :
    m = 0 ∨ ∃ elems sp, d = .slice elems sp ∧ elems.length = m := by
  obtain ⟨fuel, hf⟩ := hd
  rcases DataW.trod_slice ht hf with ⟨hcs, _⟩ | ⟨x, l, c, elems, rest, n, _, hcs, hx, hb, hl, hm, hlen, hel, _, _⟩
  · simp [Value.cells] at hcs
    exact .inl hcs.2.1
  · simp [Value.cells] at hcs
    obtain ⟨rfl, rfl, rfl⟩ := hcs
    obtain ⟨hx1, _⟩ := Prod.mk.inj hx
    exact .inr ⟨_, _, hx1, by simpa using hlen⟩
end Go.V
