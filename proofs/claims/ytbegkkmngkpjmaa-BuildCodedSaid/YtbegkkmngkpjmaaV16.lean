/- Rows whose elements lead to memory that no one turns any more. -/
import Derived.Test.YtbegkkmngkpjmaaV15
import Derived.LoopN
set_option linter.unusedVariables false
set_option linter.unusedSimpArgs false
namespace Go.V
open Go

def rdp {α : Type} (z : α) (xs : List α) (q : Int) : α := xs.getD q.toNat z

/-- Elements as they lie in memory (δ) and what they say (α). -/
structure Dl (α δ : Type) where
  er : δ → α
  E : El δ
  fr : δ → World → Prop
  bl : δ → Nat → Prop
  def_ : α
  hd : er E.def_ = def_
  st : ∀ d w w', fr d w → (∀ b, bl d b → w'.heap[b]? = w.heap[b]?) → fr d w'

variable {α δ : Type}
def DzI (D : Dl α δ) (F0 : Nat → Prop) (n0 : Nat) (B : Nat → Prop) (ds : List δ) (xs : List α) (w : World) : Prop :=
  (∀ b, B b → F0 b ∨ n0 ≤ b) ∧ ds.map D.er = xs ∧ (∀ d ∈ ds, D.fr d w) ∧ (∀ d ∈ ds, ∀ b, D.bl d b → B b)
abbrev Dz (D : Dl α δ) (F0 : Nat → Prop) (n0 : Nat) (B : Nat → Prop) (ds : List δ) (xs : List α) : Res := .per B (DzI D F0 n0 B ds xs)
def anyB : Nat → Prop := fun _ => True
def orB (A B : Nat → Prop) : Nat → Prop := fun b => A b ∨ B b

section
variable {D : Dl α δ} {F0 : Nat → Prop} {n0 : Nat} {B B' : Nat → Prop} {ds ds' : List δ} {xs ys zs : List α}
  {P : Program} {n : Nat} {Q : Exit → Act → World → Prop} {cs : List Code} {F : List (Nat × Value)} {w w0 : World} {S : Nat → Prop} {L : List Res}
  {ops : Array Oper} {rest : List Oper} {o : Oper} {T : List Nat} {R : List Res}

theorem DzI.st {w' : World} (h : DzI D F0 n0 B ds xs w) (hw : ∀ b, B b → w'.heap[b]? = w.heap[b]?) : DzI D F0 n0 B ds xs w' :=
  ⟨h.1, h.2.1, fun d hd => D.st d w w' (h.2.2.1 d hd) fun b hb => hw b (h.2.2.2 d hd b hb), h.2.2.2⟩
theorem Dz.mk (h : DzI D F0 n0 B ds xs w) (hB : ∀ b, B b → b < w.heap.size) : (Dz D F0 n0 B ds xs).holds w := ⟨h, hB, fun w' hw => h.st hw⟩

/-! ### Pieces that are only read, among the others -/
theorem Hp.addPer (h : Hp S w0 w L) {B : Nat → Prop} {I : World → Prop} (hx : (Res.per B I).holds w) (hb : ∀ b, B b → ¬ feet L b) : Hp S w0 w (L ++ [.per B I]) := by
  have e : feetL (L ++ [Res.per B I]) = feetL L := by rw [feetL_append]; exact List.append_nil _
  refine ⟨h.chg, ?_, ?_, ?_, ?_⟩
  · intro r hr
    rcases List.mem_append.1 hr with hr | hr
    · exact h.ok r hr
    · simp only [List.mem_singleton] at hr; subst hr; exact hx
  · intro b hb'; unfold feet at hb'; rw [e] at hb'; exact h.mine b hb'
  · rw [e]; exact h.nd
  · intro B' I' hm b hb' hf
    unfold feet at hf; rw [e] at hf
    rcases List.mem_append.1 hm with hm | hm
    · exact h.per B' I' hm b hb' hf
    · simp only [List.mem_singleton, Res.per.injEq] at hm
      obtain ⟨rfl, _⟩ := hm
      exact hb b hb' hf
theorem sub_set_none (x : Res) (hx : x.foot = none) : ∀ (L : List Res) (i : Nat), (feetL (L.set i x)).Sublist (feetL L) := by
  intro L
  induction L with
  | nil => intro i; simp [feetL]
  | cons y L ih =>
    intro i
    cases i with
    | zero =>
      simp only [List.set_cons_zero, feetL, List.filterMap_cons, hx]
      split
      · exact List.Sublist.refl _
      · exact List.sublist_cons_self _ _
    | succ i =>
      simp only [List.set_cons_succ, feetL, List.filterMap_cons]
      split
      · exact ih i
      · exact (ih i).cons_cons _
/-- A piece gives way to one that is only read. -/
theorem Hp.setPer (h : Hp S w0 w L) {i : Nat} {r : Res} {B : Nat → Prop} {I : World → Prop} (hi : nth L i = some r) (hx : (Res.per B I).holds w) (hb : ∀ b, B b → r.foot = some b ∨ ¬ feet L b) : Hp S w0 w (upd L i (.per B I)) := by
  rw [nth_eq] at hi
  rw [upd_eq]
  have hil : i < L.length := (List.getElem?_eq_some_iff.1 hi).1
  have sl := sub_set_none (.per B I) rfl L i
  have hm : ∀ s ∈ L.set i (.per B I), s = .per B I ∨ ∃ k, k ≠ i ∧ L[k]? = some s := by
    intro s hs
    obtain ⟨k, hk⟩ := List.mem_iff_getElem?.1 hs
    rw [List.getElem?_set] at hk
    split at hk
    · left
      have : Res.per B I = s := by simpa [hil] using hk
      exact this.symm
    · rename_i hne; exact .inr ⟨k, fun e => hne e.symm, hk⟩
  have hf : ∀ b, feet (L.set i (.per B I)) b → feet L b ∧ r.foot ≠ some b := by
    intro b hb
    refine ⟨sl.subset hb, fun e => ?_⟩
    obtain ⟨s, hs, hsf⟩ := feet_ex hb
    rcases hm s hs with rfl | ⟨k, hki, hk⟩
    · simp [Res.foot] at hsf
    · exact hki (foot_inj h.nd hk hi hsf e)
  refine ⟨h.chg, ?_, fun b hb => h.mine b (hf b hb).1, sl.nodup h.nd, ?_⟩
  · intro s hs
    rcases hm s hs with rfl | ⟨k, _, hk⟩
    · exact hx
    · exact h.ok s (List.mem_of_getElem? hk)
  · intro B' I' hmm b hb' hfb
    have h2 := hf b hfb
    rcases hm _ hmm with e | ⟨k, _, hk⟩
    · cases e
      rcases hb b hb' with h3 | h3
      · exact h2.2 h3
      · exact h3 h2.1
    · exact h.per B' I' (List.mem_of_getElem? hk) b hb' h2.1

/-! ### Rows that lead on -/
theorem Hp.dz (h : Hp S w0 w L) {i : Nat} (hi : nth L i = some (Dz D F0 n0 B ds xs)) : DzI D F0 n0 B ds xs w := (h.ok _ (nth_mem hi)).1
theorem Hp.dze (h : Hp S w0 w L) {i : Nat} (hi : nth L i = some (Dz D F0 n0 B ds xs)) : ds.map D.er = xs := (h.dz hi).2.1
theorem Hp.dzNil (h : Hp S w0 w L) (D : Dl α δ) (F0 : Nat → Prop) (n0 : Nat) : Hp S w0 w (L ++ [Dz D F0 n0 NoB [] []]) :=
  h.addPer (Dz.mk ⟨fun b hb => hb.elim, rfl, fun d hd => by simp at hd, fun d hd => by simp at hd⟩ fun b hb => hb.elim) fun b hb => hb.elim
theorem Hp.dzSub (h : Hp S w0 w L) {i : Nat} (hi : nth L i = some (Dz D F0 n0 B ds xs)) (hs : ∀ d ∈ ds', d ∈ ds) (e : ds'.map D.er = ys) : Hp S w0 w (L ++ [Dz D F0 n0 B ds' ys]) := by
  have k := h.ok _ (nth_mem hi)
  exact h.addPer (Dz.mk ⟨k.1.1, e, fun d hd => k.1.2.2.1 d (hs d hd), fun d hd => k.1.2.2.2 d (hs d hd)⟩ k.2.1) (h.per _ _ (nth_mem hi))
theorem dz_at {q : Int} (e : ds.map D.er = xs) : D.er (rdx D.E ds q) = rdp D.def_ xs q := by
  subst e
  unfold rdx rdp
  rw [List.getD_eq_getElem?_getD, List.getD_eq_getElem?_getD, List.getElem?_map]
  cases ds[q.toNat]? with
  | none => exact D.hd
  | some d => rfl
theorem dz_len (e : ds.map D.er = xs) : xs.length = ds.length := by subst e; exact List.length_map ..
theorem dz_lt {q : Int} (e : ds.map D.er = xs) (h : q < (xs.length : Int)) : q < (ds.length : Int) := by rw [← dz_len e]; exact h
theorem dz_mem {q : Int} (e : ds.map D.er = xs) (h0 : 0 ≤ q) (h1 : q < (xs.length : Int)) : rdx D.E ds q ∈ ds :=
  List.mem_of_getElem? (rdx_at h0 (dz_lt e h1))
theorem Hp.dzOne (h : Hp S w0 w L) {i : Nat} {q : Int} (hi : nth L i = some (Dz D F0 n0 B ds xs)) (hs : ∀ d ∈ ds', d ∈ ds) (e : ds'.map D.er = ys) (h0 : 0 ≤ q) (h1 : q < (ys.length : Int)) :
    Hp S w0 w (L ++ [Dz D F0 n0 B [rdx D.E ds' q] [rdp D.def_ ys q]]) :=
  h.dzSub hi (fun d hd => by simp only [List.mem_singleton] at hd; subst hd; exact hs _ (dz_mem e h0 h1)) (by simp only [List.map_cons, List.map_nil, dz_at e])
theorem dz_self : ∀ d ∈ ds, d ∈ ds := fun _ h => h
theorem dz_take (k : Nat) : ∀ d ∈ ds.take k, d ∈ ds := fun _ h => List.mem_of_mem_take h
theorem dz_drop (k : Nat) : ∀ d ∈ ds.drop k, d ∈ ds := fun _ h => List.mem_of_mem_drop h
theorem dz_dropT {es : List δ} (h : ∀ d ∈ es, d ∈ ds) (k : Nat) : ∀ d ∈ es.drop k, d ∈ ds := fun _ hd => h _ (List.mem_of_mem_drop hd)
theorem dze_take (k : Nat) (e : ds.map D.er = xs) : (ds.take k).map D.er = xs.take k := by rw [List.map_take, e]
theorem dze_drop (k : Nat) (e : ds.map D.er = xs) : (ds.drop k).map D.er = xs.drop k := by rw [List.map_drop, e]
theorem Hp.dzApp (h : Hp S w0 w L) {i j : Nat} (hi : nth L i = some (Dz D F0 n0 B ds xs)) (hj : nth L j = some (Dz D F0 n0 B' ds' ys)) (ez : xs ++ ys = zs) : Hp S w0 w (upd L i (Dz D F0 n0 (orB B B') (ds ++ ds') zs)) := by
  have a := h.ok _ (nth_mem hi)
  have b := h.ok _ (nth_mem hj)
  refine h.setPer hi (Dz.mk ⟨?_, ?_, ?_, ?_⟩ ?_) ?_
  · rintro c (hc | hc)
    · exact a.1.1 c hc
    · exact b.1.1 c hc
  · rw [List.map_append, a.1.2.1, b.1.2.1, ez]
  · intro d hd
    rcases List.mem_append.1 hd with hd | hd
    · exact a.1.2.2.1 d hd
    · exact b.1.2.2.1 d hd
  · intro d hd c hc
    rcases List.mem_append.1 hd with hd | hd
    · exact .inl (a.1.2.2.2 d hd c hc)
    · exact .inr (b.1.2.2.2 d hd c hc)
  · rintro c (hc | hc)
    · exact a.2.1 c hc
    · exact b.2.1 c hc
  · rintro c (hc | hc)
    · exact .inr (h.per _ _ (nth_mem hi) c hc)
    · exact .inr (h.per _ _ (nth_mem hj) c hc)
/-- The blocks come from elsewhere. -/
theorem Hp.dzProv (h : Hp S w0 w L) {i : Nat} {F1 : Nat → Prop} {n1 : Nat} (hi : nth L i = some (Dz D F0 n0 B ds xs)) (hp : ∀ b, F0 b ∨ n0 ≤ b → B b → F1 b ∨ n1 ≤ b) : Hp S w0 w (upd L i (Dz D F1 n1 B ds xs)) := by
  have a := h.ok _ (nth_mem hi)
  exact h.setPer hi (Dz.mk ⟨fun b hb => hp b (a.1.1 b hb) hb, a.1.2⟩ a.2.1) fun b hb => .inr (h.per _ _ (nth_mem hi) b hb)
theorem Lent.dz (h : Hp S w0 w L) (hR : Lent L w T R) {i : Nat} (hi : nth L i = some (Dz D F0 n0 B ds xs)) (hs : ∀ d ∈ ds', d ∈ ds) (e : ds'.map D.er = ys) : Lent L w T (Dz D anyB 0 B ds' ys :: R) := by
  have a := h.ok _ (nth_mem hi)
  exact .cons (Dz.mk ⟨fun b _ => .inl trivial, e, fun d hd => a.1.2.2.1 d (hs d hd), fun d hd => a.1.2.2.2 d (hs d hd)⟩ a.2.1) (fun b hb hf => h.per _ _ (nth_mem hi) b hb (feet_pick_le hf)) hR

/-- What comes back of a callee, some of it only read. -/
theorem Hp.backD (h : Hp S w0 w L) (T : List Nat) {w' : World} {LO : List Res} (h' : Hp (feet (pick L T)) w w' LO)
    (hp : ∀ B I, Res.per B I ∈ LO → ∀ b, B b → feet (pick L T) b ∨ (∃ B' I', Res.per B' I' ∈ L ∧ B' b) ∨ w.heap.size ≤ b) : Hp S w0 w' (mask L T ++ LO) := by
  have hm : ∀ r ∈ mask L T, r = .non ∨ ∃ j, j ∉ T ∧ L[j]? = some r := by
    intro r hr
    obtain ⟨j, hj⟩ := List.mem_iff_getElem?.1 hr
    rw [mask_get] at hj
    split at hj
    · simp only [Option.some.injEq] at hj; exact .inl hj.symm
    · rename_i hn
      by_cases hjl : j < L.length
      · exact .inr ⟨j, fun hjT => hn ⟨hjT, hjl⟩, hj⟩
      · rw [List.getElem?_eq_none (by omega)] at hj; cases hj
  have apart : ∀ (j : Nat) (r : Res), j ∉ T → L[j]? = some r → ∀ g, r.foot = some g → ¬ feet (pick L T) g := by
    intro j r hj hr g hf hb
    obtain ⟨i, hi, s, e, hs⟩ := feet_pick hb
    rw [nth_eq] at e
    have := foot_inj h.nd hr e hf hs
    subst this
    exact hj hi
  have hfm : ∀ b, feet (mask L T) b → feet L b ∧ ¬ feet (pick L T) b := by
    intro b hb
    obtain ⟨r, hr, hf⟩ := feet_ex hb
    rcases hm r hr with rfl | ⟨j, hj, e⟩
    · simp [Res.foot] at hf
    · exact ⟨feet_mem (List.mem_of_getElem? e) hf, apart j r hj e b hf⟩
  have hfa : ∀ b, feet (mask L T ++ LO) b → feet (mask L T) b ∨ feet LO b := by
    intro b hb
    obtain ⟨r, hr, hf⟩ := feet_ex hb
    rcases List.mem_append.1 hr with hr | hr
    · exact .inl (feet_mem hr hf)
    · exact .inr (feet_mem hr hf)
  refine ⟨?_, ?_, ?_, ?_, ?_⟩
  · refine ⟨h'.chg.os.trans h.chg.os, h'.chg.tape.trans h.chg.tape, h'.chg.output.trans h.chg.output, Nat.le_trans h.chg.size h'.chg.size, fun k hk hs => ?_⟩
    refine (h'.chg.block k (Nat.lt_of_lt_of_le hk h.chg.size) fun e => ?_).trans (h.chg.block k hk hs)
    rcases h.mine k (feet_pick_le e) with h1 | h1
    · exact hs h1
    · omega
  · intro r hr
    rcases List.mem_append.1 hr with hr | hr
    · rcases hm r hr with rfl | ⟨j, hj, e⟩
      · trivial
      · have hL := List.mem_of_getElem? e
        refine Res.holds_of_foot h'.chg.size (h.ok r hL) (fun g hg => h'.chg.block g (holds_foot_lt (h.ok r hL) hg) (apart j r hj e g hg)) ?_
        intro B I e2 b hb
        subst e2
        exact h'.chg.block b ((h.ok _ hL).2.1 b hb) fun hf => h.per B I hL b hb (feet_pick_le hf)
    · exact h'.ok r hr
  · intro b hb
    rcases hfa b hb with h1 | h1
    · exact h.mine b (hfm b h1).1
    · rcases h'.mine b h1 with h2 | h2
      · exact h.mine b (feet_pick_le h2)
      · exact .inr (Nat.le_trans h.chg.size h2)
  · rw [feetL_append]
    refine List.nodup_append.2 ⟨?_, h'.nd, ?_⟩
    · have sub : ∀ (T : List Nat) (L : List Res), (feetL (mask L T)).Sublist (feetL L) := by
        intro T
        induction T with
        | nil => intro L; exact List.Sublist.refl _
        | cons i T ih => intro L; simp only [mask, upd_eq]; exact (ih _).trans (sub_set_none .non rfl L i)
      exact (sub T L).nodup h.nd
    · intro a ha b hb e
      subst e
      have h1 := hfm a ha
      rcases h'.mine a hb with h2 | h2
      · exact h1.2 h2
      · have := h.lt h1.1
        omega
  · intro B I hmem b hb hf
    rcases List.mem_append.1 hmem with hmem | hmem
    · rcases hm _ hmem with e | ⟨j, hj, e⟩
      · cases e
      · have hL := List.mem_of_getElem? e
        rcases hfa b hf with h1 | h1
        · exact h.per B I hL b hb (hfm b h1).1
        · rcases h'.mine b h1 with h2 | h2
          · exact h.per B I hL b hb (feet_pick_le h2)
          · have := (h.ok _ hL).2.1 b hb
            omega
    · rcases hfa b hf with h1 | h1
      · rcases hp B I hmem b hb with h2 | ⟨B', I', h2, h3⟩ | h2
        · exact (hfm b h1).2 h2
        · exact h.per B' I' h2 b h3 (hfm b h1).1
        · have := h.lt (hfm b h1).1; omega
      · exact h'.per B I hmem b hb h1

/-! ### Cells of such rows -/
theorem dz_cell {f : α → Value} {q : Int} (j : Nat) (hf : ∀ d, (D.E.enc d)[j]? = some (f (D.er d))) (e : ds.map D.er = xs) (h0 : 0 ≤ q) (h1 : q < (xs.length : Int)) : (rowC D.E ds)[q.toNat * D.E.sz + j]? = some (f (rdp D.def_ xs q)) := by
  rw [← dz_at e]; exact rowC_cell h0 (dz_lt e h1) (hf _)
theorem dz_cell0 {f : α → Value} {q : Int} (hf : ∀ d, (D.E.enc d)[0]? = some (f (D.er d))) (e : ds.map D.er = xs) (h0 : 0 ≤ q) (h1 : q < (xs.length : Int)) : (rowC D.E ds)[q.toNat * D.E.sz]? = some (f (rdp D.def_ xs q)) := dz_cell 0 hf e h0 h1
theorem dz_ne {q : Int} (e : ds.map D.er = xs) (h0 : 0 ≤ q) (h1 : q < (xs.length : Int)) (hs : 0 < D.E.sz) : rowC D.E ds ≠ [] := rowC_ne h0 (dz_lt e h1) hs
theorem O_loadElD {x : Operand} {t : TypeId} {A : Option Addr} {q : Int} (ho : o.op = .load t x) (hx : ev F x = some (.pointer (adr A (q.toNat * D.E.sz)))) (hT : Wide P t D.E.sz) (hC : Cells A (rowC D.E ds) w) (e : ds.map D.er = xs) (h0 : 0 ≤ q) (h1 : q < (xs.length : Int)) (hs : 0 < D.E.sz) : OpVal P o F w (.agg (D.E.enc (rdx D.E ds q)).toArray) :=
  O_loadEl ho hx hT hC h0 (dz_lt e h1) hs
/-- A field of an element in a slot. -/
theorem dz_fld {f : α → Value} {d : δ} {x : α} (j : Nat) (hf : ∀ d, (D.E.enc d)[j]? = some (f (D.er d))) (e : [d].map D.er = [x]) : (D.E.enc d).toArray[j]? = some (f x) := by
  have : D.er d = x := by simpa using e
  rw [← this]; simpa using hf d
theorem one_er {d : δ} {x : α} {er : δ → α} (e : [d].map er = [x]) : er d = x := by simpa using e
theorem F_appD {x y : Operand} {t te : TypeId} {d i c2 cap bytes : Nat} {A A2 : Option Addr} {z : Value} (hgd : o.guard = none) (hd : o.dst = some d) (hn : Nat.ble (d + 1) n = true)
    (ho : o.op = .call { callee := .builtin .append, args := #[x, y], argTypes := #[t, t] }) (ht : P.underlying t = some (.slice te)) (hinf : (P.info? te).map (fun i => (i.zero, i.size, i.bytes)) = some (some z, D.E.sz, bytes)) (hz : z.cells.toList = D.E.enc D.E.def_) (h0 : 0 < D.E.sz) (hb : 0 < bytes)
    (hx : ev F x = some (.slice A xs.length cap)) (hy : ev F y = some (.slice A2 ys.length c2)) (HS : Hp S w0 w L) (hi : nth L i = some (.own A cap (rowC D.E ds) te D.E.sz)) (ex : ds.map D.er = xs) (ey : ds'.map D.er = ys) (hnews : Cells A2 (rowC D.E ds') w) (ez : xs ++ ys = zs) (hbytes : (zs.length : Int) * bytes ≤ 140737488355328)
    (K : ∀ w' A' cap', Hp S w0 w' (upd L i (.own A' cap' (rowC D.E (ds ++ ds')) te D.E.sz)) → wpF P n ops Q rest ((d, .slice A' zs.length cap') :: F) w') : wpF P n ops Q (o :: rest) F w := by
  subst ex; subst ey; subst ez
  rw [List.length_map] at hx hy
  refine F_appE hgd hd hn ho ht hinf hz h0 hb hx hy HS hi hnews rfl (by rw [List.length_append] at hbytes ⊢; rw [List.length_map, List.length_map] at hbytes; exact hbytes) fun w' A' cap' h => ?_
  have := K w' A' cap' h
  rwa [List.length_append, List.length_map, List.length_map, ← List.length_append] at this
end

/-! ### Elements with one slice of plain things -/
/-- d = (what it says, where its slice lies, the slice's room). -/
def ndl {α β : Type} (E : El (α × Option Addr × Nat)) (E' : El β) (sl : α → List β) (hdf : sl E.def_.1 = []) : Dl α (α × Option Addr × Nat) where
  er d := d.1
  E := E
  fr d w := (sl d.1).length ≤ d.2.2 ∧ Cells d.2.1 (rowC E' (sl d.1)) w
  bl d := blk d.2.1 (rowC E' (sl d.1))
  def_ := E.def_.1
  hd := rfl
  st d w w' h hw := by
    refine ⟨h.1, ?_⟩
    rcases h.2 with h | ⟨b, o, e, hc⟩
    · exact .inl h
    · refine .inr ⟨b, o, e, fun j v hj => ?_⟩
      rw [← hc j v hj]
      exact World.cell?_of_block (a := ⟨b, o + j, none⟩) (hw b ⟨(fun e2 => by rw [e2] at hj; cases hj), _, e, rfl⟩)

section
variable {α β : Type} {E : El (α × Option Addr × Nat)} {E' : El β} {sl : α → List β} {hdf : sl E.def_.1 = []} {F0 : Nat → Prop} {n0 : Nat} {B : Nat → Prop} {w w0 : World} {S : Nat → Prop} {L : List Res} {x : α} {A : Option Addr} {cap : Nat} {l : List β} {T : List Nat} {R : List Res}
/-- The slice of an element, as a piece that is read. -/
theorem Hp.ndRd (h : Hp S w0 w L) {i : Nat} {d : α × Option Addr × Nat} (hi : nth L i = some (Dz (ndl E E' sl hdf) F0 n0 B [d] [x])) (e : sl x = l) : Hp S w0 w (L ++ [.rd d.2.1 (rowC E' l)]) := by
  subst e
  have k := h.ok _ (nth_mem hi)
  have e1 : d.1 = x := one_er k.1.2.1
  subst e1
  have hc := (k.1.2.2.1 d (by simp)).2
  exact h.addPer hc.per fun b hb => h.per _ _ (nth_mem hi) b (k.1.2.2.2 d (by simp) b hb)
theorem Hp.ndCap (h : Hp S w0 w L) {i : Nat} {d : α × Option Addr × Nat} (hi : nth L i = some (Dz (ndl E E' sl hdf) F0 n0 B [d] [x])) (e : sl x = l) : l.length ≤ d.2.2 := by
  subst e
  have k := h.ok _ (nth_mem hi)
  have e1 : d.1 = x := one_er k.1.2.1
  subst e1
  exact (k.1.2.2.1 d (by simp)).1
theorem Hp.ndE (h : Hp S w0 w L) {i : Nat} {d : α × Option Addr × Nat} (hi : nth L i = some (Dz (ndl E E' sl hdf) F0 n0 B [d] [x])) : d.1 = x := by
  exact one_er (h.dz hi).2.1
/-- A row of one's own becomes an element's. -/
theorem Hp.ndFreeze (h : Hp S w0 w L) {i : Nat} {t : TypeId} (x : α) (e : sl x = l) (hi : nth L i = some (.own A cap (rowC E' l) t E'.sz)) (h0 : 0 < E'.sz) (hS : ∀ b, S b → F0 b ∨ n0 ≤ b) (hn : n0 ≤ w0.heap.size) :
    Hp S w0 w (upd L i (Dz (ndl E E' sl hdf) F0 n0 (blk A (rowC E' l)) [(x, A, cap)] [x])) := by
  subst e
  have hc := h.cells_own hi
  have hcap := h.own_capE hi h0
  have hper : (Res.rd A (rowC E' (sl x))).holds w := hc.per
  refine h.setPer hi (Dz.mk ⟨?_, rfl, ?_, ?_⟩ hper.2.1) ?_
  · intro b hb
    obtain ⟨hne, a, rfl, rfl⟩ := hb
    have hf : feet L a.block := feet_mem (nth_mem hi) rfl
    rcases h.mine _ hf with h1 | h1
    · exact hS _ h1
    · exact .inr (Nat.le_trans hn h1)
  · intro d hd
    simp only [List.mem_singleton] at hd
    subst hd
    exact ⟨hcap, hc⟩
  · intro d hd b hb
    simp only [List.mem_singleton] at hd
    subst hd
    exact hb
  · intro b hb
    obtain ⟨hne, a, rfl, rfl⟩ := hb
    exact .inl rfl
end
end Go.V
namespace Go.V
open Go
/-! ### Rows that are given back to be read -/
def RzI (F0 : Nat → Prop) (n0 : Nat) (A : Option Addr) (C : List Value) (w : World) : Prop := (∀ b, blk A C b → F0 b ∨ n0 ≤ b) ∧ Cells A C w
abbrev Rz (F0 : Nat → Prop) (n0 : Nat) (A : Option Addr) (C : List Value) : Res := .per (blk A C) (RzI F0 n0 A C)
section
variable {F0 : Nat → Prop} {n0 : Nat} {w w0 : World} {S : Nat → Prop} {L : List Res} {A A' : Option Addr} {C C' : List Value}
theorem Rz.mk (h : ∀ b, blk A C b → F0 b ∨ n0 ≤ b) (hc : Cells A C w) : (Rz F0 n0 A C).holds w :=
  ⟨⟨h, hc⟩, hc.per.2.1, fun w' hw => ⟨h, hc.per.2.2 w' hw⟩⟩
theorem Hp.cells_rz (h : Hp S w0 w L) {i : Nat} (hi : nth L i = some (Rz F0 n0 A C)) : Cells A C w := (h.ok _ (nth_mem hi)).1.2
theorem Hp.rzP (h : Hp S w0 w L) {i : Nat} (hi : nth L i = some (Rz F0 n0 A C)) : ∀ b, blk A C b → F0 b ∨ n0 ≤ b := (h.ok _ (nth_mem hi)).1.1
theorem Hp.ownRz (h : Hp S w0 w L) {i cap : Nat} {t : TypeId} {sz : Nat} (hi : nth L i = some (.own A cap C t sz)) (hS : ∀ b, S b → F0 b ∨ n0 ≤ b) (hn : n0 ≤ w0.heap.size) : Hp S w0 w (upd L i (Rz F0 n0 A C)) := by
  refine h.setPer hi (Rz.mk ?_ (h.cells_own hi)) ?_
  · rintro b ⟨_, a, rfl, rfl⟩
    rcases h.mine _ (feet_mem (nth_mem hi) rfl) with h1 | h1
    · exact hS _ h1
    · exact .inr (Nat.le_trans hn h1)
  · rintro b ⟨_, a, rfl, rfl⟩
    exact .inl rfl
theorem Hp.rzSub (h : Hp S w0 w L) {i : Nat} (hi : nth L i = some (Rz F0 n0 A C)) (hs : Sub A C A' C') : Hp S w0 w (L ++ [Rz F0 n0 A' C']) :=
  h.addPer (Rz.mk (fun b hb => h.rzP hi b (hs.blk hb)) ((h.cells_rz hi).sub hs)) fun b hb => h.per _ _ (nth_mem hi) b (hs.blk hb)
theorem Hp.rzRd (h : Hp S w0 w L) {i : Nat} (hi : nth L i = some (Rz F0 n0 A C)) : Hp S w0 w (upd L i (.rd A C)) :=
  h.setPer hi (h.cells_rz hi).per fun b hb => .inr (h.per _ _ (nth_mem hi) b hb)
end
/-- Whence the blocks of what comes back are. -/
inductive Pv (Z : Nat → Prop) (n : Nat) : List Res → Prop where
  | nil : Pv Z n []
  | non {L : List Res} : Pv Z n L → Pv Z n (.non :: L)
  | box {g : Nat} {C : List Value} {t : TypeId} {L : List Res} : Pv Z n L → Pv Z n (.box g C t :: L)
  | own {A : Option Addr} {cap : Nat} {C : List Value} {t : TypeId} {sz : Nat} {L : List Res} : Pv Z n L → Pv Z n (.own A cap C t sz :: L)
  | per {B : Nat → Prop} {I : World → Prop} {L : List Res} : (∀ b, B b → Z b ∨ n ≤ b) → Pv Z n L → Pv Z n (.per B I :: L)
theorem Pv.rz {Z F0 : Nat → Prop} {n n0 : Nat} {A : Option Addr} {C : List Value} {L : List Res} (h : ∀ b, blk A C b → Z b ∨ n ≤ b) (k : Pv Z n L) : Pv Z n (Rz F0 n0 A C :: L) := .per h k
theorem Pv.spec {Z : Nat → Prop} {n : Nat} {L : List Res} (h : Pv Z n L) : ∀ B I, Res.per B I ∈ L → ∀ b, B b → Z b ∨ n ≤ b := by
  induction h with
  | nil => intro B I hm; cases hm
  | non _ ih => intro B I hm; exact ih B I (by simpa using hm)
  | box _ ih => intro B I hm; exact ih B I (by simpa using hm)
  | own _ ih => intro B I hm; exact ih B I (by simpa using hm)
  | per h1 _ ih =>
    intro B I hm b hb
    rcases List.mem_cons.1 hm with e | hm
    · cases e; exact h1 b hb
    · exact ih B I hm b hb
theorem Pv.backG {Z : Nat → Prop} {w : World} {L LO : List Res} {T : List Nat} (h : Pv Z w.heap.size LO) (hz : ∀ b, Z b → feet (pick L T) b ∨ ∃ B' I', Res.per B' I' ∈ L ∧ B' b) : ∀ B I, Res.per B I ∈ LO → ∀ b, B b → feet (pick L T) b ∨ (∃ B' I', Res.per B' I' ∈ L ∧ B' b) ∨ w.heap.size ≤ b := fun B I hm b hb =>
  (h.spec B I hm b hb).elim (fun h => (hz b h).imp id .inl) (fun h => .inr (.inr h))
theorem Pv.back {w : World} {L LO : List Res} {T : List Nat} (h : Pv (feet (pick L T)) w.heap.size LO) : ∀ B I, Res.per B I ∈ LO → ∀ b, B b → feet (pick L T) b ∨ (∃ B' I', Res.per B' I' ∈ L ∧ B' b) ∨ w.heap.size ≤ b := fun B I hm b hb => (h.spec B I hm b hb).imp id .inr
end Go.V
namespace Go.V
open Go
/-! ### Loops of a known number of rounds; numbers of which there are few -/
section
variable {P : Program} {n : Nat} {Q : Exit → Act → World → Prop} {cs : List Code} {F : List (Nat × Value)} {w w0 : World} {c : Code}
def wpR (P : Program) (n : Nat) (Q : Exit → Act → World → Prop) (c : Code) (m : Nat) (F : List (Nat × Value)) (w : World) : Prop := ∀ a, Is n a F → Code.rounds P c Q m a w
theorem L_rounds (m : Nat) (h : ∀ Q' : Exit → Act → World → Prop, (∀ e a w, onB e = true → Q e a w → Q' e a w) → wpR P n Q' c m F w) : wpLF P n Q (.loop c :: cs) F w := by
  intro a ha
  exact wp_loop_rounds m (h (Exit.then (wpL P Q cs) Q) (fun e a w he hq => by cases e <;> first | exact hq | cases he) a ha)
theorem R_step {m : Nat} (h : ∀ Q' : Exit → Act → World → Prop, (∀ a w, Code.rounds P c Q m a w → Q' .normal a w) → (∀ e a w, onB e = true → Q e a w → Q' e a w) → wpLF P n Q' [c] F w) : wpR P n Q c (m + 1) F w := by
  intro a ha
  have := h (Exit.then (Code.rounds P c Q m) Q) (fun a w h => h) (fun e a w he hq => by cases e <;> first | exact hq | cases he) a ha
  simp only [wpL] at this
  rw [rounds_succ]
  refine wp_mono this ?_
  intro e a w h
  cases e <;> exact h
theorem L_endR {Q' : Exit → Act → World → Prop} {m : Nat} (hN : ∀ a w, Code.rounds P c Q m a w → Q' .normal a w) (h : wpR P n Q c m F w) : wpLF P n Q' [] F w := fun a ha => hN a w (h a ha)
end
end Go.V
namespace Go.V
open Go
section
variable {α β : Type} {E : El (α × Option Addr × Nat)} {E' : El β} {sl : α → List β} {hdf : sl E.def_.1 = []} {D : Dl α (α × Option Addr × Nat)} {ds : List (α × Option Addr × Nat)} {xs : List α}
theorem dz_cellS {f : α → Option Addr → Nat → Value} {q : Int} (j : Nat) (hf : ∀ d, (D.E.enc d)[j]? = some (f d.1 d.2.1 d.2.2)) (he : D.er = Prod.fst) (e : ds.map D.er = xs) (h0 : 0 ≤ q) (h1 : q < (xs.length : Int)) :
    (rowC D.E ds)[q.toNat * D.E.sz + j]? = some (f (rdp D.def_ xs q) (rdx D.E ds q).2.1 (rdx D.E ds q).2.2) := by
  have e2 : (rdx D.E ds q).1 = rdp D.def_ xs q := by have := dz_at (q := q) e; rwa [he] at this
  rw [← e2]; exact rowC_cell h0 (dz_lt e h1) (hf _)
theorem dz_cellS0 {f : α → Option Addr → Nat → Value} {q : Int} (hf : ∀ d, (D.E.enc d)[0]? = some (f d.1 d.2.1 d.2.2)) (he : D.er = Prod.fst) (e : ds.map D.er = xs) (h0 : 0 ≤ q) (h1 : q < (xs.length : Int)) :
    (rowC D.E ds)[q.toNat * D.E.sz]? = some (f (rdp D.def_ xs q) (rdx D.E ds q).2.1 (rdx D.E ds q).2.2) := dz_cellS 0 hf he e h0 h1
theorem dz_fldS {f : α → Option Addr → Nat → Value} {d : α × Option Addr × Nat} {x : α} (j : Nat) (hf : ∀ d, (D.E.enc d)[j]? = some (f d.1 d.2.1 d.2.2)) (he : D.er = Prod.fst) (e : [d].map D.er = [x]) : (D.E.enc d).toArray[j]? = some (f x d.2.1 d.2.2) := by
  have : d.1 = x := by rw [he] at e; simpa using e
  rw [← this]; simpa using hf d
end
end Go.V
namespace Go.V
open Go
/-! ### Slices that are read, each with its room -/
def RdcI (n cap : Nat) (A : Option Addr) (C : List Value) (w : World) : Prop := n ≤ cap ∧ Cells A C w
abbrev Rdc (n cap : Nat) (A : Option Addr) (C : List Value) : Res := .per (blk A C) (RdcI n cap A C)
section
variable {n cap n' cap' : Nat} {w w0 : World} {S : Nat → Prop} {L : List Res} {A A' : Option Addr} {C C' : List Value} {T : List Nat} {R : List Res}
theorem Rdc.mk (h : n ≤ cap) (hc : Cells A C w) : (Rdc n cap A C).holds w := ⟨⟨h, hc⟩, hc.per.2.1, fun w' hw => ⟨h, hc.per.2.2 w' hw⟩⟩
theorem Hp.cells_rdc (h : Hp S w0 w L) {i : Nat} (hi : nth L i = some (Rdc n cap A C)) : Cells A C w := (h.ok _ (nth_mem hi)).1.2
theorem Hp.rdc_cap (h : Hp S w0 w L) {i : Nat} (hi : nth L i = some (Rdc n cap A C)) : n ≤ cap := (h.ok _ (nth_mem hi)).1.1
theorem Hp.ownRdc (h : Hp S w0 w L) {i cap0 : Nat} {t : TypeId} {sz : Nat} (hi : nth L i = some (.own A cap0 C t sz)) (hc : n ≤ cap) : Hp S w0 w (upd L i (Rdc n cap A C)) :=
  h.setPer hi (Rdc.mk hc (h.cells_own hi)) (by rintro b ⟨_, a, rfl, rfl⟩; exact .inl rfl)
theorem Hp.addRdc (h : Hp S w0 w L) {i : Nat} (hi : nth L i = some (.rd A C)) (hs : Sub A C A' C') (hc : n' ≤ cap') : Hp S w0 w (L ++ [Rdc n' cap' A' C']) :=
  h.addPer (Rdc.mk hc ((h.cells_rd hi).sub hs)) fun b hb => h.per _ _ (nth_mem hi) b (hs.blk hb)
theorem Hp.rdcSub (h : Hp S w0 w L) {i : Nat} (hi : nth L i = some (Rdc n cap A C)) (hs : Sub A C A' C') (hc : n' ≤ cap') : Hp S w0 w (L ++ [Rdc n' cap' A' C']) :=
  h.addPer (Rdc.mk hc ((h.cells_rdc hi).sub hs)) fun b hb => h.per _ _ (nth_mem hi) b (hs.blk hb)
theorem Lent.rdc (h : Hp S w0 w L) (hR : Lent L w T R) {i : Nat} (hi : nth L i = some (Rdc n cap A C)) (hs : Sub A C A' C') : Lent L w T (.rd A' C' :: R) :=
  .cons ((h.cells_rdc hi).sub hs).per (fun b hb hf => h.per _ _ (nth_mem hi) b (hs.blk hb) (feet_pick_le hf)) hR
end
theorem dz_capx {α δ : Type} {er : δ → α} {ds : List δ} {xs : List α} {c : Nat} (e : ds.map er = xs) (h : ds.length ≤ c) : xs.length ≤ c := by subst e; rwa [List.length_map]
theorem dz_cap {α δ : Type} {er : δ → α} {ds : List δ} {xs : List α} {c : Nat} (e : ds.map er = xs) (h : xs.length ≤ c) : ds.length ≤ c := by subst e; rwa [List.length_map] at h
end Go.V
namespace Go.V
open Go
/-! ### Coins: a leaf, or a package of two that lie in a box -/
inductive Co where
  | leaf (w s : Int)
  | pack (w s : Int) (a b : Co)
inductive DC where
  | leaf (w s : Int)
  | pack (w s : Int) (g : Nat) (a b : DC)
def Co.w : Co → Int | .leaf w _ => w | .pack w _ _ _ => w
def Co.s : Co → Int | .leaf _ s => s | .pack _ s _ _ => s
def DC.w : DC → Int | .leaf w _ => w | .pack w _ _ _ _ => w
def DC.s : DC → Int | .leaf _ s => s | .pack _ s _ _ _ => s
def DC.p : DC → Option Addr | .leaf _ _ => none | .pack _ _ g _ _ => some ⟨g, 0, none⟩
def DC.er : DC → Co | .leaf w s => .leaf w s | .pack w s _ a b => .pack w s a.er b.er
def E_coin : El DC := ⟨fun d => [.int .i64 d.w, .int .i64 d.s, .pointer d.p], 3, fun _ => rfl, .leaf 0 0, fun d v h => by
  simp only [List.mem_cons, List.not_mem_nil, or_false] at h
  rcases h with rfl | rfl | rfl <;> rfl⟩
def DC.bl : DC → Nat → Prop | .leaf _ _ => fun _ => False | .pack _ _ g a b => fun k => k = g ∨ a.bl k ∨ b.bl k
def DC.fr : DC → World → Prop | .leaf _ _ => fun _ => True | .pack _ _ g a b => fun w => Cells (some ⟨g, 0, none⟩) (E_coin.enc a ++ E_coin.enc b) w ∧ a.fr w ∧ b.fr w
theorem DC.st : ∀ (d : DC) (w w' : World), d.fr w → (∀ b, d.bl b → w'.heap[b]? = w.heap[b]?) → d.fr w'
  | .leaf _ _, _, _, _, _ => trivial
  | .pack _ _ g a b, w, w', h, hw => by
    refine ⟨?_, DC.st a w w' h.2.1 fun k hk => hw k (.inr (.inl hk)), DC.st b w w' h.2.2 fun k hk => hw k (.inr (.inr hk))⟩
    rcases h.1 with h1 | ⟨b', o, e, hc⟩
    · exact .inl h1
    · cases e
      refine .inr ⟨_, _, rfl, fun j v hj => ?_⟩
      rw [← hc j v hj]
      exact World.cell?_of_block (a := ⟨g, 0 + j, none⟩) (hw g (.inl rfl))
def D_coin : Dl Co DC where
  er := DC.er
  E := E_coin
  fr := DC.fr
  bl := DC.bl
  def_ := .leaf 0 0
  hd := rfl
  st := DC.st
theorem co_w : ∀ d : DC, (D_coin.E.enc d)[0]? = some ((fun x : Co => Value.int .i64 x.w) (D_coin.er d)) := fun d => by cases d <;> rfl
theorem co_s : ∀ d : DC, (D_coin.E.enc d)[1]? = some ((fun x : Co => Value.int .i64 x.s) (D_coin.er d)) := fun d => by cases d <;> rfl
section
variable {F0 : Nat → Prop} {n0 : Nat} {B B1 B2 : Nat → Prop} {w w0 : World} {S : Nat → Prop} {L : List Res}
theorem Hp.coLeaf (h : Hp S w0 w L) (F0 : Nat → Prop) (n0 : Nat) (x y : Int) : Hp S w0 w (L ++ [Dz D_coin F0 n0 NoB [.leaf x y] [.leaf x y]]) :=
  h.addPer (Dz.mk ⟨fun b hb => hb.elim, rfl, fun d hd => by simp only [List.mem_singleton] at hd; subst hd; exact trivial, fun d hd b hb => by simp only [List.mem_singleton] at hd; subst hd; exact hb⟩ fun b hb => hb.elim) fun b hb => hb.elim
theorem Hp.coPack (h : Hp S w0 w L) {i j k g : Nat} {t : TypeId} {d1 d2 : DC} {x1 x2 : Co} (x y : Int) (hi : nth L i = some (.box g (E_coin.enc d1 ++ E_coin.enc d2) t)) (hj : nth L j = some (Dz D_coin F0 n0 B1 [d1] [x1])) (hk : nth L k = some (Dz D_coin F0 n0 B2 [d2] [x2]))
    (hS : ∀ b, S b → F0 b ∨ n0 ≤ b) (hn : n0 ≤ w0.heap.size) : Hp S w0 w (upd L i (Dz D_coin F0 n0 (orB (fun b => b = g) (orB B1 B2)) [.pack x y g d1 d2] [.pack x y x1 x2])) := by
  have a := h.ok _ (nth_mem hj)
  have b := h.ok _ (nth_mem hk)
  have hc := h.cells_box hi
  have e1 : DC.er d1 = x1 := one_er a.1.2.1
  have e2 : DC.er d2 = x2 := one_er b.1.2.1
  have fg : feet L g := feet_mem (nth_mem hi) rfl
  refine h.setPer hi (Dz.mk ⟨?_, ?_, ?_, ?_⟩ ?_) ?_
  · rintro c (hc | hc | hc)
    · have hc : c = g := hc
      subst hc
      rcases h.mine _ fg with h1 | h1
      · exact hS _ h1
      · exact .inr (Nat.le_trans hn h1)
    · exact a.1.1 c hc
    · exact b.1.1 c hc
  · show [DC.er (.pack x y g d1 d2)] = [Co.pack x y x1 x2]
    rw [DC.er, e1, e2]
  · intro d hd
    simp only [List.mem_singleton] at hd
    subst hd
    exact ⟨hc, a.1.2.2.1 d1 (by simp), b.1.2.2.1 d2 (by simp)⟩
  · intro d hd c hc
    simp only [List.mem_singleton] at hd
    subst hd
    rcases hc with hc | hc | hc
    · exact .inl hc
    · exact .inr (.inl (a.1.2.2.2 d1 (by simp) c hc))
    · exact .inr (.inr (b.1.2.2.2 d2 (by simp) c hc))
  · rintro c (hc | hc | hc)
    · have hc : c = g := hc
      subst hc; exact h.lt fg
    · exact a.2.1 c hc
    · exact b.2.1 c hc
  · rintro c (hc | hc | hc)
    · have hc : c = g := hc
      subst hc; exact .inl rfl
    · exact .inr (h.per _ _ (nth_mem hj) c hc)
    · exact .inr (h.per _ _ (nth_mem hk) c hc)
end
end Go.V
