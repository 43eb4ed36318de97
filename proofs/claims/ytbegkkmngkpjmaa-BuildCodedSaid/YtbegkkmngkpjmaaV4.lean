/- Picking pieces, handing them to a callee and taking them back. -/
import Derived.Test.YtbegkkmngkpjmaaV3
set_option linter.unusedVariables false
set_option linter.unusedSimpArgs false
namespace Go.V
open Go

def nin (i : Nat) : List Nat → Bool
  | [] => true
  | j :: is => match Nat.beq j i with | true => false | false => nin i is
def nodupB : List Nat → Bool
  | [] => true
  | i :: is => match nin i is with | true => nodupB is | false => false
theorem nin_iff {i : Nat} {is : List Nat} : nin i is = true ↔ i ∉ is := by
  induction is with
  | nil => simp [nin]
  | cons j is ih =>
    simp only [nin, List.mem_cons, not_or]
    by_cases h : j = i
    · subst h; simp
    · have hb : Nat.beq j i = false := by
        cases hb : Nat.beq j i with
        | false => rfl
        | true => exact absurd (Nat.eq_of_beq_eq_true hb) h
      simp only [hb, ih]
      exact ⟨fun h1 => ⟨fun e => h e.symm, h1⟩, fun h1 => h1.2⟩
theorem nodupB_iff {is : List Nat} : nodupB is = true ↔ is.Nodup := by
  induction is with
  | nil => simp [nodupB]
  | cons i is ih =>
    simp only [nodupB, List.nodup_cons]
    cases hn : nin i is with
    | true => simp [ih, nin_iff.1 hn]
    | false =>
      have : ¬ i ∉ is := fun h => by rw [nin_iff.2 h] at hn; cases hn
      simp [this]

def pickOne (L : List Res) (i : Nat) : Res := match nth L i with | some r => r | none => .non
def pick (L : List Res) : List Nat → List Res
  | [] => []
  | i :: is => pickOne L i :: pick L is
def mask (L : List Res) : List Nat → List Res
  | [] => L
  | i :: is => mask (upd L i .non) is

theorem mem_pick {L : List Res} {is : List Nat} {r : Res} (h : r ∈ pick L is) : r = .non ∨ ∃ i ∈ is, nth L i = some r := by
  induction is with
  | nil => simp [pick] at h
  | cons i is ih =>
    simp only [pick, List.mem_cons] at h
    rcases h with h | h
    · unfold pickOne at h
      split at h
      · rename_i r' e; subst h; exact .inr ⟨i, by simp, e⟩
      · exact .inl h
    · rcases ih h with h1 | ⟨j, hj, h1⟩
      · exact .inl h1
      · exact .inr ⟨j, List.mem_cons_of_mem _ hj, h1⟩

theorem mask_get (L : List Res) (is : List Nat) (j : Nat) : (mask L is)[j]? = if j ∈ is ∧ j < L.length then some .non else L[j]? := by
  induction is generalizing L with
  | nil => simp [mask]
  | cons i is ih =>
    simp only [mask, ih, upd_eq, List.length_set, List.getElem?_set, List.mem_cons]
    by_cases hj : j < L.length
    · by_cases h1 : j ∈ is
      · simp [h1, hj]
      · by_cases h2 : i = j
        · subst h2; simp [h1, hj]
        · have h2' : ¬ j = i := fun e => h2 e.symm
          simp [h1, h2, h2']
    · by_cases h2 : i = j
      · subst h2; simp [hj]
      · simp [hj, h2]

section
variable {S : Nat → Prop} {w0 w : World} {L : List Res}

theorem feet_pick {is : List Nat} {b : Nat} (h : feet (pick L is) b) : ∃ i ∈ is, ∃ r, nth L i = some r ∧ r.foot = some b := by
  obtain ⟨r, hr, hf⟩ := feet_ex h
  rcases mem_pick hr with rfl | ⟨i, hi, e⟩
  · simp [Res.foot] at hf
  · exact ⟨i, hi, r, e, hf⟩
theorem feet_pick_le {is : List Nat} {b : Nat} (h : feet (pick L is) b) : feet L b := by
  obtain ⟨i, _, r, e, hf⟩ := feet_pick h
  exact feet_mem (nth_mem e) hf

theorem nodup_pick (hn : (feetL L).Nodup) : ∀ is : List Nat, is.Nodup → (feetL (pick L is)).Nodup
  | [], _ => by simp [pick, feetL]
  | i :: is, hi => by
    have hi' := List.nodup_cons.1 hi
    have ih := nodup_pick hn is hi'.2
    simp only [pick, feetL, List.filterMap_cons]
    split
    · exact ih
    · rename_i g hg
      refine List.nodup_cons.2 ⟨fun hm => ?_, ih⟩
      obtain ⟨j, hj, r, e, hf⟩ := feet_pick (L := L) (is := is) (b := g) hm
      have : ∃ s, nth L i = some s ∧ s.foot = some g := by
        unfold pickOne at hg
        split at hg
        · rename_i s e; exact ⟨s, e, hg⟩
        · simp [Res.foot] at hg
      obtain ⟨s, e', hs⟩ := this
      rw [nth_eq] at e e'
      have := foot_inj hn e' e hs hf
      subst this
      exact hi'.1 hj

/-- Some of the pieces, in whatever order. -/
theorem Hp.sel (h : Hp S w0 w L) (is : List Nat) (hn : nodupB is = true) : Hp S w0 w (pick L is) := by
  refine ⟨h.chg, ?_, fun b hb => h.mine b (feet_pick_le hb), nodup_pick h.nd is (nodupB_iff.1 hn), ?_⟩
  · intro r hr
    rcases mem_pick hr with rfl | ⟨i, _, e⟩
    · trivial
    · exact h.ok r (nth_mem e)
  · intro B I hm b hb hf
    rcases mem_pick hm with e | ⟨i, _, e⟩
    · cases e
    · exact h.per B I (nth_mem e) b hb (feet_pick_le hf)

/-- What is lent besides: only read, and no block of what is handed over. -/
inductive Lent (L : List Res) (w : World) (T : List Nat) : List Res → Prop where
  | nil : Lent L w T []
  | cons {B : Nat → Prop} {I : World → Prop} {R : List Res} : Res.holds w (.per B I) → (∀ b, B b → ¬ feet (pick L T) b) → Lent L w T R → Lent L w T (.per B I :: R)

theorem Lent.spec {T : List Nat} {R : List Res} (h : Lent L w T R) : ∀ r ∈ R, ∃ B I, r = .per B I ∧ Res.holds w r ∧ ∀ b, B b → ¬ feet (pick L T) b := by
  induction h with
  | nil => intro r hr; cases hr
  | cons h1 h2 _ ih =>
    intro r hr
    rcases List.mem_cons.1 hr with rfl | hr
    · exact ⟨_, _, rfl, h1, h2⟩
    · exact ih r hr

theorem feet_lent {T : List Nat} {R : List Res} (h : Lent L w T R) (X : List Res) (b : Nat) : feet (X ++ R) b ↔ feet X b := by
  constructor
  · intro hb
    obtain ⟨r, hr, hf⟩ := feet_ex hb
    rcases List.mem_append.1 hr with hr | hr
    · exact feet_mem hr hf
    · obtain ⟨B, I, rfl, _⟩ := h.spec r hr
      simp [Res.foot] at hf
  · intro hb
    obtain ⟨r, hr, hf⟩ := feet_ex hb
    exact feet_mem (List.mem_append_left _ hr) hf

theorem feetL_lent {T : List Nat} {R : List Res} (h : Lent L w T R) : feetL R = [] := by
  unfold feetL
  refine List.filterMap_eq_nil_iff.2 fun r hr => ?_
  obtain ⟨B, I, rfl, _⟩ := h.spec r hr
  rfl

/-- What is handed over to a callee. -/
theorem Hp.give (h : Hp S w0 w L) (T : List Nat) (hn : nodupB T = true) {R : List Res} (hR : Lent L w T R) : Hp (feet (pick L T)) w w (pick L T ++ R) := by
  have hs := h.sel T hn
  refine ⟨Chg.refl _ _, ?_, ?_, ?_, ?_⟩
  · intro r hr
    rcases List.mem_append.1 hr with hr | hr
    · exact hs.ok r hr
    · obtain ⟨B, I, rfl, h1, _⟩ := hR.spec r hr
      exact h1
  · intro b hb
    exact .inl ((feet_lent hR _ b).1 hb)
  · rw [feetL_append, feetL_lent hR, List.append_nil]; exact hs.nd
  · intro B I hm b hb hf
    have hf' := (feet_lent hR _ b).1 hf
    rcases List.mem_append.1 hm with hm | hm
    · exact hs.per B I hm b hb hf'
    · obtain ⟨B', I', e, _, h2⟩ := hR.spec _ hm
      cases e
      exact h2 b hb hf'

def noPer : List Res → Bool
  | [] => true
  | .per _ _ :: _ => false
  | _ :: L => noPer L
theorem noPer_spec {L : List Res} (h : noPer L = true) : ∀ B I, Res.per B I ∉ L := by
  induction L with
  | nil => simp
  | cons r L ih =>
    intro B I hm
    cases r with
    | per B' I' => simp [noPer] at h
    | non => exact ih h B I (by simpa using hm)
    | box _ _ _ => exact ih h B I (by simpa using hm)
    | own _ _ _ _ _ => exact ih h B I (by simpa using hm)

/-- What comes back of a callee: it stands behind the others; where the handed pieces stood stands nothing. -/
theorem Hp.back (h : Hp S w0 w L) (T : List Nat) {w' : World} {LO : List Res} (h' : Hp (feet (pick L T)) w w' LO) (hp : noPer LO = true) : Hp S w0 w' (mask L T ++ LO) := by
  have hm : ∀ r ∈ mask L T, r = .non ∨ ∃ j, j ∉ T ∧ L[j]? = some r := by
    intro r hr
    obtain ⟨j, hj⟩ := List.mem_iff_getElem?.1 hr
    rw [mask_get] at hj
    split at hj
    · simp only [Option.some.injEq] at hj; exact .inl hj.symm
    · rename_i hn
      by_cases hjl : j < L.length
      · exact .inr ⟨j, fun hjT => hn ⟨hjT, hjl⟩, hj⟩
      · rw [List.getElem?_eq_none (by omega)] at hj; cases hj
  have apart : ∀ (j : Nat) (r : Res), j ∉ T → L[j]? = some r → ∀ g, r.foot = some g → ¬ feet (pick L T) g := by
    intro j r hj hr g hf hb
    obtain ⟨i, hi, s, e, hs⟩ := feet_pick hb
    rw [nth_eq] at e
    have := foot_inj h.nd hr e hf hs
    subst this
    exact hj hi
  have hfm : ∀ b, feet (mask L T) b → feet L b ∧ ¬ feet (pick L T) b := by
    intro b hb
    obtain ⟨r, hr, hf⟩ := feet_ex hb
    rcases hm r hr with rfl | ⟨j, hj, e⟩
    · simp [Res.foot] at hf
    · exact ⟨feet_mem (List.mem_of_getElem? e) hf, apart j r hj e b hf⟩
  have hfa : ∀ b, feet (mask L T ++ LO) b → feet (mask L T) b ∨ feet LO b := by
    intro b hb
    obtain ⟨r, hr, hf⟩ := feet_ex hb
    rcases List.mem_append.1 hr with hr | hr
    · exact .inl (feet_mem hr hf)
    · exact .inr (feet_mem hr hf)
  refine ⟨?_, ?_, ?_, ?_, ?_⟩
  · refine ⟨h'.chg.os.trans h.chg.os, h'.chg.tape.trans h.chg.tape, h'.chg.output.trans h.chg.output, Nat.le_trans h.chg.size h'.chg.size, fun k hk hs => ?_⟩
    refine (h'.chg.block k (Nat.lt_of_lt_of_le hk h.chg.size) fun e => ?_).trans (h.chg.block k hk hs)
    rcases h.mine k (feet_pick_le e) with h1 | h1
    · exact hs h1
    · omega
  · intro r hr
    rcases List.mem_append.1 hr with hr | hr
    · rcases hm r hr with rfl | ⟨j, hj, e⟩
      · trivial
      · have hL := List.mem_of_getElem? e
        refine Res.holds_of_foot h'.chg.size (h.ok r hL) (fun g hg => h'.chg.block g (holds_foot_lt (h.ok r hL) hg) (apart j r hj e g hg)) ?_
        intro B I e2 b hb
        subst e2
        exact h'.chg.block b ((h.ok _ hL).2.1 b hb) fun hf => h.per B I hL b hb (feet_pick_le hf)
    · exact h'.ok r hr
  · intro b hb
    rcases hfa b hb with h1 | h1
    · exact h.mine b (hfm b h1).1
    · rcases h'.mine b h1 with h2 | h2
      · exact h.mine b (feet_pick_le h2)
      · exact .inr (Nat.le_trans h.chg.size h2)
  · rw [feetL_append]
    refine List.nodup_append.2 ⟨?_, h'.nd, ?_⟩
    · -- a part of what was there
      have : ∀ (L : List Res) (i : Nat), (feetL (L.set i .non)).Sublist (feetL L) := by
        intro L
        induction L with
        | nil => intro i; simp [feetL]
        | cons y L ih =>
          intro i
          cases i with
          | zero =>
            simp only [List.set_cons_zero, feetL, List.filterMap_cons, Res.foot]
            split
            · exact List.Sublist.refl _
            · exact List.sublist_cons_self _ _
          | succ i =>
            simp only [List.set_cons_succ, feetL, List.filterMap_cons]
            split
            · exact ih i
            · exact (ih i).cons_cons _
      have sub : ∀ (T : List Nat) (L : List Res), (feetL (mask L T)).Sublist (feetL L) := by
        intro T
        induction T with
        | nil => intro L; exact List.Sublist.refl _
        | cons i T ih => intro L; simp only [mask, upd_eq]; exact (ih _).trans (this L i)
      exact (sub T L).nodup h.nd
    · intro a ha b hb e
      subst e
      have h1 := hfm a ha
      rcases h'.mine a hb with h2 | h2
      · exact h1.2 h2
      · have := h.lt h1.1
        omega
  · intro B I hmem b hb hf
    rcases List.mem_append.1 hmem with hmem | hmem
    · rcases hm _ hmem with e | ⟨j, hj, e⟩
      · cases e
      · have hL := List.mem_of_getElem? e
        rcases hfa b hf with h1 | h1
        · exact h.per B I hL b hb (hfm b h1).1
        · rcases h'.mine b h1 with h2 | h2
          · exact h.per B I hL b hb (feet_pick_le h2)
          · have := (h.ok _ hL).2.1 b hb
            omega
    · exact noPer_spec hp B I hmem

/-- A callee that was handed nothing: the pieces stay where they stand. -/
theorem Hp.back0 (h : Hp S w0 w L) {w' : World} {LO : List Res} (h' : Hp (feet []) w w' LO) (hp : noPer LO = true) : Hp S w0 w' (L ++ LO) := Hp.back h [] h' hp

end

/-! ### What is lent -/
section
variable {S : Nat → Prop} {w0 w : World} {L : List Res} {T : List Nat} {R : List Res}

/-- The cells C' that an address A' leads to lie among those that A leads to. -/
def Sub (A : Option Addr) (C : List Value) (A' : Option Addr) (C' : List Value) : Prop :=
  C' = [] ∨ ∃ b o d, A = some ⟨b, o, none⟩ ∧ A' = some ⟨b, o + d, none⟩ ∧ ∀ j v, C'[j]? = some v → C[d + j]? = some v
theorem Sub.refl (A : Option Addr) (C : List Value) (hA : C = [] ∨ ∃ b o, A = some ⟨b, o, none⟩) : Sub A C A C := by
  rcases hA with h | ⟨b, o, rfl⟩
  · exact .inl h
  · exact .inr ⟨b, o, 0, rfl, rfl, fun j v h => by rw [Nat.zero_add]; exact h⟩

theorem Cells.per {A : Option Addr} {C : List Value} (h : Cells A C w) : Res.holds w (.rd A C) := by
  refine ⟨h, ?_, ?_⟩
  · rintro b ⟨hC, a, rfl, rfl⟩
    rcases h with h | ⟨b, o, e, hc⟩
    · exact absurd h hC
    · cases e
      cases C with
      | nil => exact absurd rfl hC
      | cons v C => exact World.block_lt_of_cell? w _ (hc 0 v rfl)
  · intro w' hw
    rcases h with h | ⟨b, o, e, hc⟩
    · exact .inl h
    · refine .inr ⟨b, o, e, fun j v hj => ?_⟩
      have hC : C ≠ [] := by intro e; subst e; simp at hj
      rw [← hc j v hj]
      exact World.cell?_of_block (a := ⟨b, o + j, none⟩) (hw b ⟨hC, _, e, rfl⟩)

theorem Hp.cells_rd (h : Hp S w0 w L) {i : Nat} {A : Option Addr} {C : List Value} (hi : nth L i = some (.rd A C)) : Cells A C w := (h.ok _ (nth_mem hi)).1
theorem Hp.cells_own (h : Hp S w0 w L) {i : Nat} {A : Option Addr} {cap : Nat} {C : List Value} {t : TypeId} {sz : Nat} (hi : nth L i = some (.own A cap C t sz)) : Cells A C w := by
  rcases h.ok _ (nth_mem hi) with ⟨_, _, h1⟩ | ⟨g, D, rfl, h1, _, _⟩
  · exact .inl h1
  · refine .inr ⟨g, 0, rfl, fun j v hj => ?_⟩
    rw [Nat.zero_add, cell_of_row w g j _ t (0, 0) h1]
    simp only [List.getElem?_toArray]
    rw [List.getElem?_append_left (List.getElem?_eq_some_iff.1 hj).1]
    exact hj
theorem Hp.cells_box (h : Hp S w0 w L) {i : Nat} {g : Nat} {C : List Value} {t : TypeId} (hi : nth L i = some (.box g C t)) : Cells (some ⟨g, 0, none⟩) C w := by
  have h1 : w.heap[g]? = some (.cells C.toArray t (0, 0)) := h.ok _ (nth_mem hi)
  refine .inr ⟨g, 0, rfl, fun j v hj => ?_⟩
  rw [Nat.zero_add, cell_of_row w g j _ t (0, 0) h1]
  simpa using hj

theorem Cells.sub {A A' : Option Addr} {C C' : List Value} (h : Cells A C w) (hs : Sub A C A' C') : Cells A' C' w := by
  rcases hs with hs | ⟨b, o, d, rfl, rfl, hd⟩
  · exact .inl hs
  · refine .inr ⟨b, o + d, rfl, fun j v hj => ?_⟩
    have hj' := hd j v hj
    rcases h with h | ⟨b', o', e, hc⟩
    · subst h; simp at hj'
    · cases e
      rw [Nat.add_assoc]
      exact hc _ _ hj'

theorem Sub.blk {A A' : Option Addr} {C C' : List Value} (hs : Sub A C A' C') {b : Nat} (h : blk A' C' b) : V.blk A C b := by
  obtain ⟨hC, a, rfl, rfl⟩ := h
  rcases hs with hs | ⟨b, o, d, rfl, e, hd⟩
  · exact absurd hs hC
  · cases e
    refine ⟨fun e => ?_, _, rfl, rfl⟩
    subst e
    cases C' with
    | nil => exact hC rfl
    | cons v C' => simpa using hd 0 v rfl

/-- Lend a part of what is only read. -/
theorem Lent.rd (h : Hp S w0 w L) (hR : Lent L w T R) {i : Nat} {A : Option Addr} {C : List Value} (hi : nth L i = some (.rd A C)) {A' : Option Addr} {C' : List Value} (hs : Sub A C A' C') : Lent L w T (.rd A' C' :: R) :=
  .cons ((h.cells_rd hi).sub hs).per (fun b hb hf => h.per _ _ (nth_mem hi) b (hs.blk hb) (feet_pick_le hf)) hR
theorem Lent.per (h : Hp S w0 w L) (hR : Lent L w T R) {i : Nat} {B : Nat → Prop} {I : World → Prop} (hi : nth L i = some (.per B I)) : Lent L w T (.per B I :: R) :=
  .cons (h.ok _ (nth_mem hi)) (fun b hb hf => h.per _ _ (nth_mem hi) b hb (feet_pick_le hf)) hR
/-- Lend a part of what is one's own and isn't handed over. -/
theorem Lent.own (h : Hp S w0 w L) (hR : Lent L w T R) {i : Nat} {A : Option Addr} {cap : Nat} {C : List Value} {t : TypeId} {sz : Nat} (hi : nth L i = some (.own A cap C t sz)) (hn : nin i T = true) {A' : Option Addr} {C' : List Value} (hs : Sub A C A' C') : Lent L w T (.rd A' C' :: R) := by
  refine .cons ((h.cells_own hi).sub hs).per (fun b hb hf => ?_) hR
  obtain ⟨hC, a, e, rfl⟩ := hs.blk hb
  subst e
  obtain ⟨j, hj, r, e, hr⟩ := feet_pick hf
  rw [nth_eq] at e hi
  have := foot_inj h.nd hi e (by rfl) hr
  subst this
  exact nin_iff.1 hn hj
theorem Lent.box (h : Hp S w0 w L) (hR : Lent L w T R) {i : Nat} {g : Nat} {C : List Value} {t : TypeId} (hi : nth L i = some (.box g C t)) (hn : nin i T = true) {A' : Option Addr} {C' : List Value} (hs : Sub (some ⟨g, 0, none⟩) C A' C') : Lent L w T (.rd A' C' :: R) := by
  refine .cons ((h.cells_box hi).sub hs).per (fun b hb hf => ?_) hR
  obtain ⟨hC, a, e, rfl⟩ := hs.blk hb
  cases e
  obtain ⟨j, hj, r, e, hr⟩ := feet_pick hf
  rw [nth_eq] at e hi
  have := foot_inj h.nd hi e (by rfl) hr
  subst this
  exact nin_iff.1 hn hj

end
end Go.V
