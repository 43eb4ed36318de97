/- What is known of memory: a list of pieces, each with the block that it owns. -/
import Derived.Test.YtbegkkmngkpjmaaV2
import Derived.Below
set_option linter.unusedVariables false
set_option linter.unusedSimpArgs false
namespace Go.V
open Go

/-- But for the blocks of S nothing that was there has turned. -/
structure Chg (S : Nat → Prop) (w w' : World) : Prop where
  os : w'.os = w.os
  tape : w'.tape = w.tape
  output : w'.output = w.output
  size : w.heap.size ≤ w'.heap.size
  block : ∀ k, k < w.heap.size → ¬ S k → w'.heap[k]? = w.heap[k]?

def NoB : Nat → Prop := fun _ => False

theorem Chg.refl (S : Nat → Prop) (w : World) : Chg S w w := ⟨rfl, rfl, rfl, Nat.le_refl _, fun _ _ _ => rfl⟩
theorem Chg.trans {S : Nat → Prop} {a b c : World} (h : Chg S a b) (k : Chg S b c) : Chg S a c :=
  ⟨k.os.trans h.os, k.tape.trans h.tape, k.output.trans h.output, Nat.le_trans h.size k.size, fun i hi hs => (k.block i (Nat.lt_of_lt_of_le hi h.size) hs).trans (h.block i hi hs)⟩
theorem Chg.mono {S T : Nat → Prop} {a b : World} (h : Chg S a b) (hs : ∀ k, k < a.heap.size → S k → T k) : Chg T a b :=
  ⟨h.os, h.tape, h.output, h.size, fun k hk hn => h.block k hk fun hS => hn (hs k hk hS)⟩
theorem Chg.below {a b : World} (h : Chg NoB a b) : Go.RowKit.Below a.heap.size a b := ⟨h.os, h.tape, h.output, h.size, fun k hk => h.block k hk (fun h => h)⟩

inductive Res where
  | non
  | box (g : Nat) (C : List Value) (t : TypeId)
  | own (A : Option Addr) (cap : Nat) (C : List Value) (t : TypeId) (sz : Nat)
  | per (B : Nat → Prop) (I : World → Prop)

def Res.foot : Res → Option Nat
  | .box g _ _ => some g
  | .own (some a) _ _ _ _ => some a.block
  | _ => none

/-- Cells that are read from an address on. -/
def Cells (A : Option Addr) (C : List Value) (w : World) : Prop :=
  C = [] ∨ ∃ b o, A = some ⟨b, o, none⟩ ∧ ∀ j v, C[j]? = some v → w.cell? ⟨b, o + j, none⟩ = some v
def blk (A : Option Addr) (C : List Value) : Nat → Prop := fun b => C ≠ [] ∧ ∃ a, A = some a ∧ a.block = b
/-- A slice that is only read. -/
abbrev Res.rd (A : Option Addr) (C : List Value) : Res := .per (blk A C) (Cells A C)

def Res.holds (w : World) : Res → Prop
  | .non => True
  | .box g C t => w.heap[g]? = some (.cells C.toArray t (0, 0))
  | .own A cap C t sz => (A = none ∧ cap = 0 ∧ C = []) ∨
      ∃ g D, A = some ⟨g, 0, none⟩ ∧ w.heap[g]? = some (.cells (C ++ D).toArray t (0, 0)) ∧ (C ++ D).length = cap * sz ∧ cap ≤ maxLen
  | .per B I => I w ∧ (∀ b, B b → b < w.heap.size) ∧ ∀ w', (∀ b, B b → w'.heap[b]? = w.heap[b]?) → I w'

def feetL (L : List Res) : List Nat := L.filterMap Res.foot
def feet (L : List Res) : Nat → Prop := fun b => b ∈ feetL L

structure Hp (S : Nat → Prop) (w0 w : World) (L : List Res) : Prop where
  chg : Chg S w0 w
  ok : ∀ r ∈ L, r.holds w
  mine : ∀ b, feet L b → S b ∨ w0.heap.size ≤ b
  nd : (feetL L).Nodup
  per : ∀ B I, Res.per B I ∈ L → ∀ b, B b → ¬ feet L b

def nth : List Res → Nat → Option Res
  | [], _ => none
  | r :: _, 0 => some r
  | _ :: L, i + 1 => nth L i
def upd : List Res → Nat → Res → List Res
  | [], _, _ => []
  | _ :: L, 0, x => x :: L
  | r :: L, i + 1, x => r :: upd L i x

theorem nth_eq (L : List Res) (i : Nat) : nth L i = L[i]? := by
  induction L generalizing i with
  | nil => simp [nth]
  | cons r L ih => cases i <;> simp [nth, ih]
theorem upd_eq (L : List Res) (i : Nat) (x : Res) : upd L i x = L.set i x := by
  induction L generalizing i with
  | nil => simp [upd]
  | cons r L ih => cases i <;> simp [upd, ih]
theorem nth_mem {L : List Res} {i : Nat} {r : Res} (h : nth L i = some r) : r ∈ L := by rw [nth_eq] at h; exact List.mem_of_getElem? h

theorem feet_mem {L : List Res} {r : Res} {g : Nat} (h : r ∈ L) (hf : r.foot = some g) : feet L g := List.mem_filterMap.2 ⟨r, h, hf⟩
theorem feet_ex {L : List Res} {g : Nat} (h : feet L g) : ∃ r ∈ L, r.foot = some g := List.mem_filterMap.1 h

/-- Two entries of one foot are one. -/
theorem foot_inj {L : List Res} (hn : (feetL L).Nodup) {i j : Nat} {r s : Res} {g : Nat} (hi : L[i]? = some r) (hj : L[j]? = some s) (fi : r.foot = some g) (fj : s.foot = some g) : i = j := by
  induction L generalizing i j with
  | nil => simp at hi
  | cons x L ih =>
    have hn' : (feetL L).Nodup := by
      unfold feetL at hn ⊢
      rw [List.filterMap_cons] at hn
      split at hn
      · exact hn
      · exact (List.nodup_cons.1 hn).2
    have hx : ∀ (k : Nat) (s : Res), L[k]? = some s → s.foot = some g → x.foot ≠ some g := by
      intro k s hk hs hxf
      unfold feetL at hn
      rw [List.filterMap_cons, hxf] at hn
      exact (List.nodup_cons.1 hn).1 (List.mem_filterMap.2 ⟨s, List.mem_of_getElem? hk, hs⟩)
    cases i with
    | zero =>
      cases j with
      | zero => rfl
      | succ j =>
        simp only [List.getElem?_cons_zero, Option.some.injEq] at hi
        simp only [List.getElem?_cons_succ] at hj
        subst hi
        exact absurd fi (hx j s hj fj)
    | succ i =>
      cases j with
      | zero =>
        simp only [List.getElem?_cons_zero, Option.some.injEq] at hj
        simp only [List.getElem?_cons_succ] at hi
        subst hj
        exact absurd fj (hx i r hi fi)
      | succ j =>
        simp only [List.getElem?_cons_succ] at hi hj
        rw [ih hn' hi hj]

/-- An entry holds on where its own blocks stay. -/
theorem Res.holds_of_foot {w w' : World} {r : Res} (hsz : w.heap.size ≤ w'.heap.size) (h : r.holds w) (hf : ∀ g, r.foot = some g → w'.heap[g]? = w.heap[g]?) (hp : ∀ B I, r = .per B I → ∀ b, B b → w'.heap[b]? = w.heap[b]?) : r.holds w' := by
  cases r with
  | non => trivial
  | box g C t => simp only [Res.holds] at h ⊢; rw [hf g rfl]; exact h
  | own A cap C t sz =>
    simp only [Res.holds] at h ⊢
    rcases h with h | ⟨g, D, rfl, h1, h2⟩
    · exact .inl h
    · exact .inr ⟨g, D, rfl, by rw [hf g rfl]; exact h1, h2⟩
  | per B I =>
    simp only [Res.holds] at h ⊢
    refine ⟨h.2.2 w' (hp B I rfl), fun b hb => Nat.lt_of_lt_of_le (h.2.1 b hb) hsz, fun w'' hw => h.2.2 w'' fun b hb => (hw b hb).trans (hp B I rfl b hb)⟩

theorem holds_foot_lt {w : World} {r : Res} (h : r.holds w) {g : Nat} (hf : r.foot = some g) : g < w.heap.size := by
  cases r with
  | non => simp [Res.foot] at hf
  | box g' C t => simp only [Res.foot, Option.some.injEq] at hf; subst hf; exact (Array.getElem?_eq_some_iff.1 h).1
  | own A cap C t sz =>
    rcases h with ⟨rfl, _⟩ | ⟨g', D, rfl, h1, _⟩
    · simp [Res.foot] at hf
    · simp only [Res.foot, Option.some.injEq] at hf; subst hf; exact (Array.getElem?_eq_some_iff.1 h1).1
  | per B I => simp [Res.foot] at hf

section
variable {S : Nat → Prop} {w0 w : World} {L : List Res}

theorem Hp.lt (h : Hp S w0 w L) {b : Nat} (hb : feet L b) : b < w.heap.size := by
  obtain ⟨r, hr, hf⟩ := feet_ex hb
  exact holds_foot_lt (h.ok r hr) hf

/-- The world has turned in no old block, but for what nobody here owns. -/
theorem Hp.keep (h : Hp S w0 w L) {w' : World} (hc : Chg NoB w w') : Hp S w0 w' L :=
  ⟨h.chg.trans (hc.mono (fun _ _ h => h.elim)),
   fun r hr => Res.holds_of_foot hc.size (h.ok r hr) (fun g hg => hc.block g (holds_foot_lt (h.ok r hr) hg) (fun h => h))
     (fun B I e b hb => by subst e; exact hc.block b ((h.ok _ hr).2.1 b hb) (fun h => h)),
   h.mine, h.nd, h.per⟩

/-- Entry i is another one now, in the blocks that it owned or in new ones. -/
theorem Hp.turn (h : Hp S w0 w L) {i : Nat} {r x : Res} (hi : nth L i = some r) {w' : World} (hc : Chg (fun b => r.foot = some b) w w') (hx : x.holds w') (hf : ∀ g, x.foot = some g → r.foot = some g ∨ w.heap.size ≤ g) (hxp : ∀ B I, x ≠ .per B I) : Hp S w0 w' (upd L i x) := by
  rw [nth_eq] at hi
  rw [upd_eq]
  have hil : i < L.length := (List.getElem?_eq_some_iff.1 hi).1
  have hr : r ∈ L := List.mem_of_getElem? hi
  have other : ∀ (j : Nat) (s : Res), L[j]? = some s → j ≠ i → ∀ g, s.foot = some g → r.foot ≠ some g := fun j s hj hji g hs hr => hji (foot_inj h.nd hj hi hs hr)
  have hset : ∀ s ∈ L.set i x, s = x ∨ ∃ j, j ≠ i ∧ L[j]? = some s := by
    intro s hs
    obtain ⟨j, hj⟩ := List.mem_iff_getElem?.1 hs
    rw [List.getElem?_set] at hj
    split at hj
    · have e : x = s := by simpa [hil] using hj
      exact .inl e.symm
    · rename_i hne
      exact .inr ⟨j, fun e => hne e.symm, hj⟩
  have hfeet : ∀ b, feet (L.set i x) b → feet L b ∨ (x.foot = some b ∧ w.heap.size ≤ b) := by
    intro b hb
    obtain ⟨s, hs, hsf⟩ := feet_ex hb
    rcases hset s hs with rfl | ⟨j, _, hj⟩
    · rcases hf b hsf with h1 | h1
      · exact .inl (feet_mem hr h1)
      · exact .inr ⟨hsf, h1⟩
    · exact .inl (feet_mem (List.mem_of_getElem? hj) hsf)
  refine ⟨?_, ?_, ?_, ?_, ?_⟩
  · refine ⟨hc.os.trans h.chg.os, hc.tape.trans h.chg.tape, hc.output.trans h.chg.output, Nat.le_trans h.chg.size hc.size, fun k hk hs => ?_⟩
    refine (hc.block k (Nat.lt_of_lt_of_le hk h.chg.size) fun e => ?_).trans (h.chg.block k hk hs)
    rcases h.mine k (feet_mem hr e) with h1 | h1
    · exact hs h1
    · omega
  · intro s hs
    rcases hset s hs with rfl | ⟨j, hji, hj⟩
    · exact hx
    · have hsL := List.mem_of_getElem? hj
      refine Res.holds_of_foot hc.size (h.ok s hsL) (fun g hg => hc.block g (holds_foot_lt (h.ok s hsL) hg) (other j s hj hji g hg)) ?_
      intro B I e b hb
      subst e
      exact hc.block b ((h.ok _ hsL).2.1 b hb) fun e => h.per B I hsL b hb (feet_mem hr e)
  · intro b hb
    rcases hfeet b hb with h1 | ⟨_, h1⟩
    · exact h.mine b h1
    · exact .inr (Nat.le_trans h.chg.size h1)
  · -- the feet are apart
    have : ∀ (L : List Res) (i : Nat), i < L.length → (feetL L).Nodup → (∀ g, x.foot = some g → ∀ (j : Nat) (s : Res), L[j]? = some s → j ≠ i → s.foot ≠ some g) → (feetL (L.set i x)).Nodup := by
      intro L
      induction L with
      | nil => intro i hi; simp at hi
      | cons y L ih =>
        intro i hi hn ho
        cases i with
        | zero =>
          simp only [List.set_cons_zero]
          unfold feetL at hn ⊢
          rw [List.filterMap_cons] at hn ⊢
          have hn' : (List.filterMap Res.foot L).Nodup := by
            split at hn
            · exact hn
            · exact (List.nodup_cons.1 hn).2
          split
          · exact hn'
          · rename_i g hg
            refine List.nodup_cons.2 ⟨fun hm => ?_, hn'⟩
            obtain ⟨s, hs, hsf⟩ := List.mem_filterMap.1 hm
            obtain ⟨j, hj⟩ := List.mem_iff_getElem?.1 hs
            exact ho g hg (j + 1) s (by simpa using hj) (by omega) hsf
        | succ i =>
          simp only [List.set_cons_succ]
          unfold feetL at hn ⊢
          rw [List.filterMap_cons] at hn ⊢
          have hn' : (List.filterMap Res.foot L).Nodup := by
            split at hn
            · exact hn
            · exact (List.nodup_cons.1 hn).2
          have hnew := ih i (by simpa using hi) hn' (fun g hg j s hj hji => ho g hg (j + 1) s (by simpa using hj) (by omega))
          split
          · exact hnew
          · rename_i g hg
            refine List.nodup_cons.2 ⟨fun hm => ?_, hnew⟩
            obtain ⟨s, hs, hsf⟩ := List.mem_filterMap.1 hm
            obtain ⟨j, hj⟩ := List.mem_iff_getElem?.1 hs
            rw [List.getElem?_set] at hj
            split at hj
            · split at hj
              · simp only [Option.some.injEq] at hj
                subst hj
                exact ho g hsf 0 y (by simp) (by omega) hg
              · cases hj
            · rw [hg] at hn
              exact (List.nodup_cons.1 hn).1 (List.mem_filterMap.2 ⟨s, List.mem_of_getElem? hj, hsf⟩)
    refine this L i hil h.nd ?_
    intro g hg j s hj hji hs
    rcases hf g hg with h1 | h1
    · exact other j s hj hji g hs h1
    · have := holds_foot_lt (h.ok s (List.mem_of_getElem? hj)) hs
      omega
  · intro B I hm b hb hfb
    rcases hset _ hm with e | ⟨j, _, hj⟩
    · exact hxp B I e.symm
    · have hsL := List.mem_of_getElem? hj
      rcases hfeet b hfb with h1 | ⟨_, h1⟩
      · exact h.per B I hsL b hb h1
      · have := (h.ok _ hsL).2.1 b hb
        omega

def snoc (L : List Res) (x : Res) : List Res := L ++ [x]
theorem feetL_append (L M : List Res) : feetL (L ++ M) = feetL L ++ feetL M := List.filterMap_append

/-- A new piece, in new blocks. -/
theorem Hp.more (h : Hp S w0 w L) {x : Res} {w' : World} (hc : Chg NoB w w') (hx : x.holds w') (hf : ∀ g, x.foot = some g → w.heap.size ≤ g) (hxp : ∀ B I, x ≠ .per B I) : Hp S w0 w' (L ++ [x]) := by
  have h' := h.keep hc
  have hfeet : ∀ b, feet (L ++ [x]) b → feet L b ∨ x.foot = some b := by
    intro b hb
    obtain ⟨s, hs, hsf⟩ := feet_ex hb
    simp only [List.mem_append, List.mem_singleton] at hs
    rcases hs with hs | rfl
    · exact .inl (feet_mem hs hsf)
    · exact .inr hsf
  refine ⟨h'.chg, ?_, ?_, ?_, ?_⟩
  · intro r hr
    simp only [List.mem_append, List.mem_singleton] at hr
    rcases hr with hr | rfl
    · exact h'.ok r hr
    · exact hx
  · intro b hb
    rcases hfeet b hb with h1 | h1
    · exact h.mine b h1
    · exact .inr (Nat.le_trans h.chg.size (hf b h1))
  · rw [feetL_append]
    refine List.nodup_append.2 ⟨h.nd, ?_, ?_⟩
    · unfold feetL; rw [List.filterMap_cons]; split <;> simp
    · intro a ha b hb e
      subst e
      obtain ⟨s, hs, hsf⟩ := List.mem_filterMap.1 hb
      simp only [List.mem_singleton] at hs
      subst hs
      have h1 := hf a hsf
      have h2 := h.lt (b := a) ha
      omega
  · intro B I hm b hb hfb
    simp only [List.mem_append, List.mem_singleton] at hm
    rcases hm with hm | hm
    · rcases hfeet b hfb with h1 | h1
      · exact h.per B I hm b hb h1
      · have h1 := hf b h1
        have := (h.ok _ hm).2.1 b hb
        omega
    · exact hxp B I hm.symm

end
end Go.V
