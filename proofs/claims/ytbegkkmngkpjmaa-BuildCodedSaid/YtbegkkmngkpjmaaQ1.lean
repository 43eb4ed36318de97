/- Rounds over a list, as folds: for the plain laws. -/
import Derived.Test.YtbegkkmngkpjmaaV11
set_option linter.unusedVariables false
set_option linter.unusedSimpArgs false
namespace Go.V
open Go

/-- The rounds: what each does to what is carried, or the answer at once. -/
def foldE {β α ρ : Type} (g : Nat → β → α → Sum ρ α) (fin : α → ρ) : Nat → List β → α → ρ
  | _, [], a => fin a
  | i, x :: l, a => match g i x a with
    | .inl r => r
    | .inr a' => foldE g fin (i + 1) l a'

theorem drop_cons {β : Type} {l : List β} {i : Nat} {x : β} (h : l[i]? = some x) : l.drop i = x :: l.drop (i + 1) := by
  obtain ⟨hi, rfl⟩ := List.getElem?_eq_some_iff.1 h
  exact List.drop_eq_getElem_cons hi

theorem list_loop {β α ρ : Type} (l : List β) (L : Nat → Int → α → Option ρ) (g : Nat → β → α → Sum ρ α) (fin : α → ρ) (inv : Nat → α → Prop)
    (stop : ∀ k a, inv l.length a → L (k + 1) (l.length : Int) a = some (fin a))
    (step : ∀ k i x a, l[i]? = some x → i < l.length → inv i a → L (k + 1) (i : Int) a = (match g i x a with | .inl r => some r | .inr a' => L k ((i + 1 : Nat) : Int) a'))
    (keep : ∀ i x a a', l[i]? = some x → i < l.length → inv i a → g i x a = .inr a' → inv (i + 1) a') :
    ∀ (m i k : Nat) (a : α), i + m = l.length → m < k → inv i a → L k (i : Int) a = some (foldE g fin i (l.drop i) a) := by
  intro m
  induction m with
  | zero =>
    intro i k a hi hk hv
    obtain ⟨k, rfl⟩ : ∃ j, k = j + 1 := ⟨k - 1, by omega⟩
    have hi' : i = l.length := by omega
    subst hi'
    rw [stop k a hv, List.drop_length]
    rfl
  | succ m ih =>
    intro i k a hi hk hv
    obtain ⟨k, rfl⟩ : ∃ j, k = j + 1 := ⟨k - 1, by omega⟩
    have hx : l[i]? = some l[i] := List.getElem?_eq_getElem (by omega)
    rw [step k i _ a hx (by omega) hv, drop_cons hx, foldE]
    cases hg : g i l[i] a with
    | inl r => rfl
    | inr a' => exact ih (i + 1) k a' (by omega) (by omega) (keep i _ a a' hx (by omega) hv hg)

/-- From the first on. -/
theorem list_loop0 {β α ρ : Type} (l : List β) (hl : l.length < 36893488147419103232) (L : Nat → Int → α → Option ρ) (g : Nat → β → α → Sum ρ α) (fin : α → ρ) (inv : Nat → α → Prop)
    (stop : ∀ k a, inv l.length a → L (k + 1) (l.length : Int) a = some (fin a))
    (step : ∀ k i x a, l[i]? = some x → i < l.length → inv i a → L (k + 1) (i : Int) a = (match g i x a with | .inl r => some r | .inr a' => L k ((i + 1 : Nat) : Int) a'))
    (keep : ∀ i x a a', l[i]? = some x → i < l.length → inv i a → g i x a = .inr a' → inv (i + 1) a')
    (a : α) (h0 : inv 0 a) : L FU 0 a = some (foldE g fin 0 l a) := by
  have := list_loop l L g fin inv stop step keep l.length 0 FU a (by omega) (by rw [FU_eq]; exact hl) h0
  rwa [List.drop_zero] at this
/-- .. where nothing needs to be kept. -/
theorem list_loop1 {β α ρ : Type} (l : List β) (hl : l.length < 36893488147419103232) (L : Nat → Int → α → Option ρ) (g : Nat → β → α → Sum ρ α) (fin : α → ρ)
    (stop : ∀ k a, L (k + 1) (l.length : Int) a = some (fin a))
    (step : ∀ k i x a, l[i]? = some x → i < l.length → L (k + 1) (i : Int) a = (match g i x a with | .inl r => some r | .inr a' => L k ((i + 1 : Nat) : Int) a'))
    (a : α) : L FU 0 a = some (foldE g fin 0 l a) :=
  list_loop0 l hl L g fin (fun _ _ => True) (fun k a _ => stop k a) (fun k i x a hx hi _ => step k i x a hx hi) (fun _ _ _ _ _ _ _ _ => trivial) a trivial

theorem rd_at {l : List Int} {i : Nat} {x : Int} (h : l[i]? = some x) : rd l (i : Int) = x := by
  show l.getD ((i : Int).toNat) 0 = x
  rw [Int.toNat_natCast, List.getD_eq_getElem?_getD, h]; rfl
theorem rdx_at' {α : Type} {E : El α} {l : List α} {i : Nat} {x : α} (h : l[i]? = some x) : rdx E l (i : Int) = x := by
  show l.getD ((i : Int).toNat) E.def_ = x
  rw [Int.toNat_natCast, List.getD_eq_getElem?_getD, h]; rfl
theorem lt_of_at {β : Type} {l : List β} {i : Nat} {x : β} (h : l[i]? = some x) : i < l.length := (List.getElem?_eq_some_iff.1 h).1
theorem inc_i {i : Nat} (h : i < 9223372036854775807) : IntKind.i64.wrap ((i : Int) + 1) = ((i + 1 : Nat) : Int) := by rw [wr_i64 (by omega)]; rfl

/-- Rounds that only look: the first that is wrong ends them. -/
theorem foldE_ok {β ρ : Type} {g : Nat → β → Unit → Sum ρ Unit} {fin : Unit → ρ} : ∀ (l : List β) (i : Nat), (∀ j x, l[j]? = some x → g (i + j) x () = .inr ()) → foldE g fin i l () = fin () := by
  intro l
  induction l with
  | nil => intro i _; rfl
  | cons x l ih =>
    intro i h
    have h0 := h 0 x (by simp)
    rw [Nat.add_zero] at h0
    rw [foldE, h0]
    refine ih (i + 1) fun j y hy => ?_
    have := h (j + 1) y (by simpa using hy)
    rwa [show i + (j + 1) = i + 1 + j by omega] at this
theorem foldE_bad {β ρ : Type} {g : Nat → β → Unit → Sum ρ Unit} {fin : Unit → ρ} {bad : ρ} : ∀ (l : List β) (i : Nat), (∀ j x, l[j]? = some x → g (i + j) x () = .inr () ∨ g (i + j) x () = .inl bad) → (∃ j x, l[j]? = some x ∧ g (i + j) x () ≠ .inr ()) → foldE g fin i l () = bad := by
  intro l
  induction l with
  | nil => rintro i _ ⟨j, x, h, _⟩; simp at h
  | cons x l ih =>
    rintro i h ⟨j, y, hy, hg⟩
    have h0 := h 0 x (by simp)
    rw [Nat.add_zero] at h0
    rw [foldE]
    rcases h0 with h0 | h0
    · rw [h0]
      cases j with
      | zero =>
        simp only [List.getElem?_cons_zero, Option.some.injEq] at hy
        subst hy
        exact absurd h0 hg
      | succ j =>
        refine ih (i + 1) (fun j y hy => ?_) ⟨j, y, by simpa using hy, ?_⟩
        · have := h (j + 1) y (by simpa using hy)
          rwa [show i + (j + 1) = i + 1 + j by omega] at this
        · rwa [show i + 1 + j = i + (j + 1) by omega]
    · rw [h0]

/-- Rounds that append: each a list more. -/
theorem foldE_app {β γ ρ : Type} {f : Nat → β → List γ} {fin : List γ → ρ} : ∀ (l : List β) (i : Nat) (a : List γ), foldE (fun i x a => .inr (a ++ f i x)) fin i l a = fin (a ++ (l.mapIdx fun j x => f (i + j) x).flatten) := by
  intro l
  induction l with
  | nil => intro i a; simp [foldE]
  | cons x l ih =>
    intro i a
    rw [foldE]
    simp only
    rw [ih]
    simp only [List.mapIdx_cons, List.flatten_cons, Nat.add_zero, List.append_assoc]
    congr 4
    apply List.ext_getElem?
    intro j
    simp only [List.getElem?_mapIdx]
    congr 1
    funext y
    rw [show i + 1 + j = i + (j + 1) by omega]

theorem all_eq {a b : List Int} (h : a.length = b.length) : (∀ (j : Nat) (x : Int), a[j]? = some x → rd b ((0 + j : Nat) : Int) = x) ↔ a = b := by
  constructor
  · intro h1
    apply List.ext_getElem h
    intro i h2 h3
    have := h1 i a[i] (List.getElem?_eq_getElem h2)
    rw [Nat.zero_add, rd_at (List.getElem?_eq_getElem h3)] at this
    exact this.symm
  · intro e j x hx
    subst e
    rw [Nat.zero_add]; exact rd_at hx
end Go.V
