/- The plain law: what is chosen is the least, the first of equals. -/
import Derived.Test.YteckboojmmeecaaGBlockChoosesLeastPure
import Derived.Test.YteckboojmmeecaaV11
set_option linter.unusedVariables false
set_option linter.unusedSimpArgs false
namespace Go.V.Pu
open Go Go.V

theorem choose_loop (m : Nat) : ∀ (k i : Nat) (a b c z : Int), m < k → i + m = 3 → 0 ≤ z → z < 3 →
    (∀ j : Int, 0 ≤ j → j < 3 → ¬ (rd [a, b, c] j < rd [a, b, c] z ∨ (j < z ∧ rd [a, b, c] j = rd [a, b, c] z))) → valiselaw10_BlockChoosesLeast.l1 k i a b c z = some (.inr ()) := by
  induction m with
  | zero =>
    intro k i a b c z hk hi h0 h1 hh
    obtain ⟨k, rfl⟩ : ∃ j, k = j + 1 := ⟨k - 1, by omega⟩
    rw [valiselaw10_BlockChoosesLeast.l1, if_neg (by omega)]
  | succ m ih =>
    intro k i a b c z hk hi h0 h1 hh
    obtain ⟨k, rfl⟩ : ∃ j, k = j + 1 := ⟨k - 1, by omega⟩
    have e6 : IntKind.i64.wrap ((i : Int) + 1) = ((i + 1 : Nat) : Int) := by rw [wr_i64 (by omega)]; rfl
    rw [valiselaw10_BlockChoosesLeast.l1, if_pos (by omega), gd_pos (by simp; omega), gd_pos (by simp; omega), if_neg (hh i (by omega) (by omega)), bnd_eq, e6]
    exact ih k (i + 1) a b c z (by omega) (by omega) h0 h1 hh

theorem valiselaw10_BlockChoosesLeast_true (a b c : Int) (hs : (Lit.int .i64 a).wf = true ∧ (Lit.int .i64 b).wf = true ∧ (Lit.int .i64 c).wf = true) : valiselaw10_BlockChoosesLeast.f a b c = some true := by
  have three : ∀ j : Int, 0 ≤ j → j < 3 → j = 0 ∨ j = 1 ∨ j = 2 := by intro j h0 h1; omega
  have main : ∀ z : Int, block_Choose.f a b c = some z → 0 ≤ z → z < 3 → (∀ j : Int, 0 ≤ j → j < 3 → ¬ (rd [a, b, c] j < rd [a, b, c] z ∨ (j < z ∧ rd [a, b, c] j = rd [a, b, c] z))) → valiselaw10_BlockChoosesLeast.f a b c = some true := by
    intro z hz h0 h1 hh
    have hl := choose_loop 3 FU 0 a b c z (by rw [FU_eq]; omega) rfl h0 h1 hh
    have hl' : valiselaw10_BlockChoosesLeast.l1 FU 0 a b c z = some (.inr ()) := hl
    rw [valiselaw10_BlockChoosesLeast.f, hz]
    simp only [Option.bind_some]
    rw [if_neg (by omega), hl']
    rfl
  have r0 : rd [a, b, c] 0 = a := rfl
  have r1 : rd [a, b, c] 1 = b := rfl
  have r2 : rd [a, b, c] 2 = c := rfl
  by_cases h1 : a ≤ b ∧ a ≤ c
  · refine main 0 (by rw [block_Choose.f, if_pos h1]) (by omega) (by omega) fun j j0 j1 => ?_
    rcases three j j0 j1 with rfl | rfl | rfl <;> rw [r0] <;> (try rw [r1]) <;> (try rw [r2]) <;> omega
  · by_cases h2 : b ≤ c
    · refine main 1 (by rw [block_Choose.f, if_neg h1, if_pos h2]) (by omega) (by omega) fun j j0 j1 => ?_
      rcases three j j0 j1 with rfl | rfl | rfl <;> rw [r1] <;> (try rw [r0]) <;> (try rw [r2]) <;> omega
    · refine main 2 (by rw [block_Choose.f, if_neg h1, if_neg h2]) (by omega) (by omega) fun j j0 j1 => ?_
      rcases three j j0 j1 with rfl | rfl | rfl <;> rw [r2] <;> (try rw [r0]) <;> (try rw [r1]) <;> omega
end Go.V.Pu
