/- The plain law: a distance's symbol and further bits, by the table and by the document's sums. -/
import Derived.Test.YteckboojmmeecaaDoorGBlockDistSymbolsPure
import Derived.Test.YteckboojmmeecaaDoorV11
set_option linter.unusedVariables false
set_option linter.unusedSimpArgs false
namespace Go.V.Pu
open Go Go.V

theorem dist_tables : ∀ s : Fin 30, valiseref10_distBits.f ((s.val : Nat) : Int) = some (rd T_block_distBits ((s.val : Nat) : Int)) ∧ valiseref10_distBase.f ((s.val : Nat) : Int) = some (rd T_block_distBase ((s.val : Nat) : Int)) := by decide +kernel
theorem dist_last : valiseref10_distBase.f 30 = some 32769 := by decide +kernel
theorem dist_first : rd T_block_distBase 0 = 1 := rfl

/-- From the top down: the last whose least is not above. -/
theorem down (n : Nat) : ∀ (k : Nat) (d : Int), n < k → n < 30 → 1 ≤ d →
    ∃ m : Nat, m ≤ n ∧ block_DistSymbol.l1 k n d = some (m : Int) ∧ rd T_block_distBase m ≤ d ∧ ∀ j : Nat, m < j → j ≤ n → d < rd T_block_distBase j := by
  induction n with
  | zero =>
    intro k d hk hn hd
    obtain ⟨k, rfl⟩ : ∃ j, k = j + 1 := ⟨k - 1, by omega⟩
    refine ⟨0, Nat.le_refl _, ?_, by show rd T_block_distBase 0 ≤ d; rw [dist_first]; exact hd, fun j h1 h2 => by omega⟩
    have hf : ¬ d < rd T_block_distBase ((0 : Nat) : Int) := by show ¬ d < rd T_block_distBase 0; rw [dist_first]; omega
    rw [block_DistSymbol.l1, gd_pos (by omega), if_neg hf]
  | succ n ih =>
    intro k d hk hn hd
    obtain ⟨k, rfl⟩ : ∃ j, k = j + 1 := ⟨k - 1, by omega⟩
    rw [block_DistSymbol.l1, gd_pos (by omega)]
    by_cases h : d < rd T_block_distBase ((n + 1 : Nat) : Int)
    · obtain ⟨m, hm, he, h1, h2⟩ := ih k d (by omega) (by omega) hd
      rw [if_pos h, bnd_eq, wr_i64 (by omega), show ((n + 1 : Nat) : Int) - 1 = n by omega]
      refine ⟨m, by omega, he, h1, fun j hj hj' => ?_⟩
      by_cases e : j = n + 1
      · subst e; exact h
      · exact h2 j hj (by omega)
    · rw [if_neg h]
      exact ⟨n + 1, Nat.le_refl _, rfl, by omega, fun j h1 h2 => by omega⟩

/-- From the bottom up. -/
theorem up (i : Nat) : ∀ (k s m : Nat) (d : Int), i < k → s + i = m → m < 30 → d ≤ 32768 → (∀ j : Nat, j ≤ m → rd T_block_distBase j ≤ d) → (∀ j : Nat, m < j → j < 30 → d < rd T_block_distBase j) →
    valiseref10_DistSymbol.l1 k s d = some (m : Int) := by
  induction i with
  | zero =>
    intro k s m d hk hs hm hd h1 h2
    obtain ⟨k, rfl⟩ : ∃ j, k = j + 1 := ⟨k - 1, by omega⟩
    obtain rfl : s = m := by omega
    rw [valiseref10_DistSymbol.l1, wr_i64 (by omega)]
    by_cases e : s = 29
    · subst e
      have : ((29 : Nat) : Int) + 1 = 30 := rfl
      rw [this, dist_last]
      simp only [Option.bind_some]
      rw [if_neg (by omega)]
    · have hb := (dist_tables ⟨s + 1, by omega⟩).2
      simp only at hb
      have h3 := h2 (s + 1) (by omega) (by omega)
      rw [show ((s : Int) + 1) = ((s + 1 : Nat) : Int) by omega, hb]
      simp only [Option.bind_some]
      rw [if_neg (by omega)]
  | succ i ih =>
    intro k s m d hk hs hm hd h1 h2
    obtain ⟨k, rfl⟩ : ∃ j, k = j + 1 := ⟨k - 1, by omega⟩
    rw [valiseref10_DistSymbol.l1, wr_i64 (by omega)]
    have hb := (dist_tables ⟨s + 1, by omega⟩).2
    simp only at hb
    have h3 := h1 (s + 1) (by omega)
    rw [show ((s : Int) + 1) = ((s + 1 : Nat) : Int) by omega, hb]
    simp only [Option.bind_some]
    rw [if_pos h3, bnd_eq]
    exact ih k (s + 1) m d (by omega) (by omega) hm hd h1 h2

theorem rising : ∀ a : Fin 30, ∀ b : Fin 30, a.val ≤ b.val → rd T_block_distBase ((a.val : Nat) : Int) ≤ rd T_block_distBase ((b.val : Nat) : Int) := by decide +kernel

theorem valiselaw10_BlockDistSymbols_true (d : Int) (hs : (Lit.int .i64 d).wf = true) : valiselaw10_BlockDistSymbols.f d = some true := by
  unfold valiselaw10_BlockDistSymbols.f block_DistSymbol.f valiseref10_DistSymbol.f valiselaw10_num.f
  by_cases h : d < 1 ∨ 32768 < d
  · simp [h]
  · obtain ⟨m, hm, he, h1, h2⟩ := down 29 FU d (by rw [FU_eq]; omega) (by omega) (by omega)
    have hu := up m FU 0 m d (by rw [FU_eq]; omega) (by omega) (by omega) (by omega)
      (fun j hj => Int.le_trans (rising ⟨j, by omega⟩ ⟨m, by omega⟩ hj) h1) (fun j hj hj' => h2 j hj (by omega))
    have he' : block_DistSymbol.l1 FU 29 d = some (m : Int) := he
    have hu' : valiseref10_DistSymbol.l1 FU 0 d = some (m : Int) := hu
    obtain ⟨t1, t2⟩ := dist_tables ⟨m, by omega⟩
    simp only at t1 t2
    have hm0 : 0 ≤ (m : Int) ∧ (m : Int) < 30 := by omega
    simp [h, he', hu', t1, t2, gd, bnd, hm0]
end Go.V.Pu
