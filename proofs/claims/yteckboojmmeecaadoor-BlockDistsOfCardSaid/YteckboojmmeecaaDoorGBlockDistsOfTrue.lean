/- The plain law: what a distance's symbol and further bits say, by the table and by the document's sum. -/
import Derived.Test.YteckboojmmeecaaDoorGBlockDistsOfPure
import Derived.Test.YteckboojmmeecaaDoorV11
set_option linter.unusedVariables false
set_option linter.unusedSimpArgs false
namespace Go.V.Pu
open Go Go.V

theorem dist_tables : ∀ s : Fin 30, valiseref10_distBits.f ((s.val : Nat) : Int) = some (rd T_block_distBits ((s.val : Nat) : Int)) ∧ valiseref10_distBase.f ((s.val : Nat) : Int) = some (rd T_block_distBase ((s.val : Nat) : Int)) ∧
    0 ≤ rd T_block_distBits ((s.val : Nat) : Int) ∧ rd T_block_distBits ((s.val : Nat) : Int) ≤ 13 := by decide +kernel

theorem valiselaw10_BlockDistsOf_true (s e : Int) (hs : (Lit.int .i64 s).wf = true) (he : (Lit.int .i64 e).wf = true) : valiselaw10_BlockDistsOf.f s e = some true := by
  unfold valiselaw10_BlockDistsOf.f block_DistOf.f valiseref10_DistOf.f valiselaw10_num.f
  by_cases h : (s < 0 ∨ 29 < s) ∨ e < 0
  · have h' : (s < 0 ∨ 30 ≤ s) ∨ e < 0 := by omega
    simp only [if_pos h, if_pos h', Option.bind_some, if_true, decide_true]
  · have h' : ¬ ((s < 0 ∨ 30 ≤ s) ∨ e < 0) := by omega
    obtain ⟨n, rfl⟩ : ∃ n : Nat, s = n := ⟨s.toNat, by omega⟩
    obtain ⟨h1, h2, h3, h4⟩ := dist_tables ⟨n, by omega⟩
    simp only at h1 h2 h3 h4
    generalize rd T_block_distBits (n : Int) = b at *
    generalize rd T_block_distBase (n : Int) = c at *
    have hw : IntKind.u64.wrap b = b := wr_u64 (by omega)
    simp only [if_neg h, if_neg h', h1, h2, Option.bind_some, hw]
    rw [gd_pos (by omega), gd_pos (by omega), gd_pos (by omega)]
    simp only [Option.bind_some]
    by_cases hc : shl .i64 1 b ≤ e
    · simp [hc, gd, h3]
    · simp [hc, gd, h3]
end Go.V.Pu
