/- The plain law: what a length's symbol and further bits say, by the table and by the document's sum. -/
import Derived.Test.YteckboojmmeecaaDoorGBlockLengthsOfPure
import Derived.Test.YteckboojmmeecaaDoorV11
set_option linter.unusedVariables false
set_option linter.unusedSimpArgs false
namespace Go.V.Pu
open Go Go.V

theorem len_tables : ∀ s : Fin 29, valiseref10_lengthBits.f (((s.val + 257 : Nat)) : Int) = some (rd T_block_lengthBits ((s.val : Nat) : Int)) ∧ valiseref10_lengthBase.f ((s.val + 257 : Nat) : Int) = some (rd T_block_lengthBase ((s.val : Nat) : Int)) ∧
    0 ≤ rd T_block_lengthBits ((s.val : Nat) : Int) ∧ rd T_block_lengthBits ((s.val : Nat) : Int) ≤ 5 := by decide +kernel

theorem valiselaw10_BlockLengthsOf_true (s e : Int) (hs : (Lit.int .i64 s).wf = true) (he : (Lit.int .i64 e).wf = true) : valiselaw10_BlockLengthsOf.f s e = some true := by
  unfold valiselaw10_BlockLengthsOf.f block_LengthOf.f valiseref10_LengthOf.f valiselaw10_num.f
  by_cases h0 : s < 257 ∨ 285 < s
  · have h : (s < 257 ∨ 285 < s) ∨ e < 0 := .inl h0
    have h' : s ≤ 256 ∨ 286 ≤ s := by omega
    simp only [if_pos h, if_pos h', Option.bind_some, if_true, decide_true]
  · have h' : ¬ (s ≤ 256 ∨ 286 ≤ s) := by omega
    obtain ⟨n, rfl⟩ : ∃ n : Nat, s = ((n + 257 : Nat) : Int) := ⟨(s - 257).toNat, by omega⟩
    have e1 : IntKind.i64.wrap (IntKind.i64.wrap (((n + 257 : Nat) : Int) - 256) - 1) = n := by rw [wr_i64 (x := ((n + 257 : Nat) : Int) - 256) (by omega), wr_i64 (by omega)]; omega
    by_cases h : e < 0
    · have h2 : (((n + 257 : Nat) : Int) < 257 ∨ 285 < ((n + 257 : Nat) : Int)) ∨ e < 0 := .inr h
      simp only [if_pos h2, if_neg h', if_pos h, bnd_eq, Option.bind_some, if_true, decide_true]
    · have h2 : ¬ ((((n + 257 : Nat) : Int) < 257 ∨ 285 < ((n + 257 : Nat) : Int)) ∨ e < 0) := by omega
      obtain ⟨k1, k2, h3, h4⟩ := len_tables ⟨n, by omega⟩
      simp only at k1 k2 h3 h4
      simp only [if_neg h2, if_neg h', if_neg h, bnd_eq, e1, k1, k2, Option.bind_some]
      generalize rd T_block_lengthBits (n : Int) = b at *
      generalize rd T_block_lengthBase (n : Int) = c at *
      have hw : IntKind.u64.wrap b = b := wr_u64 (by omega)
      simp only [hw]
      rw [gd_pos (by omega), gd_pos (by omega), gd_pos (by omega)]
      simp only [Option.bind_some]
      by_cases hc : shl .i64 1 b ≤ e
      · simp [hc, gd, h3]
      · simp [hc, gd, h3]
end Go.V.Pu
