/- The plain law: a length's symbol and further bits, by the table and by the document's sums: each of the 256 lengths. -/
import Derived.Test.YteckboojmmeecaaDoorGBlockLengthSymbolsPure
import Derived.Test.YteckboojmmeecaaDoorV11
set_option linter.unusedVariables false
set_option linter.unusedSimpArgs false
namespace Go.V.Pu
open Go Go.V

theorem len_symbols : ∀ s : Fin 256, valiselaw10_BlockLengthSymbols.f (((s.val + 3 : Nat)) : Int) = some true := by decide +kernel

theorem valiselaw10_BlockLengthSymbols_true (l : Int) (hs : (Lit.int .i64 l).wf = true) : valiselaw10_BlockLengthSymbols.f l = some true := by
  by_cases h : l < 3 ∨ 258 < l
  · unfold valiselaw10_BlockLengthSymbols.f block_LengthSymbol.f valiseref10_LengthSymbol.f valiselaw10_num.f
    simp [h]
  · obtain ⟨n, rfl⟩ : ∃ n : Nat, l = ((n + 3 : Nat) : Int) := ⟨(l - 3).toNat, by omega⟩
    exact len_symbols ⟨n, by omega⟩
end Go.V.Pu
