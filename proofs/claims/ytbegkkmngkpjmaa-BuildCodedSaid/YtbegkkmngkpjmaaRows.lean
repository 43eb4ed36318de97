/-
  No cell of these rows narrows 'for every input' (looked for: loops, veiled, ifaces, maps, wideKeys, modest, calm, conditions, laid).
  DERIVED. THE GIVEN ROWS OF THIS SEAT. 12 by the template 'for every input the law returns true; each argument reads behind the call as it read before'; 0 by the template 'total and deterministic' (their statements: YtbegkkmngkpjmaaTotals.lean).
  GIVEN WITH THE SEED: the statements are not yours to turn. If you find one false, say at which input.
  Laid BY PROGRAM, IN A SANDBOX (cutbox-rows.mjs): the forced cells as the released guide's own fill.sh prints them over the translation b22582db568dd471… (all of the seat's roots in one cut). By AI agents, Wed Nov 11 2026. No macro, syntax, notation, axiom, sorry.
-/
import Derived.Test.YtbegkkmngkpjmaaChecked
import GoSem.Claim
import GoSem.ClaimJoined
import GoSem.ClaimMapViews
import Derived.JoinedTies
import Derived.KernelRfl
namespace Go.Proofs.Ytbegkkmngkpjmaa
/- THE CELL 'sum', in the pinned program and in every row, IS THE sha256 OF THE DUMP (.gsa) THAT YtbegkkmngkpjmaaProg.lean LOADS. Nothing in Lean hashes anything: it is a label: what it is worth is what the hold of that sum in a sandbox is worth. -/
noncomputable def Try.pinned : Pinned := { name := "ytbegkkmngkpjmaa", sum := "b22582db568dd471c068026401bdffc9dbfdacd01d7203a323df9ae87614e762", checked := Try.checked }
namespace Rows
def none {H : Type} : Left H := { results := [], args := [] }

/-- 'valiselaw6.BuildCosts': WHATEVER THE INPUT: true; the input reads as it did. -/
def buildCostsSpec : ChangeSpec := { name := "buildCosts", fn := fun _ => fun
  | [d1, d2] => { results := [.lit (.bool true)], args := [d1, d2] }
  | _ => none }
def buildCostsRow : OpenClaim := { program := "ytbegkkmngkpjmaa", sum := "b22582db568dd471c068026401bdffc9dbfdacd01d7203a323df9ae87614e762", func := "valise/valiselaw6.BuildCosts", spec := "buildCosts", apart := false }
def BuildCostsSaid : Prop := buildCostsRow.holds Try.pinned (OpenSpec.ofChange buildCostsSpec)

/-- ITS FALSE NEIGHBOUR: 'it returns false'. Refute it at one input. -/
def buildCostsWrong : ChangeSpec := { name := "buildCosts", fn := fun _ => fun
  | [d1, d2] => { results := [.lit (.bool false)], args := [d1, d2] }
  | _ => none }
def BuildCostsWrongFalsely : Prop := buildCostsRow.holds Try.pinned (OpenSpec.ofChange buildCostsWrong)

/-- 'valiselaw6.BuildDepths': WHATEVER THE INPUT: true; the input reads as it did. -/
def buildDepthsSpec : ChangeSpec := { name := "buildDepths", fn := fun _ => fun
  | [d] => { results := [.lit (.bool true)], args := [d] }
  | _ => none }
def buildDepthsRow : OpenClaim := { program := "ytbegkkmngkpjmaa", sum := "b22582db568dd471c068026401bdffc9dbfdacd01d7203a323df9ae87614e762", func := "valise/valiselaw6.BuildDepths", spec := "buildDepths", apart := false }
def BuildDepthsSaid : Prop := buildDepthsRow.holds Try.pinned (OpenSpec.ofChange buildDepthsSpec)

/-- ITS FALSE NEIGHBOUR: 'it returns false'. Refute it at one input. -/
def buildDepthsWrong : ChangeSpec := { name := "buildDepths", fn := fun _ => fun
  | [d] => { results := [.lit (.bool false)], args := [d] }
  | _ => none }
def BuildDepthsWrongFalsely : Prop := buildDepthsRow.holds Try.pinned (OpenSpec.ofChange buildDepthsWrong)

/-- 'valiselaw6.BuildHuffman': WHATEVER THE INPUT: true; the input reads as it did. -/
def buildHuffmanSpec : ChangeSpec := { name := "buildHuffman", fn := fun _ => fun
  | [d1, d2] => { results := [.lit (.bool true)], args := [d1, d2] }
  | _ => none }
def buildHuffmanRow : OpenClaim := { program := "ytbegkkmngkpjmaa", sum := "b22582db568dd471c068026401bdffc9dbfdacd01d7203a323df9ae87614e762", func := "valise/valiselaw6.BuildHuffman", spec := "buildHuffman", apart := false }
def BuildHuffmanSaid : Prop := buildHuffmanRow.holds Try.pinned (OpenSpec.ofChange buildHuffmanSpec)

/-- ITS FALSE NEIGHBOUR: 'it returns false'. Refute it at one input. -/
def buildHuffmanWrong : ChangeSpec := { name := "buildHuffman", fn := fun _ => fun
  | [d1, d2] => { results := [.lit (.bool false)], args := [d1, d2] }
  | _ => none }
def BuildHuffmanWrongFalsely : Prop := buildHuffmanRow.holds Try.pinned (OpenSpec.ofChange buildHuffmanWrong)

/-- 'valiselaw6.BuildLimited': WHATEVER THE INPUT: true; the input reads as it did. -/
def buildLimitedSpec : ChangeSpec := { name := "buildLimited", fn := fun _ => fun
  | [d1, d2] => { results := [.lit (.bool true)], args := [d1, d2] }
  | _ => none }
def buildLimitedRow : OpenClaim := { program := "ytbegkkmngkpjmaa", sum := "b22582db568dd471c068026401bdffc9dbfdacd01d7203a323df9ae87614e762", func := "valise/valiselaw6.BuildLimited", spec := "buildLimited", unfollowed := true, recurses := true, apart := false }
def BuildLimitedSaid : Prop := buildLimitedRow.holds Try.pinned (OpenSpec.ofChange buildLimitedSpec)

/-- ITS FALSE NEIGHBOUR: 'it returns false'. Refute it at one input. -/
def buildLimitedWrong : ChangeSpec := { name := "buildLimited", fn := fun _ => fun
  | [d1, d2] => { results := [.lit (.bool false)], args := [d1, d2] }
  | _ => none }
def BuildLimitedWrongFalsely : Prop := buildLimitedRow.holds Try.pinned (OpenSpec.ofChange buildLimitedWrong)

/-- 'valiselaw6.BuildPacked': WHATEVER THE INPUT: true; the input reads as it did. -/
def buildPackedSpec : ChangeSpec := { name := "buildPacked", fn := fun _ => fun
  | [d1, d2, d3] => { results := [.lit (.bool true)], args := [d1, d2, d3] }
  | _ => none }
def buildPackedRow : OpenClaim := { program := "ytbegkkmngkpjmaa", sum := "b22582db568dd471c068026401bdffc9dbfdacd01d7203a323df9ae87614e762", func := "valise/valiselaw6.BuildPacked", spec := "buildPacked", unfollowed := true, recurses := true, apart := false }
def BuildPackedSaid : Prop := buildPackedRow.holds Try.pinned (OpenSpec.ofChange buildPackedSpec)

/-- ITS FALSE NEIGHBOUR: 'it returns false'. Refute it at one input. -/
def buildPackedWrong : ChangeSpec := { name := "buildPacked", fn := fun _ => fun
  | [d1, d2, d3] => { results := [.lit (.bool false)], args := [d1, d2, d3] }
  | _ => none }
def BuildPackedWrongFalsely : Prop := buildPackedRow.holds Try.pinned (OpenSpec.ofChange buildPackedWrong)

/-- 'valiselaw6.BuildComplete': WHATEVER THE INPUT: true; the input reads as it did. -/
def buildCompleteSpec : ChangeSpec := { name := "buildComplete", fn := fun _ => fun
  | [d1, d2] => { results := [.lit (.bool true)], args := [d1, d2] }
  | _ => none }
def buildCompleteRow : OpenClaim := { program := "ytbegkkmngkpjmaa", sum := "b22582db568dd471c068026401bdffc9dbfdacd01d7203a323df9ae87614e762", func := "valise/valiselaw6.BuildComplete", spec := "buildComplete", unfollowed := true, recurses := true, apart := false }
def BuildCompleteSaid : Prop := buildCompleteRow.holds Try.pinned (OpenSpec.ofChange buildCompleteSpec)

/-- ITS FALSE NEIGHBOUR: 'it returns false'. Refute it at one input. -/
def buildCompleteWrong : ChangeSpec := { name := "buildComplete", fn := fun _ => fun
  | [d1, d2] => { results := [.lit (.bool false)], args := [d1, d2] }
  | _ => none }
def BuildCompleteWrongFalsely : Prop := buildCompleteRow.holds Try.pinned (OpenSpec.ofChange buildCompleteWrong)

/-- 'valiselaw6.BuildOrder': WHATEVER THE INPUT: true; the input reads as it did. -/
def buildOrderSpec : ChangeSpec := { name := "buildOrder", fn := fun _ => fun
  | [d1, d2] => { results := [.lit (.bool true)], args := [d1, d2] }
  | _ => none }
def buildOrderRow : OpenClaim := { program := "ytbegkkmngkpjmaa", sum := "b22582db568dd471c068026401bdffc9dbfdacd01d7203a323df9ae87614e762", func := "valise/valiselaw6.BuildOrder", spec := "buildOrder", unfollowed := true, recurses := true, apart := false }
def BuildOrderSaid : Prop := buildOrderRow.holds Try.pinned (OpenSpec.ofChange buildOrderSpec)

/-- ITS FALSE NEIGHBOUR: 'it returns false'. Refute it at one input. -/
def buildOrderWrong : ChangeSpec := { name := "buildOrder", fn := fun _ => fun
  | [d1, d2] => { results := [.lit (.bool false)], args := [d1, d2] }
  | _ => none }
def BuildOrderWrongFalsely : Prop := buildOrderRow.holds Try.pinned (OpenSpec.ofChange buildOrderWrong)

/-- 'valiselaw6.BuildScaled': WHATEVER THE INPUT: true; the input reads as it did. -/
def buildScaledSpec : ChangeSpec := { name := "buildScaled", fn := fun _ => fun
  | [d1, d2, d3] => { results := [.lit (.bool true)], args := [d1, d2, d3] }
  | _ => none }
def buildScaledRow : OpenClaim := { program := "ytbegkkmngkpjmaa", sum := "b22582db568dd471c068026401bdffc9dbfdacd01d7203a323df9ae87614e762", func := "valise/valiselaw6.BuildScaled", spec := "buildScaled", unfollowed := true, recurses := true, apart := false }
def BuildScaledSaid : Prop := buildScaledRow.holds Try.pinned (OpenSpec.ofChange buildScaledSpec)

/-- ITS FALSE NEIGHBOUR: 'it returns false'. Refute it at one input. -/
def buildScaledWrong : ChangeSpec := { name := "buildScaled", fn := fun _ => fun
  | [d1, d2, d3] => { results := [.lit (.bool false)], args := [d1, d2, d3] }
  | _ => none }
def BuildScaledWrongFalsely : Prop := buildScaledRow.holds Try.pinned (OpenSpec.ofChange buildScaledWrong)

/-- 'valiselaw6.BuildSpread': WHATEVER THE INPUT: true; the input reads as it did. -/
def buildSpreadSpec : ChangeSpec := { name := "buildSpread", fn := fun _ => fun
  | [d1, d2, d3] => { results := [.lit (.bool true)], args := [d1, d2, d3] }
  | _ => none }
def buildSpreadRow : OpenClaim := { program := "ytbegkkmngkpjmaa", sum := "b22582db568dd471c068026401bdffc9dbfdacd01d7203a323df9ae87614e762", func := "valise/valiselaw6.BuildSpread", spec := "buildSpread", unfollowed := true, recurses := true, apart := false }
def BuildSpreadSaid : Prop := buildSpreadRow.holds Try.pinned (OpenSpec.ofChange buildSpreadSpec)

/-- ITS FALSE NEIGHBOUR: 'it returns false'. Refute it at one input. -/
def buildSpreadWrong : ChangeSpec := { name := "buildSpread", fn := fun _ => fun
  | [d1, d2, d3] => { results := [.lit (.bool false)], args := [d1, d2, d3] }
  | _ => none }
def BuildSpreadWrongFalsely : Prop := buildSpreadRow.holds Try.pinned (OpenSpec.ofChange buildSpreadWrong)

/-- 'valiselaw6.BuildLimits': WHATEVER THE INPUT: true; the input reads as it did. -/
def buildLimitsSpec : ChangeSpec := { name := "buildLimits", fn := fun _ => fun
  | [d1, d2] => { results := [.lit (.bool true)], args := [d1, d2] }
  | _ => none }
def buildLimitsRow : OpenClaim := { program := "ytbegkkmngkpjmaa", sum := "b22582db568dd471c068026401bdffc9dbfdacd01d7203a323df9ae87614e762", func := "valise/valiselaw6.BuildLimits", spec := "buildLimits", unfollowed := true, recurses := true, apart := false }
def BuildLimitsSaid : Prop := buildLimitsRow.holds Try.pinned (OpenSpec.ofChange buildLimitsSpec)

/-- ITS FALSE NEIGHBOUR: 'it returns false'. Refute it at one input. -/
def buildLimitsWrong : ChangeSpec := { name := "buildLimits", fn := fun _ => fun
  | [d1, d2] => { results := [.lit (.bool false)], args := [d1, d2] }
  | _ => none }
def BuildLimitsWrongFalsely : Prop := buildLimitsRow.holds Try.pinned (OpenSpec.ofChange buildLimitsWrong)

/-- 'valiselaw6.BuildOwn': WHATEVER THE INPUT: true; the input reads as it did. -/
def buildOwnSpec : ChangeSpec := { name := "buildOwn", fn := fun _ => fun
  | [d1, d2] => { results := [.lit (.bool true)], args := [d1, d2] }
  | _ => none }
def buildOwnRow : OpenClaim := { program := "ytbegkkmngkpjmaa", sum := "b22582db568dd471c068026401bdffc9dbfdacd01d7203a323df9ae87614e762", func := "valise/valiselaw6.BuildOwn", spec := "buildOwn", unfollowed := true, recurses := true, apart := false }
def BuildOwnSaid : Prop := buildOwnRow.holds Try.pinned (OpenSpec.ofChange buildOwnSpec)

/-- ITS FALSE NEIGHBOUR: 'it returns false'. Refute it at one input. -/
def buildOwnWrong : ChangeSpec := { name := "buildOwn", fn := fun _ => fun
  | [d1, d2] => { results := [.lit (.bool false)], args := [d1, d2] }
  | _ => none }
def BuildOwnWrongFalsely : Prop := buildOwnRow.holds Try.pinned (OpenSpec.ofChange buildOwnWrong)

/-- 'valiselaw6.BuildCoded': WHATEVER THE INPUT: true; the input reads as it did. -/
def buildCodedSpec : ChangeSpec := { name := "buildCoded", fn := fun _ => fun
  | [d1, d2, d3] => { results := [.lit (.bool true)], args := [d1, d2, d3] }
  | _ => none }
def buildCodedRow : OpenClaim := { program := "ytbegkkmngkpjmaa", sum := "b22582db568dd471c068026401bdffc9dbfdacd01d7203a323df9ae87614e762", func := "valise/valiselaw6.BuildCoded", spec := "buildCoded", unfollowed := true, recurses := true, apart := false }
def BuildCodedSaid : Prop := buildCodedRow.holds Try.pinned (OpenSpec.ofChange buildCodedSpec)

/-- ITS FALSE NEIGHBOUR: 'it returns false'. Refute it at one input. -/
def buildCodedWrong : ChangeSpec := { name := "buildCoded", fn := fun _ => fun
  | [d1, d2, d3] => { results := [.lit (.bool false)], args := [d1, d2, d3] }
  | _ => none }
def BuildCodedWrongFalsely : Prop := buildCodedRow.holds Try.pinned (OpenSpec.ofChange buildCodedWrong)

/- THE SECOND FORM. 'bulk': how many values and letters a reading holds, each counted each time it is reached (what is shared counts as often as it is met; a slice's spare places count too). A statement '..UptoSaid' is the law's where the arguments, and the package variables that the reading takes, are together of bulk at most 1048576: NARROWER than '..Said'. Prove '..Said' where nothing that the law and all that it calls make is longer than what came in: it says more and counts as full. Else prove '..UptoSaid'. A law counts once. -/
mutual
def uptoBulk {H : Type} : DataW H → Nat
  | .lit (.string bytes) => bytes.length + 1
  | .lit _ => 1
  | .nil => 1
  | .ptr d => uptoBulk d + 1
  | .slice elems spare => uptoBulkAll elems + uptoBulkAll spare + 1
  | .agg parts => uptoBulkAll parts + 1
  | .iface _ d => uptoBulk d + 1
  | .map entries => uptoBulkEntries entries + 1
  | .held _ => 1
def uptoBulkAll {H : Type} : List (DataW H) → Nat
  | [] => 0
  | d :: r => uptoBulk d + uptoBulkAll r
def uptoBulkEntries {H : Type} : List (Lit × DataW H) → Nat
  | [] => 0
  | x :: r => uptoBulkEntry x + uptoBulkEntries r
def uptoBulkEntry {H : Type} : Lit × DataW H → Nat
  | (.string bytes, d) => bytes.length + uptoBulk d + 1
  | (_, d) => uptoBulk d + 1
 end
def uptoSmall : (H : Type) → List (DataW H) → Bool := fun _ ds => decide (uptoBulkAll ds ≤ 1048576)
def OpenSpec.upto (s : _root_.Go.ChangeSpec) : _root_.Go.OpenSpec := { _root_.Go.OpenSpec.ofChange s with cond := some uptoSmall }

/-- 'valiselaw6.BuildCosts', WHERE WHAT IT READS IS OF BULK AT MOST 1048576: true; the input reads as it did. -/
def buildCostsUptoRow : OpenClaim := { program := "ytbegkkmngkpjmaa", sum := "b22582db568dd471c068026401bdffc9dbfdacd01d7203a323df9ae87614e762", func := "valise/valiselaw6.BuildCosts", spec := "buildCosts", apart := false, narrowed := true }
def BuildCostsUptoSaid : Prop := buildCostsUptoRow.holds Try.pinned (OpenSpec.upto buildCostsSpec)

/-- 'valiselaw6.BuildDepths', WHERE WHAT IT READS IS OF BULK AT MOST 1048576: true; the input reads as it did. -/
def buildDepthsUptoRow : OpenClaim := { program := "ytbegkkmngkpjmaa", sum := "b22582db568dd471c068026401bdffc9dbfdacd01d7203a323df9ae87614e762", func := "valise/valiselaw6.BuildDepths", spec := "buildDepths", apart := false, narrowed := true }
def BuildDepthsUptoSaid : Prop := buildDepthsUptoRow.holds Try.pinned (OpenSpec.upto buildDepthsSpec)

/-- 'valiselaw6.BuildHuffman', WHERE WHAT IT READS IS OF BULK AT MOST 1048576: true; the input reads as it did. -/
def buildHuffmanUptoRow : OpenClaim := { program := "ytbegkkmngkpjmaa", sum := "b22582db568dd471c068026401bdffc9dbfdacd01d7203a323df9ae87614e762", func := "valise/valiselaw6.BuildHuffman", spec := "buildHuffman", apart := false, narrowed := true }
def BuildHuffmanUptoSaid : Prop := buildHuffmanUptoRow.holds Try.pinned (OpenSpec.upto buildHuffmanSpec)

/-- 'valiselaw6.BuildLimited', WHERE WHAT IT READS IS OF BULK AT MOST 1048576: true; the input reads as it did. -/
def buildLimitedUptoRow : OpenClaim := { program := "ytbegkkmngkpjmaa", sum := "b22582db568dd471c068026401bdffc9dbfdacd01d7203a323df9ae87614e762", func := "valise/valiselaw6.BuildLimited", spec := "buildLimited", unfollowed := true, recurses := true, apart := false, narrowed := true }
def BuildLimitedUptoSaid : Prop := buildLimitedUptoRow.holds Try.pinned (OpenSpec.upto buildLimitedSpec)

/-- 'valiselaw6.BuildPacked', WHERE WHAT IT READS IS OF BULK AT MOST 1048576: true; the input reads as it did. -/
def buildPackedUptoRow : OpenClaim := { program := "ytbegkkmngkpjmaa", sum := "b22582db568dd471c068026401bdffc9dbfdacd01d7203a323df9ae87614e762", func := "valise/valiselaw6.BuildPacked", spec := "buildPacked", unfollowed := true, recurses := true, apart := false, narrowed := true }
def BuildPackedUptoSaid : Prop := buildPackedUptoRow.holds Try.pinned (OpenSpec.upto buildPackedSpec)

/-- 'valiselaw6.BuildComplete', WHERE WHAT IT READS IS OF BULK AT MOST 1048576: true; the input reads as it did. -/
def buildCompleteUptoRow : OpenClaim := { program := "ytbegkkmngkpjmaa", sum := "b22582db568dd471c068026401bdffc9dbfdacd01d7203a323df9ae87614e762", func := "valise/valiselaw6.BuildComplete", spec := "buildComplete", unfollowed := true, recurses := true, apart := false, narrowed := true }
def BuildCompleteUptoSaid : Prop := buildCompleteUptoRow.holds Try.pinned (OpenSpec.upto buildCompleteSpec)

/-- 'valiselaw6.BuildOrder', WHERE WHAT IT READS IS OF BULK AT MOST 1048576: true; the input reads as it did. -/
def buildOrderUptoRow : OpenClaim := { program := "ytbegkkmngkpjmaa", sum := "b22582db568dd471c068026401bdffc9dbfdacd01d7203a323df9ae87614e762", func := "valise/valiselaw6.BuildOrder", spec := "buildOrder", unfollowed := true, recurses := true, apart := false, narrowed := true }
def BuildOrderUptoSaid : Prop := buildOrderUptoRow.holds Try.pinned (OpenSpec.upto buildOrderSpec)

/-- 'valiselaw6.BuildScaled', WHERE WHAT IT READS IS OF BULK AT MOST 1048576: true; the input reads as it did. -/
def buildScaledUptoRow : OpenClaim := { program := "ytbegkkmngkpjmaa", sum := "b22582db568dd471c068026401bdffc9dbfdacd01d7203a323df9ae87614e762", func := "valise/valiselaw6.BuildScaled", spec := "buildScaled", unfollowed := true, recurses := true, apart := false, narrowed := true }
def BuildScaledUptoSaid : Prop := buildScaledUptoRow.holds Try.pinned (OpenSpec.upto buildScaledSpec)

/-- 'valiselaw6.BuildSpread', WHERE WHAT IT READS IS OF BULK AT MOST 1048576: true; the input reads as it did. -/
def buildSpreadUptoRow : OpenClaim := { program := "ytbegkkmngkpjmaa", sum := "b22582db568dd471c068026401bdffc9dbfdacd01d7203a323df9ae87614e762", func := "valise/valiselaw6.BuildSpread", spec := "buildSpread", unfollowed := true, recurses := true, apart := false, narrowed := true }
def BuildSpreadUptoSaid : Prop := buildSpreadUptoRow.holds Try.pinned (OpenSpec.upto buildSpreadSpec)

/-- 'valiselaw6.BuildLimits', WHERE WHAT IT READS IS OF BULK AT MOST 1048576: true; the input reads as it did. -/
def buildLimitsUptoRow : OpenClaim := { program := "ytbegkkmngkpjmaa", sum := "b22582db568dd471c068026401bdffc9dbfdacd01d7203a323df9ae87614e762", func := "valise/valiselaw6.BuildLimits", spec := "buildLimits", unfollowed := true, recurses := true, apart := false, narrowed := true }
def BuildLimitsUptoSaid : Prop := buildLimitsUptoRow.holds Try.pinned (OpenSpec.upto buildLimitsSpec)

/-- 'valiselaw6.BuildOwn', WHERE WHAT IT READS IS OF BULK AT MOST 1048576: true; the input reads as it did. -/
def buildOwnUptoRow : OpenClaim := { program := "ytbegkkmngkpjmaa", sum := "b22582db568dd471c068026401bdffc9dbfdacd01d7203a323df9ae87614e762", func := "valise/valiselaw6.BuildOwn", spec := "buildOwn", unfollowed := true, recurses := true, apart := false, narrowed := true }
def BuildOwnUptoSaid : Prop := buildOwnUptoRow.holds Try.pinned (OpenSpec.upto buildOwnSpec)

/-- 'valiselaw6.BuildCoded', WHERE WHAT IT READS IS OF BULK AT MOST 1048576: true; the input reads as it did. -/
def buildCodedUptoRow : OpenClaim := { program := "ytbegkkmngkpjmaa", sum := "b22582db568dd471c068026401bdffc9dbfdacd01d7203a323df9ae87614e762", func := "valise/valiselaw6.BuildCoded", spec := "buildCoded", unfollowed := true, recurses := true, apart := false, narrowed := true }
def BuildCodedUptoSaid : Prop := buildCodedUptoRow.holds Try.pinned (OpenSpec.upto buildCodedSpec)

end Rows
end Go.Proofs.Ytbegkkmngkpjmaa
