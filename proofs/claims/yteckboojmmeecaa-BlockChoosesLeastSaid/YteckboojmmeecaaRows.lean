/-
  No cell of these rows narrows 'for every input' (looked for: loops, veiled, ifaces, maps, wideKeys, modest, calm, conditions, laid).
  DERIVED. THE GIVEN ROWS OF THIS SEAT. 6 by the template 'for every input the law returns true; each argument reads behind the call as it read before'; 0 by the template 'total and deterministic' (their statements: YteckboojmmeecaaTotals.lean).
  GIVEN WITH THE SEED: the statements are not yours to turn. If you find one false, say at which input.
  Laid BY PROGRAM, IN A SANDBOX (cutbox-rows.mjs): the forced cells as the released guide's own fill.sh prints them over the translation 679c9358f3a60666… (all of the seat's roots in one cut). By AI agents, Wed Nov 11 2026. No macro, syntax, notation, axiom, sorry.
-/
import Derived.Test.YteckboojmmeecaaChecked
import GoSem.Claim
import GoSem.ClaimJoined
import GoSem.ClaimMapViews
import Derived.JoinedTies
import Derived.KernelRfl
namespace Go.Proofs.Yteckboojmmeecaa
/- THE CELL 'sum', in the pinned program and in every row, IS THE sha256 OF THE DUMP (.gsa) THAT YteckboojmmeecaaProg.lean LOADS. Nothing in Lean hashes anything: it is a label: what it is worth is what the hold of that sum in a sandbox is worth. -/
noncomputable def Try.pinned : Pinned := { name := "yteckboojmmeecaa", sum := "679c9358f3a60666d40c29541f3b78a548f666c051752f415eb50f206583e66a", checked := Try.checked }
namespace Rows
def none {H : Type} : Left H := { results := [], args := [] }

/-- 'valiselaw10.BlockChoosesLeast': WHATEVER THE INPUT: true; the input reads as it did. -/
def blockChoosesLeastSpec : ChangeSpec := { name := "blockChoosesLeast", fn := fun _ => fun
  | [d] => { results := [.lit (.bool true)], args := [d] }
  | _ => none }
def blockChoosesLeastRow : OpenClaim := { program := "yteckboojmmeecaa", sum := "679c9358f3a60666d40c29541f3b78a548f666c051752f415eb50f206583e66a", func := "valise/valiselaw10.BlockChoosesLeast", spec := "blockChoosesLeast", apart := false }
def BlockChoosesLeastSaid : Prop := blockChoosesLeastRow.holds Try.pinned (OpenSpec.ofChange blockChoosesLeastSpec)

/-- ITS FALSE NEIGHBOUR: 'it returns false'. Refute it at one input. -/
def blockChoosesLeastWrong : ChangeSpec := { name := "blockChoosesLeast", fn := fun _ => fun
  | [d] => { results := [.lit (.bool false)], args := [d] }
  | _ => none }
def BlockChoosesLeastWrongFalsely : Prop := blockChoosesLeastRow.holds Try.pinned (OpenSpec.ofChange blockChoosesLeastWrong)

/-- 'valiselaw3.BitsReverses': WHATEVER THE INPUT: true; the input reads as it did. -/
def bitsReversesSpec : ChangeSpec := { name := "bitsReverses", fn := fun _ => fun
  | [d1, d2] => { results := [.lit (.bool true)], args := [d1, d2] }
  | _ => none }
def bitsReversesRow : OpenClaim := { program := "yteckboojmmeecaa", sum := "679c9358f3a60666d40c29541f3b78a548f666c051752f415eb50f206583e66a", func := "valise/valiselaw3.BitsReverses", spec := "bitsReverses", apart := false }
def BitsReversesSaid : Prop := bitsReversesRow.holds Try.pinned (OpenSpec.ofChange bitsReversesSpec)

/-- ITS FALSE NEIGHBOUR: 'it returns false'. Refute it at one input. -/
def bitsReversesWrong : ChangeSpec := { name := "bitsReverses", fn := fun _ => fun
  | [d1, d2] => { results := [.lit (.bool false)], args := [d1, d2] }
  | _ => none }
def BitsReversesWrongFalsely : Prop := bitsReversesRow.holds Try.pinned (OpenSpec.ofChange bitsReversesWrong)

/-- 'valiselaw5.CodeFixed': WHATEVER THE INPUT: true; the input reads as it did. -/
def codeFixedSpec : ChangeSpec := { name := "codeFixed", fn := fun _ => fun
  | [] => { results := [.lit (.bool true)], args := [] }
  | _ => none }
def codeFixedRow : OpenClaim := { program := "yteckboojmmeecaa", sum := "679c9358f3a60666d40c29541f3b78a548f666c051752f415eb50f206583e66a", func := "valise/valiselaw5.CodeFixed", spec := "codeFixed", apart := false }
def CodeFixedSaid : Prop := codeFixedRow.holds Try.pinned (OpenSpec.ofChange codeFixedSpec)

/-- ITS FALSE NEIGHBOUR: 'it returns false'. Refute it at one input. -/
def codeFixedWrong : ChangeSpec := { name := "codeFixed", fn := fun _ => fun
  | [] => { results := [.lit (.bool false)], args := [] }
  | _ => none }
def CodeFixedWrongFalsely : Prop := codeFixedRow.holds Try.pinned (OpenSpec.ofChange codeFixedWrong)

/-- 'valiselaw6.BuildCosts': WHATEVER THE INPUT: true; the input reads as it did. -/
def buildCostsSpec : ChangeSpec := { name := "buildCosts", fn := fun _ => fun
  | [d1, d2] => { results := [.lit (.bool true)], args := [d1, d2] }
  | _ => none }
def buildCostsRow : OpenClaim := { program := "yteckboojmmeecaa", sum := "679c9358f3a60666d40c29541f3b78a548f666c051752f415eb50f206583e66a", func := "valise/valiselaw6.BuildCosts", spec := "buildCosts", apart := false }
def BuildCostsSaid : Prop := buildCostsRow.holds Try.pinned (OpenSpec.ofChange buildCostsSpec)

/-- ITS FALSE NEIGHBOUR: 'it returns false'. Refute it at one input. -/
def buildCostsWrong : ChangeSpec := { name := "buildCosts", fn := fun _ => fun
  | [d1, d2] => { results := [.lit (.bool false)], args := [d1, d2] }
  | _ => none }
def BuildCostsWrongFalsely : Prop := buildCostsRow.holds Try.pinned (OpenSpec.ofChange buildCostsWrong)

/-- 'valiselaw7.HeaderRuns': WHATEVER THE INPUT: true; the input reads as it did. -/
def headerRunsSpec : ChangeSpec := { name := "headerRuns", fn := fun _ => fun
  | [d] => { results := [.lit (.bool true)], args := [d] }
  | _ => none }
def headerRunsRow : OpenClaim := { program := "yteckboojmmeecaa", sum := "679c9358f3a60666d40c29541f3b78a548f666c051752f415eb50f206583e66a", func := "valise/valiselaw7.HeaderRuns", spec := "headerRuns", apart := false }
def HeaderRunsSaid : Prop := headerRunsRow.holds Try.pinned (OpenSpec.ofChange headerRunsSpec)

/-- ITS FALSE NEIGHBOUR: 'it returns false'. Refute it at one input. -/
def headerRunsWrong : ChangeSpec := { name := "headerRuns", fn := fun _ => fun
  | [d] => { results := [.lit (.bool false)], args := [d] }
  | _ => none }
def HeaderRunsWrongFalsely : Prop := headerRunsRow.holds Try.pinned (OpenSpec.ofChange headerRunsWrong)

/-- 'valiselaw5.CodeChecks': WHATEVER THE INPUT: true; the input reads as it did. -/
def codeChecksSpec : ChangeSpec := { name := "codeChecks", fn := fun _ => fun
  | [d] => { results := [.lit (.bool true)], args := [d] }
  | _ => none }
def codeChecksRow : OpenClaim := { program := "yteckboojmmeecaa", sum := "679c9358f3a60666d40c29541f3b78a548f666c051752f415eb50f206583e66a", func := "valise/valiselaw5.CodeChecks", spec := "codeChecks", apart := false }
def CodeChecksSaid : Prop := codeChecksRow.holds Try.pinned (OpenSpec.ofChange codeChecksSpec)

/-- ITS FALSE NEIGHBOUR: 'it returns false'. Refute it at one input. -/
def codeChecksWrong : ChangeSpec := { name := "codeChecks", fn := fun _ => fun
  | [d] => { results := [.lit (.bool false)], args := [d] }
  | _ => none }
def CodeChecksWrongFalsely : Prop := codeChecksRow.holds Try.pinned (OpenSpec.ofChange codeChecksWrong)

/- THE SECOND FORM. 'bulk': how many values and letters a reading holds, each counted each time it is reached (what is shared counts as often as it is met; a slice's spare places count too). A statement '..UptoSaid' is the law's where the arguments, and the package variables that the reading takes, are together of bulk at most 1048576: NARROWER than '..Said'. Prove '..Said' where nothing that the law and all that it calls make is longer than what came in: it says more and counts as full. Else prove '..UptoSaid'. A law counts once. -/
mutual
def uptoBulk {H : Type} : DataW H → Nat
  | .lit (.string bytes) => bytes.length + 1
  | .lit _ => 1
  | .nil => 1
  | .ptr d => uptoBulk d + 1
  | .slice elems spare => uptoBulkAll elems + uptoBulkAll spare + 1
  | .agg parts => uptoBulkAll parts + 1
  | .iface _ d => uptoBulk d + 1
  | .map entries => uptoBulkEntries entries + 1
  | .held _ => 1
def uptoBulkAll {H : Type} : List (DataW H) → Nat
  | [] => 0
  | d :: r => uptoBulk d + uptoBulkAll r
def uptoBulkEntries {H : Type} : List (Lit × DataW H) → Nat
  | [] => 0
  | x :: r => uptoBulkEntry x + uptoBulkEntries r
def uptoBulkEntry {H : Type} : Lit × DataW H → Nat
  | (.string bytes, d) => bytes.length + uptoBulk d + 1
  | (_, d) => uptoBulk d + 1
 end
def uptoSmall : (H : Type) → List (DataW H) → Bool := fun _ ds => decide (uptoBulkAll ds ≤ 1048576)
def OpenSpec.upto (s : _root_.Go.ChangeSpec) : _root_.Go.OpenSpec := { _root_.Go.OpenSpec.ofChange s with cond := some uptoSmall }

/-- 'valiselaw10.BlockChoosesLeast', WHERE WHAT IT READS IS OF BULK AT MOST 1048576: true; the input reads as it did. -/
def blockChoosesLeastUptoRow : OpenClaim := { program := "yteckboojmmeecaa", sum := "679c9358f3a60666d40c29541f3b78a548f666c051752f415eb50f206583e66a", func := "valise/valiselaw10.BlockChoosesLeast", spec := "blockChoosesLeast", apart := false, narrowed := true }
def BlockChoosesLeastUptoSaid : Prop := blockChoosesLeastUptoRow.holds Try.pinned (OpenSpec.upto blockChoosesLeastSpec)

/-- 'valiselaw3.BitsReverses', WHERE WHAT IT READS IS OF BULK AT MOST 1048576: true; the input reads as it did. -/
def bitsReversesUptoRow : OpenClaim := { program := "yteckboojmmeecaa", sum := "679c9358f3a60666d40c29541f3b78a548f666c051752f415eb50f206583e66a", func := "valise/valiselaw3.BitsReverses", spec := "bitsReverses", apart := false, narrowed := true }
def BitsReversesUptoSaid : Prop := bitsReversesUptoRow.holds Try.pinned (OpenSpec.upto bitsReversesSpec)

/-- 'valiselaw5.CodeFixed', WHERE WHAT IT READS IS OF BULK AT MOST 1048576: true; the input reads as it did. -/
def codeFixedUptoRow : OpenClaim := { program := "yteckboojmmeecaa", sum := "679c9358f3a60666d40c29541f3b78a548f666c051752f415eb50f206583e66a", func := "valise/valiselaw5.CodeFixed", spec := "codeFixed", apart := false, narrowed := true }
def CodeFixedUptoSaid : Prop := codeFixedUptoRow.holds Try.pinned (OpenSpec.upto codeFixedSpec)

/-- 'valiselaw6.BuildCosts', WHERE WHAT IT READS IS OF BULK AT MOST 1048576: true; the input reads as it did. -/
def buildCostsUptoRow : OpenClaim := { program := "yteckboojmmeecaa", sum := "679c9358f3a60666d40c29541f3b78a548f666c051752f415eb50f206583e66a", func := "valise/valiselaw6.BuildCosts", spec := "buildCosts", apart := false, narrowed := true }
def BuildCostsUptoSaid : Prop := buildCostsUptoRow.holds Try.pinned (OpenSpec.upto buildCostsSpec)

/-- 'valiselaw7.HeaderRuns', WHERE WHAT IT READS IS OF BULK AT MOST 1048576: true; the input reads as it did. -/
def headerRunsUptoRow : OpenClaim := { program := "yteckboojmmeecaa", sum := "679c9358f3a60666d40c29541f3b78a548f666c051752f415eb50f206583e66a", func := "valise/valiselaw7.HeaderRuns", spec := "headerRuns", apart := false, narrowed := true }
def HeaderRunsUptoSaid : Prop := headerRunsUptoRow.holds Try.pinned (OpenSpec.upto headerRunsSpec)

/-- 'valiselaw5.CodeChecks', WHERE WHAT IT READS IS OF BULK AT MOST 1048576: true; the input reads as it did. -/
def codeChecksUptoRow : OpenClaim := { program := "yteckboojmmeecaa", sum := "679c9358f3a60666d40c29541f3b78a548f666c051752f415eb50f206583e66a", func := "valise/valiselaw5.CodeChecks", spec := "codeChecks", apart := false, narrowed := true }
def CodeChecksUptoSaid : Prop := codeChecksUptoRow.holds Try.pinned (OpenSpec.upto codeChecksSpec)

end Rows
end Go.Proofs.Yteckboojmmeecaa
