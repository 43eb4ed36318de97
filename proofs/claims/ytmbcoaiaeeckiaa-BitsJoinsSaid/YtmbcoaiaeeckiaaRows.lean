/-
  No cell of these rows narrows 'for every input' (looked for: loops, veiled, ifaces, maps, wideKeys, modest, calm, conditions, laid).
  DERIVED. THE GIVEN ROWS OF THIS SEAT. 12 by the template 'for every input the law returns true; each argument reads behind the call as it read before'; 0 by the template 'total and deterministic' (their statements: YtmbcoaiaeeckiaaTotals.lean).
  GIVEN WITH THE SEED: the statements are not yours to turn. If you find one false, say at which input.
  Laid BY PROGRAM, IN A SANDBOX (cutbox-rows.mjs): the forced cells as the released guide's own fill.sh prints them over the translation e2113fdba89466a7… (all of the seat's roots in one cut). By AI agents, Wed Nov 11 2026. No macro, syntax, notation, axiom, sorry.
-/
import Derived.Test.YtmbcoaiaeeckiaaChecked
import GoSem.Claim
import GoSem.ClaimJoined
import GoSem.ClaimMapViews
import Derived.JoinedTies
import Derived.KernelRfl
namespace Go.Proofs.Ytmbcoaiaeeckiaa
/- THE CELL 'sum', in the pinned program and in every row, IS THE sha256 OF THE DUMP (.gsa) THAT YtmbcoaiaeeckiaaProg.lean LOADS. Nothing in Lean hashes anything: it is a label: what it is worth is what the hold of that sum in a sandbox is worth. -/
noncomputable def Try.pinned : Pinned := { name := "ytmbcoaiaeeckiaa", sum := "e2113fdba89466a7d7c5cee992a2995ed361cf0fff322815c7fd3eb3c64c6cff", checked := Try.checked }
namespace Rows
def none {H : Type} : Left H := { results := [], args := [] }

/-- 'valiselaw3.BitsReverses': WHATEVER THE INPUT: true; the input reads as it did. -/
def bitsReversesSpec : ChangeSpec := { name := "bitsReverses", fn := fun _ => fun
  | [d1, d2] => { results := [.lit (.bool true)], args := [d1, d2] }
  | _ => none }
def bitsReversesRow : OpenClaim := { program := "ytmbcoaiaeeckiaa", sum := "e2113fdba89466a7d7c5cee992a2995ed361cf0fff322815c7fd3eb3c64c6cff", func := "valise/valiselaw3.BitsReverses", spec := "bitsReverses", apart := false }
def BitsReversesSaid : Prop := bitsReversesRow.holds Try.pinned (OpenSpec.ofChange bitsReversesSpec)

/-- ITS FALSE NEIGHBOUR: 'it returns false'. Refute it at one input. -/
def bitsReversesWrong : ChangeSpec := { name := "bitsReverses", fn := fun _ => fun
  | [d1, d2] => { results := [.lit (.bool false)], args := [d1, d2] }
  | _ => none }
def BitsReversesWrongFalsely : Prop := bitsReversesRow.holds Try.pinned (OpenSpec.ofChange bitsReversesWrong)

/-- 'valiselaw3.BitsJoins': WHATEVER THE INPUT: true; the input reads as it did. -/
def bitsJoinsSpec : ChangeSpec := { name := "bitsJoins", fn := fun _ => fun
  | [d1, d2] => { results := [.lit (.bool true)], args := [d1, d2] }
  | _ => none }
def bitsJoinsRow : OpenClaim := { program := "ytmbcoaiaeeckiaa", sum := "e2113fdba89466a7d7c5cee992a2995ed361cf0fff322815c7fd3eb3c64c6cff", func := "valise/valiselaw3.BitsJoins", spec := "bitsJoins", apart := false }
def BitsJoinsSaid : Prop := bitsJoinsRow.holds Try.pinned (OpenSpec.ofChange bitsJoinsSpec)

/-- ITS FALSE NEIGHBOUR: 'it returns false'. Refute it at one input. -/
def bitsJoinsWrong : ChangeSpec := { name := "bitsJoins", fn := fun _ => fun
  | [d1, d2] => { results := [.lit (.bool false)], args := [d1, d2] }
  | _ => none }
def BitsJoinsWrongFalsely : Prop := bitsJoinsRow.holds Try.pinned (OpenSpec.ofChange bitsJoinsWrong)

/-- 'valiselaw3.BitsPeeks': WHATEVER THE INPUT: true; the input reads as it did. -/
def bitsPeeksSpec : ChangeSpec := { name := "bitsPeeks", fn := fun _ => fun
  | [d1, d2] => { results := [.lit (.bool true)], args := [d1, d2] }
  | _ => none }
def bitsPeeksRow : OpenClaim := { program := "ytmbcoaiaeeckiaa", sum := "e2113fdba89466a7d7c5cee992a2995ed361cf0fff322815c7fd3eb3c64c6cff", func := "valise/valiselaw3.BitsPeeks", spec := "bitsPeeks", apart := false }
def BitsPeeksSaid : Prop := bitsPeeksRow.holds Try.pinned (OpenSpec.ofChange bitsPeeksSpec)

/-- ITS FALSE NEIGHBOUR: 'it returns false'. Refute it at one input. -/
def bitsPeeksWrong : ChangeSpec := { name := "bitsPeeks", fn := fun _ => fun
  | [d1, d2] => { results := [.lit (.bool false)], args := [d1, d2] }
  | _ => none }
def BitsPeeksWrongFalsely : Prop := bitsPeeksRow.holds Try.pinned (OpenSpec.ofChange bitsPeeksWrong)

/-- 'valiselaw3.BitsWrites': WHATEVER THE INPUT: true; the input reads as it did. -/
def bitsWritesSpec : ChangeSpec := { name := "bitsWrites", fn := fun _ => fun
  | [d] => { results := [.lit (.bool true)], args := [d] }
  | _ => none }
def bitsWritesRow : OpenClaim := { program := "ytmbcoaiaeeckiaa", sum := "e2113fdba89466a7d7c5cee992a2995ed361cf0fff322815c7fd3eb3c64c6cff", func := "valise/valiselaw3.BitsWrites", spec := "bitsWrites", apart := false }
def BitsWritesSaid : Prop := bitsWritesRow.holds Try.pinned (OpenSpec.ofChange bitsWritesSpec)

/-- ITS FALSE NEIGHBOUR: 'it returns false'. Refute it at one input. -/
def bitsWritesWrong : ChangeSpec := { name := "bitsWrites", fn := fun _ => fun
  | [d] => { results := [.lit (.bool false)], args := [d] }
  | _ => none }
def BitsWritesWrongFalsely : Prop := bitsWritesRow.holds Try.pinned (OpenSpec.ofChange bitsWritesWrong)

/-- 'valiselaw3.BitsOwn': WHATEVER THE INPUT: true; the input reads as it did. -/
def bitsOwnSpec : ChangeSpec := { name := "bitsOwn", fn := fun _ => fun
  | [d] => { results := [.lit (.bool true)], args := [d] }
  | _ => none }
def bitsOwnRow : OpenClaim := { program := "ytmbcoaiaeeckiaa", sum := "e2113fdba89466a7d7c5cee992a2995ed361cf0fff322815c7fd3eb3c64c6cff", func := "valise/valiselaw3.BitsOwn", spec := "bitsOwn", apart := false }
def BitsOwnSaid : Prop := bitsOwnRow.holds Try.pinned (OpenSpec.ofChange bitsOwnSpec)

/-- ITS FALSE NEIGHBOUR: 'it returns false'. Refute it at one input. -/
def bitsOwnWrong : ChangeSpec := { name := "bitsOwn", fn := fun _ => fun
  | [d] => { results := [.lit (.bool false)], args := [d] }
  | _ => none }
def BitsOwnWrongFalsely : Prop := bitsOwnRow.holds Try.pinned (OpenSpec.ofChange bitsOwnWrong)

/-- 'valiselaw3.BitsMirror': WHATEVER THE INPUT: true; the input reads as it did. -/
def bitsMirrorSpec : ChangeSpec := { name := "bitsMirror", fn := fun _ => fun
  | [d1, d2] => { results := [.lit (.bool true)], args := [d1, d2] }
  | _ => none }
def bitsMirrorRow : OpenClaim := { program := "ytmbcoaiaeeckiaa", sum := "e2113fdba89466a7d7c5cee992a2995ed361cf0fff322815c7fd3eb3c64c6cff", func := "valise/valiselaw3.BitsMirror", spec := "bitsMirror", apart := false }
def BitsMirrorSaid : Prop := bitsMirrorRow.holds Try.pinned (OpenSpec.ofChange bitsMirrorSpec)

/-- ITS FALSE NEIGHBOUR: 'it returns false'. Refute it at one input. -/
def bitsMirrorWrong : ChangeSpec := { name := "bitsMirror", fn := fun _ => fun
  | [d1, d2] => { results := [.lit (.bool false)], args := [d1, d2] }
  | _ => none }
def BitsMirrorWrongFalsely : Prop := bitsMirrorRow.holds Try.pinned (OpenSpec.ofChange bitsMirrorWrong)

/-- 'valiselaw3.BitsReads': WHATEVER THE INPUT: true; the input reads as it did. -/
def bitsReadsSpec : ChangeSpec := { name := "bitsReads", fn := fun _ => fun
  | [d1, d2, d3] => { results := [.lit (.bool true)], args := [d1, d2, d3] }
  | _ => none }
def bitsReadsRow : OpenClaim := { program := "ytmbcoaiaeeckiaa", sum := "e2113fdba89466a7d7c5cee992a2995ed361cf0fff322815c7fd3eb3c64c6cff", func := "valise/valiselaw3.BitsReads", spec := "bitsReads", apart := false }
def BitsReadsSaid : Prop := bitsReadsRow.holds Try.pinned (OpenSpec.ofChange bitsReadsSpec)

/-- ITS FALSE NEIGHBOUR: 'it returns false'. Refute it at one input. -/
def bitsReadsWrong : ChangeSpec := { name := "bitsReads", fn := fun _ => fun
  | [d1, d2, d3] => { results := [.lit (.bool false)], args := [d1, d2, d3] }
  | _ => none }
def BitsReadsWrongFalsely : Prop := bitsReadsRow.holds Try.pinned (OpenSpec.ofChange bitsReadsWrong)

/-- 'valiselaw3.BitsPlaces': WHATEVER THE INPUT: true; the input reads as it did. -/
def bitsPlacesSpec : ChangeSpec := { name := "bitsPlaces", fn := fun _ => fun
  | [d] => { results := [.lit (.bool true)], args := [d] }
  | _ => none }
def bitsPlacesRow : OpenClaim := { program := "ytmbcoaiaeeckiaa", sum := "e2113fdba89466a7d7c5cee992a2995ed361cf0fff322815c7fd3eb3c64c6cff", func := "valise/valiselaw3.BitsPlaces", spec := "bitsPlaces", apart := false }
def BitsPlacesSaid : Prop := bitsPlacesRow.holds Try.pinned (OpenSpec.ofChange bitsPlacesSpec)

/-- ITS FALSE NEIGHBOUR: 'it returns false'. Refute it at one input. -/
def bitsPlacesWrong : ChangeSpec := { name := "bitsPlaces", fn := fun _ => fun
  | [d] => { results := [.lit (.bool false)], args := [d] }
  | _ => none }
def BitsPlacesWrongFalsely : Prop := bitsPlacesRow.holds Try.pinned (OpenSpec.ofChange bitsPlacesWrong)

/-- 'valiselaw3.BitsCuts': WHATEVER THE INPUT: true; the input reads as it did. -/
def bitsCutsSpec : ChangeSpec := { name := "bitsCuts", fn := fun _ => fun
  | [d1, d2, d3, d4, d5] => { results := [.lit (.bool true)], args := [d1, d2, d3, d4, d5] }
  | _ => none }
def bitsCutsRow : OpenClaim := { program := "ytmbcoaiaeeckiaa", sum := "e2113fdba89466a7d7c5cee992a2995ed361cf0fff322815c7fd3eb3c64c6cff", func := "valise/valiselaw3.BitsCuts", spec := "bitsCuts", apart := false }
def BitsCutsSaid : Prop := bitsCutsRow.holds Try.pinned (OpenSpec.ofChange bitsCutsSpec)

/-- ITS FALSE NEIGHBOUR: 'it returns false'. Refute it at one input. -/
def bitsCutsWrong : ChangeSpec := { name := "bitsCuts", fn := fun _ => fun
  | [d1, d2, d3, d4, d5] => { results := [.lit (.bool false)], args := [d1, d2, d3, d4, d5] }
  | _ => none }
def BitsCutsWrongFalsely : Prop := bitsCutsRow.holds Try.pinned (OpenSpec.ofChange bitsCutsWrong)

/-- 'valiselaw3.BitsMost': WHATEVER THE INPUT: true; the input reads as it did. -/
def bitsMostSpec : ChangeSpec := { name := "bitsMost", fn := fun _ => fun
  | [d1, d2] => { results := [.lit (.bool true)], args := [d1, d2] }
  | _ => none }
def bitsMostRow : OpenClaim := { program := "ytmbcoaiaeeckiaa", sum := "e2113fdba89466a7d7c5cee992a2995ed361cf0fff322815c7fd3eb3c64c6cff", func := "valise/valiselaw3.BitsMost", spec := "bitsMost", apart := false }
def BitsMostSaid : Prop := bitsMostRow.holds Try.pinned (OpenSpec.ofChange bitsMostSpec)

/-- ITS FALSE NEIGHBOUR: 'it returns false'. Refute it at one input. -/
def bitsMostWrong : ChangeSpec := { name := "bitsMost", fn := fun _ => fun
  | [d1, d2] => { results := [.lit (.bool false)], args := [d1, d2] }
  | _ => none }
def BitsMostWrongFalsely : Prop := bitsMostRow.holds Try.pinned (OpenSpec.ofChange bitsMostWrong)

/-- 'valiselaw3.BitsRound': WHATEVER THE INPUT: true; the input reads as it did. -/
def bitsRoundSpec : ChangeSpec := { name := "bitsRound", fn := fun _ => fun
  | [d] => { results := [.lit (.bool true)], args := [d] }
  | _ => none }
def bitsRoundRow : OpenClaim := { program := "ytmbcoaiaeeckiaa", sum := "e2113fdba89466a7d7c5cee992a2995ed361cf0fff322815c7fd3eb3c64c6cff", func := "valise/valiselaw3.BitsRound", spec := "bitsRound", apart := false }
def BitsRoundSaid : Prop := bitsRoundRow.holds Try.pinned (OpenSpec.ofChange bitsRoundSpec)

/-- ITS FALSE NEIGHBOUR: 'it returns false'. Refute it at one input. -/
def bitsRoundWrong : ChangeSpec := { name := "bitsRound", fn := fun _ => fun
  | [d] => { results := [.lit (.bool false)], args := [d] }
  | _ => none }
def BitsRoundWrongFalsely : Prop := bitsRoundRow.holds Try.pinned (OpenSpec.ofChange bitsRoundWrong)

/-- 'valiselaw3.BitsNil': WHATEVER THE INPUT: true; the input reads as it did. -/
def bitsNilSpec : ChangeSpec := { name := "bitsNil", fn := fun _ => fun
  | [d1, d2, d3] => { results := [.lit (.bool true)], args := [d1, d2, d3] }
  | _ => none }
def bitsNilRow : OpenClaim := { program := "ytmbcoaiaeeckiaa", sum := "e2113fdba89466a7d7c5cee992a2995ed361cf0fff322815c7fd3eb3c64c6cff", func := "valise/valiselaw3.BitsNil", spec := "bitsNil", apart := false }
def BitsNilSaid : Prop := bitsNilRow.holds Try.pinned (OpenSpec.ofChange bitsNilSpec)

/-- ITS FALSE NEIGHBOUR: 'it returns false'. Refute it at one input. -/
def bitsNilWrong : ChangeSpec := { name := "bitsNil", fn := fun _ => fun
  | [d1, d2, d3] => { results := [.lit (.bool false)], args := [d1, d2, d3] }
  | _ => none }
def BitsNilWrongFalsely : Prop := bitsNilRow.holds Try.pinned (OpenSpec.ofChange bitsNilWrong)

/- THE SECOND FORM. 'bulk': how many values and letters a reading holds, each counted each time it is reached (what is shared counts as often as it is met; a slice's spare places count too). A statement '..UptoSaid' is the law's where the arguments, and the package variables that the reading takes, are together of bulk at most 1048576: NARROWER than '..Said'. Prove '..Said' where nothing that the law and all that it calls make is longer than what came in: it says more and counts as full. Else prove '..UptoSaid'. A law counts once. -/
mutual
def uptoBulk {H : Type} : DataW H → Nat
  | .lit (.string bytes) => bytes.length + 1
  | .lit _ => 1
  | .nil => 1
  | .ptr d => uptoBulk d + 1
  | .slice elems spare => uptoBulkAll elems + uptoBulkAll spare + 1
  | .agg parts => uptoBulkAll parts + 1
  | .iface _ d => uptoBulk d + 1
  | .map entries => uptoBulkEntries entries + 1
  | .held _ => 1
def uptoBulkAll {H : Type} : List (DataW H) → Nat
  | [] => 0
  | d :: r => uptoBulk d + uptoBulkAll r
def uptoBulkEntries {H : Type} : List (Lit × DataW H) → Nat
  | [] => 0
  | x :: r => uptoBulkEntry x + uptoBulkEntries r
def uptoBulkEntry {H : Type} : Lit × DataW H → Nat
  | (.string bytes, d) => bytes.length + uptoBulk d + 1
  | (_, d) => uptoBulk d + 1
 end
def uptoSmall : (H : Type) → List (DataW H) → Bool := fun _ ds => decide (uptoBulkAll ds ≤ 1048576)
def OpenSpec.upto (s : _root_.Go.ChangeSpec) : _root_.Go.OpenSpec := { _root_.Go.OpenSpec.ofChange s with cond := some uptoSmall }

/-- 'valiselaw3.BitsReverses', WHERE WHAT IT READS IS OF BULK AT MOST 1048576: true; the input reads as it did. -/
def bitsReversesUptoRow : OpenClaim := { program := "ytmbcoaiaeeckiaa", sum := "e2113fdba89466a7d7c5cee992a2995ed361cf0fff322815c7fd3eb3c64c6cff", func := "valise/valiselaw3.BitsReverses", spec := "bitsReverses", apart := false, narrowed := true }
def BitsReversesUptoSaid : Prop := bitsReversesUptoRow.holds Try.pinned (OpenSpec.upto bitsReversesSpec)

/-- 'valiselaw3.BitsJoins', WHERE WHAT IT READS IS OF BULK AT MOST 1048576: true; the input reads as it did. -/
def bitsJoinsUptoRow : OpenClaim := { program := "ytmbcoaiaeeckiaa", sum := "e2113fdba89466a7d7c5cee992a2995ed361cf0fff322815c7fd3eb3c64c6cff", func := "valise/valiselaw3.BitsJoins", spec := "bitsJoins", apart := false, narrowed := true }
def BitsJoinsUptoSaid : Prop := bitsJoinsUptoRow.holds Try.pinned (OpenSpec.upto bitsJoinsSpec)

/-- 'valiselaw3.BitsPeeks', WHERE WHAT IT READS IS OF BULK AT MOST 1048576: true; the input reads as it did. -/
def bitsPeeksUptoRow : OpenClaim := { program := "ytmbcoaiaeeckiaa", sum := "e2113fdba89466a7d7c5cee992a2995ed361cf0fff322815c7fd3eb3c64c6cff", func := "valise/valiselaw3.BitsPeeks", spec := "bitsPeeks", apart := false, narrowed := true }
def BitsPeeksUptoSaid : Prop := bitsPeeksUptoRow.holds Try.pinned (OpenSpec.upto bitsPeeksSpec)

/-- 'valiselaw3.BitsWrites', WHERE WHAT IT READS IS OF BULK AT MOST 1048576: true; the input reads as it did. -/
def bitsWritesUptoRow : OpenClaim := { program := "ytmbcoaiaeeckiaa", sum := "e2113fdba89466a7d7c5cee992a2995ed361cf0fff322815c7fd3eb3c64c6cff", func := "valise/valiselaw3.BitsWrites", spec := "bitsWrites", apart := false, narrowed := true }
def BitsWritesUptoSaid : Prop := bitsWritesUptoRow.holds Try.pinned (OpenSpec.upto bitsWritesSpec)

/-- 'valiselaw3.BitsOwn', WHERE WHAT IT READS IS OF BULK AT MOST 1048576: true; the input reads as it did. -/
def bitsOwnUptoRow : OpenClaim := { program := "ytmbcoaiaeeckiaa", sum := "e2113fdba89466a7d7c5cee992a2995ed361cf0fff322815c7fd3eb3c64c6cff", func := "valise/valiselaw3.BitsOwn", spec := "bitsOwn", apart := false, narrowed := true }
def BitsOwnUptoSaid : Prop := bitsOwnUptoRow.holds Try.pinned (OpenSpec.upto bitsOwnSpec)

/-- 'valiselaw3.BitsMirror', WHERE WHAT IT READS IS OF BULK AT MOST 1048576: true; the input reads as it did. -/
def bitsMirrorUptoRow : OpenClaim := { program := "ytmbcoaiaeeckiaa", sum := "e2113fdba89466a7d7c5cee992a2995ed361cf0fff322815c7fd3eb3c64c6cff", func := "valise/valiselaw3.BitsMirror", spec := "bitsMirror", apart := false, narrowed := true }
def BitsMirrorUptoSaid : Prop := bitsMirrorUptoRow.holds Try.pinned (OpenSpec.upto bitsMirrorSpec)

/-- 'valiselaw3.BitsReads', WHERE WHAT IT READS IS OF BULK AT MOST 1048576: true; the input reads as it did. -/
def bitsReadsUptoRow : OpenClaim := { program := "ytmbcoaiaeeckiaa", sum := "e2113fdba89466a7d7c5cee992a2995ed361cf0fff322815c7fd3eb3c64c6cff", func := "valise/valiselaw3.BitsReads", spec := "bitsReads", apart := false, narrowed := true }
def BitsReadsUptoSaid : Prop := bitsReadsUptoRow.holds Try.pinned (OpenSpec.upto bitsReadsSpec)

/-- 'valiselaw3.BitsPlaces', WHERE WHAT IT READS IS OF BULK AT MOST 1048576: true; the input reads as it did. -/
def bitsPlacesUptoRow : OpenClaim := { program := "ytmbcoaiaeeckiaa", sum := "e2113fdba89466a7d7c5cee992a2995ed361cf0fff322815c7fd3eb3c64c6cff", func := "valise/valiselaw3.BitsPlaces", spec := "bitsPlaces", apart := false, narrowed := true }
def BitsPlacesUptoSaid : Prop := bitsPlacesUptoRow.holds Try.pinned (OpenSpec.upto bitsPlacesSpec)

/-- 'valiselaw3.BitsCuts', WHERE WHAT IT READS IS OF BULK AT MOST 1048576: true; the input reads as it did. -/
def bitsCutsUptoRow : OpenClaim := { program := "ytmbcoaiaeeckiaa", sum := "e2113fdba89466a7d7c5cee992a2995ed361cf0fff322815c7fd3eb3c64c6cff", func := "valise/valiselaw3.BitsCuts", spec := "bitsCuts", apart := false, narrowed := true }
def BitsCutsUptoSaid : Prop := bitsCutsUptoRow.holds Try.pinned (OpenSpec.upto bitsCutsSpec)

/-- 'valiselaw3.BitsMost', WHERE WHAT IT READS IS OF BULK AT MOST 1048576: true; the input reads as it did. -/
def bitsMostUptoRow : OpenClaim := { program := "ytmbcoaiaeeckiaa", sum := "e2113fdba89466a7d7c5cee992a2995ed361cf0fff322815c7fd3eb3c64c6cff", func := "valise/valiselaw3.BitsMost", spec := "bitsMost", apart := false, narrowed := true }
def BitsMostUptoSaid : Prop := bitsMostUptoRow.holds Try.pinned (OpenSpec.upto bitsMostSpec)

/-- 'valiselaw3.BitsRound', WHERE WHAT IT READS IS OF BULK AT MOST 1048576: true; the input reads as it did. -/
def bitsRoundUptoRow : OpenClaim := { program := "ytmbcoaiaeeckiaa", sum := "e2113fdba89466a7d7c5cee992a2995ed361cf0fff322815c7fd3eb3c64c6cff", func := "valise/valiselaw3.BitsRound", spec := "bitsRound", apart := false, narrowed := true }
def BitsRoundUptoSaid : Prop := bitsRoundUptoRow.holds Try.pinned (OpenSpec.upto bitsRoundSpec)

/-- 'valiselaw3.BitsNil', WHERE WHAT IT READS IS OF BULK AT MOST 1048576: true; the input reads as it did. -/
def bitsNilUptoRow : OpenClaim := { program := "ytmbcoaiaeeckiaa", sum := "e2113fdba89466a7d7c5cee992a2995ed361cf0fff322815c7fd3eb3c64c6cff", func := "valise/valiselaw3.BitsNil", spec := "bitsNil", apart := false, narrowed := true }
def BitsNilUptoSaid : Prop := bitsNilUptoRow.holds Try.pinned (OpenSpec.upto bitsNilSpec)

end Rows
end Go.Proofs.Ytmbcoaiaeeckiaa
