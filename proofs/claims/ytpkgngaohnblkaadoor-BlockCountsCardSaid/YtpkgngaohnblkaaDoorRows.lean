/-
  NARROWER THAN 'FOR EVERY INPUT', by the rows' own cells (each row's printed sentence says how): BlockDistsOf: laid · BlockLengthSymbols: laid · BlockDistSymbols: laid · BlockLengthsOf: laid · BlockSymbolsGoBack: laid · BlockCounts: laid · BlockTrees: laid · BlockTreesAreBest: laid · BlockApart: laid · BlockMeasures: laid · BlockNeverWorse: laid · BlockJustSoMany: laid · BlockInflates: laid.
  DERIVED. THE GIVEN ROWS OF THIS SEAT. 13 by the template 'for every input the law returns true; each argument reads behind the call as it read before'; 0 by the template 'total and deterministic' (their statements: YtpkgngaohnblkaaDoorTotals.lean).
  GIVEN WITH THE SEED: the statements are not yours to turn. If you find one false, say at which input.
  Laid BY PROGRAM, IN A SANDBOX (cutbox-rows.mjs): the forced cells as the released guide's own fill.sh prints them over the translation 97c8e3778e671bd4… (all of the seat's roots in one cut). By AI agents, Wed Nov 11 2026. No macro, syntax, notation, axiom, sorry.
-/
import Derived.Test.YtpkgngaohnblkaaDoorChecked
import GoSem.Claim
import GoSem.ClaimJoined
import GoSem.ClaimMapViews
import Derived.JoinedTies
import Derived.KernelRfl
namespace Go.Proofs.YtpkgngaohnblkaaDoor
/- THE CELL 'sum', in the pinned program and in every row, IS THE sha256 OF THE DUMP (.gsa) THAT YtpkgngaohnblkaaDoorProg.lean LOADS. Nothing in Lean hashes anything: it is a label: what it is worth is what the hold of that sum in a sandbox is worth. -/
noncomputable def Tryd.pinned : Pinned := { name := "ytpkgngaohnblkaadoor", sum := "97c8e3778e671bd40e77bea21df7d20b9b1afd7fe82af39e3d4e2729976b03e9", checked := Tryd.checked }
namespace Rows
def none {H : Type} : Left H := { results := [], args := [] }

/- WHAT THE LISTED PACKAGE-LEVEL VARIABLES READ AS WHEN THE CALL BEGINS. Each datum BY PROGRAM (the guide's laid-datum.mjs) off the statement by which the dump's own 'gosem.cut.vars' lays the variable. In a bare row this is a premise. The card (YtpkgngaohnblkaaDoorCards.lean) ties it to the program's text. -/
def laid_valise_block_distBase {H : Type} : DataW H := .agg [.lit (.int .i64 1), .lit (.int .i64 2), .lit (.int .i64 3), .lit (.int .i64 4), .lit (.int .i64 5), .lit (.int .i64 7), .lit (.int .i64 9), .lit (.int .i64 13), .lit (.int .i64 17), .lit (.int .i64 25), .lit (.int .i64 33), .lit (.int .i64 49), .lit (.int .i64 65), .lit (.int .i64 97), .lit (.int .i64 129), .lit (.int .i64 193), .lit (.int .i64 257), .lit (.int .i64 385), .lit (.int .i64 513), .lit (.int .i64 769), .lit (.int .i64 1025), .lit (.int .i64 1537), .lit (.int .i64 2049), .lit (.int .i64 3073), .lit (.int .i64 4097), .lit (.int .i64 6145), .lit (.int .i64 8193), .lit (.int .i64 12289), .lit (.int .i64 16385), .lit (.int .i64 24577)]
def laid_valise_block_distBits {H : Type} : DataW H := .agg [.lit (.int .i64 0), .lit (.int .i64 0), .lit (.int .i64 0), .lit (.int .i64 0), .lit (.int .i64 1), .lit (.int .i64 1), .lit (.int .i64 2), .lit (.int .i64 2), .lit (.int .i64 3), .lit (.int .i64 3), .lit (.int .i64 4), .lit (.int .i64 4), .lit (.int .i64 5), .lit (.int .i64 5), .lit (.int .i64 6), .lit (.int .i64 6), .lit (.int .i64 7), .lit (.int .i64 7), .lit (.int .i64 8), .lit (.int .i64 8), .lit (.int .i64 9), .lit (.int .i64 9), .lit (.int .i64 10), .lit (.int .i64 10), .lit (.int .i64 11), .lit (.int .i64 11), .lit (.int .i64 12), .lit (.int .i64 12), .lit (.int .i64 13), .lit (.int .i64 13)]
def laid_valise_block_lengthBase {H : Type} : DataW H := .agg [.lit (.int .i64 3), .lit (.int .i64 4), .lit (.int .i64 5), .lit (.int .i64 6), .lit (.int .i64 7), .lit (.int .i64 8), .lit (.int .i64 9), .lit (.int .i64 10), .lit (.int .i64 11), .lit (.int .i64 13), .lit (.int .i64 15), .lit (.int .i64 17), .lit (.int .i64 19), .lit (.int .i64 23), .lit (.int .i64 27), .lit (.int .i64 31), .lit (.int .i64 35), .lit (.int .i64 43), .lit (.int .i64 51), .lit (.int .i64 59), .lit (.int .i64 67), .lit (.int .i64 83), .lit (.int .i64 99), .lit (.int .i64 115), .lit (.int .i64 131), .lit (.int .i64 163), .lit (.int .i64 195), .lit (.int .i64 227), .lit (.int .i64 258)]
def laid_valise_block_lengthBits {H : Type} : DataW H := .agg [.lit (.int .i64 0), .lit (.int .i64 0), .lit (.int .i64 0), .lit (.int .i64 0), .lit (.int .i64 0), .lit (.int .i64 0), .lit (.int .i64 0), .lit (.int .i64 0), .lit (.int .i64 1), .lit (.int .i64 1), .lit (.int .i64 1), .lit (.int .i64 1), .lit (.int .i64 2), .lit (.int .i64 2), .lit (.int .i64 2), .lit (.int .i64 2), .lit (.int .i64 3), .lit (.int .i64 3), .lit (.int .i64 3), .lit (.int .i64 3), .lit (.int .i64 4), .lit (.int .i64 4), .lit (.int .i64 4), .lit (.int .i64 4), .lit (.int .i64 5), .lit (.int .i64 5), .lit (.int .i64 5), .lit (.int .i64 5), .lit (.int .i64 0)]
def laid_valise_header_order {H : Type} : DataW H := .agg [.lit (.int .i64 16), .lit (.int .i64 17), .lit (.int .i64 18), .lit (.int .i64 0), .lit (.int .i64 8), .lit (.int .i64 7), .lit (.int .i64 9), .lit (.int .i64 6), .lit (.int .i64 10), .lit (.int .i64 5), .lit (.int .i64 11), .lit (.int .i64 4), .lit (.int .i64 12), .lit (.int .i64 3), .lit (.int .i64 13), .lit (.int .i64 2), .lit (.int .i64 14), .lit (.int .i64 1), .lit (.int .i64 15)]
def laid_valise_header_further {H : Type} : DataW H := .agg [.lit (.int .i64 0), .lit (.int .i64 0), .lit (.int .i64 0), .lit (.int .i64 0), .lit (.int .i64 0), .lit (.int .i64 0), .lit (.int .i64 0), .lit (.int .i64 0), .lit (.int .i64 0), .lit (.int .i64 0), .lit (.int .i64 0), .lit (.int .i64 0), .lit (.int .i64 0), .lit (.int .i64 0), .lit (.int .i64 0), .lit (.int .i64 0), .lit (.int .i64 2), .lit (.int .i64 3), .lit (.int .i64 7)]
def laid_valise_valiseref7_order {H : Type} : DataW H := .agg [.lit (.int .i64 16), .lit (.int .i64 17), .lit (.int .i64 18), .lit (.int .i64 0), .lit (.int .i64 8), .lit (.int .i64 7), .lit (.int .i64 9), .lit (.int .i64 6), .lit (.int .i64 10), .lit (.int .i64 5), .lit (.int .i64 11), .lit (.int .i64 4), .lit (.int .i64 12), .lit (.int .i64 3), .lit (.int .i64 13), .lit (.int .i64 2), .lit (.int .i64 14), .lit (.int .i64 1), .lit (.int .i64 15)]
def laid_valise_header_least {H : Type} : DataW H := .agg [.lit (.int .i64 1), .lit (.int .i64 1), .lit (.int .i64 1), .lit (.int .i64 1), .lit (.int .i64 1), .lit (.int .i64 1), .lit (.int .i64 1), .lit (.int .i64 1), .lit (.int .i64 1), .lit (.int .i64 1), .lit (.int .i64 1), .lit (.int .i64 1), .lit (.int .i64 1), .lit (.int .i64 1), .lit (.int .i64 1), .lit (.int .i64 1), .lit (.int .i64 3), .lit (.int .i64 3), .lit (.int .i64 11)]
def laid_valise_inflate_lengths {H : Type} : DataW H := .agg [.agg [.lit (.int .i64 3), .lit (.int .i64 0)], .agg [.lit (.int .i64 4), .lit (.int .i64 0)], .agg [.lit (.int .i64 5), .lit (.int .i64 0)], .agg [.lit (.int .i64 6), .lit (.int .i64 0)], .agg [.lit (.int .i64 7), .lit (.int .i64 0)], .agg [.lit (.int .i64 8), .lit (.int .i64 0)], .agg [.lit (.int .i64 9), .lit (.int .i64 0)], .agg [.lit (.int .i64 10), .lit (.int .i64 0)], .agg [.lit (.int .i64 11), .lit (.int .i64 1)], .agg [.lit (.int .i64 13), .lit (.int .i64 1)], .agg [.lit (.int .i64 15), .lit (.int .i64 1)], .agg [.lit (.int .i64 17), .lit (.int .i64 1)], .agg [.lit (.int .i64 19), .lit (.int .i64 2)], .agg [.lit (.int .i64 23), .lit (.int .i64 2)], .agg [.lit (.int .i64 27), .lit (.int .i64 2)], .agg [.lit (.int .i64 31), .lit (.int .i64 2)], .agg [.lit (.int .i64 35), .lit (.int .i64 3)], .agg [.lit (.int .i64 43), .lit (.int .i64 3)], .agg [.lit (.int .i64 51), .lit (.int .i64 3)], .agg [.lit (.int .i64 59), .lit (.int .i64 3)], .agg [.lit (.int .i64 67), .lit (.int .i64 4)], .agg [.lit (.int .i64 83), .lit (.int .i64 4)], .agg [.lit (.int .i64 99), .lit (.int .i64 4)], .agg [.lit (.int .i64 115), .lit (.int .i64 4)], .agg [.lit (.int .i64 131), .lit (.int .i64 5)], .agg [.lit (.int .i64 163), .lit (.int .i64 5)], .agg [.lit (.int .i64 195), .lit (.int .i64 5)], .agg [.lit (.int .i64 227), .lit (.int .i64 5)], .agg [.lit (.int .i64 258), .lit (.int .i64 0)]]
def laid_valise_inflate_distances {H : Type} : DataW H := .agg [.agg [.lit (.int .i64 1), .lit (.int .i64 0)], .agg [.lit (.int .i64 2), .lit (.int .i64 0)], .agg [.lit (.int .i64 3), .lit (.int .i64 0)], .agg [.lit (.int .i64 4), .lit (.int .i64 0)], .agg [.lit (.int .i64 5), .lit (.int .i64 1)], .agg [.lit (.int .i64 7), .lit (.int .i64 1)], .agg [.lit (.int .i64 9), .lit (.int .i64 2)], .agg [.lit (.int .i64 13), .lit (.int .i64 2)], .agg [.lit (.int .i64 17), .lit (.int .i64 3)], .agg [.lit (.int .i64 25), .lit (.int .i64 3)], .agg [.lit (.int .i64 33), .lit (.int .i64 4)], .agg [.lit (.int .i64 49), .lit (.int .i64 4)], .agg [.lit (.int .i64 65), .lit (.int .i64 5)], .agg [.lit (.int .i64 97), .lit (.int .i64 5)], .agg [.lit (.int .i64 129), .lit (.int .i64 6)], .agg [.lit (.int .i64 193), .lit (.int .i64 6)], .agg [.lit (.int .i64 257), .lit (.int .i64 7)], .agg [.lit (.int .i64 385), .lit (.int .i64 7)], .agg [.lit (.int .i64 513), .lit (.int .i64 8)], .agg [.lit (.int .i64 769), .lit (.int .i64 8)], .agg [.lit (.int .i64 1025), .lit (.int .i64 9)], .agg [.lit (.int .i64 1537), .lit (.int .i64 9)], .agg [.lit (.int .i64 2049), .lit (.int .i64 10)], .agg [.lit (.int .i64 3073), .lit (.int .i64 10)], .agg [.lit (.int .i64 4097), .lit (.int .i64 11)], .agg [.lit (.int .i64 6145), .lit (.int .i64 11)], .agg [.lit (.int .i64 8193), .lit (.int .i64 12)], .agg [.lit (.int .i64 12289), .lit (.int .i64 12)], .agg [.lit (.int .i64 16385), .lit (.int .i64 13)], .agg [.lit (.int .i64 24577), .lit (.int .i64 13)]]

/-- 'valiselaw10.BlockDistsOf': WHATEVER THE INPUT: true; the input reads as it did. -/
def blockDistsOfSpec : ChangeSpec := { name := "blockDistsOf", fn := fun _ => fun
  | [d1, d2] => { results := [.lit (.bool true)], args := [d1, d2] }
  | _ => none }
def blockDistsOfRow : OpenClaim := { program := "ytpkgngaohnblkaadoor", sum := "97c8e3778e671bd40e77bea21df7d20b9b1afd7fe82af39e3d4e2729976b03e9", func := "valise/valiselaw10.BlockDistsOf", spec := "blockDistsOf", named := ["valise/block.distBits", "valise/block.distBase"], apart := false, laid := [("valise/block.distBase", laid_valise_block_distBase), ("valise/block.distBits", laid_valise_block_distBits)] }
def BlockDistsOfSaid : Prop := blockDistsOfRow.holds Tryd.pinned (OpenSpec.ofChange blockDistsOfSpec)

/-- ITS FALSE NEIGHBOUR: 'it returns false'. Refute it at one input. -/
def blockDistsOfWrong : ChangeSpec := { name := "blockDistsOf", fn := fun _ => fun
  | [d1, d2] => { results := [.lit (.bool false)], args := [d1, d2] }
  | _ => none }
def BlockDistsOfWrongFalsely : Prop := blockDistsOfRow.holds Tryd.pinned (OpenSpec.ofChange blockDistsOfWrong)

/-- 'valiselaw10.BlockLengthSymbols': WHATEVER THE INPUT: true; the input reads as it did. -/
def blockLengthSymbolsSpec : ChangeSpec := { name := "blockLengthSymbols", fn := fun _ => fun
  | [d] => { results := [.lit (.bool true)], args := [d] }
  | _ => none }
def blockLengthSymbolsRow : OpenClaim := { program := "ytpkgngaohnblkaadoor", sum := "97c8e3778e671bd40e77bea21df7d20b9b1afd7fe82af39e3d4e2729976b03e9", func := "valise/valiselaw10.BlockLengthSymbols", spec := "blockLengthSymbols", named := ["valise/block.lengthBase", "valise/block.lengthBits"], apart := false, laid := [("valise/block.lengthBase", laid_valise_block_lengthBase), ("valise/block.lengthBits", laid_valise_block_lengthBits)] }
def BlockLengthSymbolsSaid : Prop := blockLengthSymbolsRow.holds Tryd.pinned (OpenSpec.ofChange blockLengthSymbolsSpec)

/-- ITS FALSE NEIGHBOUR: 'it returns false'. Refute it at one input. -/
def blockLengthSymbolsWrong : ChangeSpec := { name := "blockLengthSymbols", fn := fun _ => fun
  | [d] => { results := [.lit (.bool false)], args := [d] }
  | _ => none }
def BlockLengthSymbolsWrongFalsely : Prop := blockLengthSymbolsRow.holds Tryd.pinned (OpenSpec.ofChange blockLengthSymbolsWrong)

/-- 'valiselaw10.BlockDistSymbols': WHATEVER THE INPUT: true; the input reads as it did. -/
def blockDistSymbolsSpec : ChangeSpec := { name := "blockDistSymbols", fn := fun _ => fun
  | [d] => { results := [.lit (.bool true)], args := [d] }
  | _ => none }
def blockDistSymbolsRow : OpenClaim := { program := "ytpkgngaohnblkaadoor", sum := "97c8e3778e671bd40e77bea21df7d20b9b1afd7fe82af39e3d4e2729976b03e9", func := "valise/valiselaw10.BlockDistSymbols", spec := "blockDistSymbols", named := ["valise/block.distBase", "valise/block.distBits"], apart := false, laid := [("valise/block.distBase", laid_valise_block_distBase), ("valise/block.distBits", laid_valise_block_distBits)] }
def BlockDistSymbolsSaid : Prop := blockDistSymbolsRow.holds Tryd.pinned (OpenSpec.ofChange blockDistSymbolsSpec)

/-- ITS FALSE NEIGHBOUR: 'it returns false'. Refute it at one input. -/
def blockDistSymbolsWrong : ChangeSpec := { name := "blockDistSymbols", fn := fun _ => fun
  | [d] => { results := [.lit (.bool false)], args := [d] }
  | _ => none }
def BlockDistSymbolsWrongFalsely : Prop := blockDistSymbolsRow.holds Tryd.pinned (OpenSpec.ofChange blockDistSymbolsWrong)

/-- 'valiselaw10.BlockLengthsOf': WHATEVER THE INPUT: true; the input reads as it did. -/
def blockLengthsOfSpec : ChangeSpec := { name := "blockLengthsOf", fn := fun _ => fun
  | [d1, d2] => { results := [.lit (.bool true)], args := [d1, d2] }
  | _ => none }
def blockLengthsOfRow : OpenClaim := { program := "ytpkgngaohnblkaadoor", sum := "97c8e3778e671bd40e77bea21df7d20b9b1afd7fe82af39e3d4e2729976b03e9", func := "valise/valiselaw10.BlockLengthsOf", spec := "blockLengthsOf", named := ["valise/block.lengthBits", "valise/block.lengthBase"], apart := false, laid := [("valise/block.lengthBase", laid_valise_block_lengthBase), ("valise/block.lengthBits", laid_valise_block_lengthBits)] }
def BlockLengthsOfSaid : Prop := blockLengthsOfRow.holds Tryd.pinned (OpenSpec.ofChange blockLengthsOfSpec)

/-- ITS FALSE NEIGHBOUR: 'it returns false'. Refute it at one input. -/
def blockLengthsOfWrong : ChangeSpec := { name := "blockLengthsOf", fn := fun _ => fun
  | [d1, d2] => { results := [.lit (.bool false)], args := [d1, d2] }
  | _ => none }
def BlockLengthsOfWrongFalsely : Prop := blockLengthsOfRow.holds Tryd.pinned (OpenSpec.ofChange blockLengthsOfWrong)

/-- 'valiselaw10.BlockSymbolsGoBack': WHATEVER THE INPUT: true; the input reads as it did. -/
def blockSymbolsGoBackSpec : ChangeSpec := { name := "blockSymbolsGoBack", fn := fun _ => fun
  | [d1, d2] => { results := [.lit (.bool true)], args := [d1, d2] }
  | _ => none }
def blockSymbolsGoBackRow : OpenClaim := { program := "ytpkgngaohnblkaadoor", sum := "97c8e3778e671bd40e77bea21df7d20b9b1afd7fe82af39e3d4e2729976b03e9", func := "valise/valiselaw10.BlockSymbolsGoBack", spec := "blockSymbolsGoBack", named := ["valise/block.lengthBase", "valise/block.lengthBits", "valise/block.distBase", "valise/block.distBits"], apart := false, laid := [("valise/block.lengthBase", laid_valise_block_lengthBase), ("valise/block.lengthBits", laid_valise_block_lengthBits), ("valise/block.distBase", laid_valise_block_distBase), ("valise/block.distBits", laid_valise_block_distBits)] }
def BlockSymbolsGoBackSaid : Prop := blockSymbolsGoBackRow.holds Tryd.pinned (OpenSpec.ofChange blockSymbolsGoBackSpec)

/-- ITS FALSE NEIGHBOUR: 'it returns false'. Refute it at one input. -/
def blockSymbolsGoBackWrong : ChangeSpec := { name := "blockSymbolsGoBack", fn := fun _ => fun
  | [d1, d2] => { results := [.lit (.bool false)], args := [d1, d2] }
  | _ => none }
def BlockSymbolsGoBackWrongFalsely : Prop := blockSymbolsGoBackRow.holds Tryd.pinned (OpenSpec.ofChange blockSymbolsGoBackWrong)

/-- 'valiselaw10.BlockCounts': WHATEVER THE INPUT: true; the input reads as it did. -/
def blockCountsSpec : ChangeSpec := { name := "blockCounts", fn := fun _ => fun
  | [d] => { results := [.lit (.bool true)], args := [d] }
  | _ => none }
def blockCountsRow : OpenClaim := { program := "ytpkgngaohnblkaadoor", sum := "97c8e3778e671bd40e77bea21df7d20b9b1afd7fe82af39e3d4e2729976b03e9", func := "valise/valiselaw10.BlockCounts", spec := "blockCounts", named := ["valise/block.lengthBase", "valise/block.lengthBits", "valise/block.distBase", "valise/block.distBits"], apart := false, laid := [("valise/block.lengthBase", laid_valise_block_lengthBase), ("valise/block.lengthBits", laid_valise_block_lengthBits), ("valise/block.distBase", laid_valise_block_distBase), ("valise/block.distBits", laid_valise_block_distBits)] }
def BlockCountsSaid : Prop := blockCountsRow.holds Tryd.pinned (OpenSpec.ofChange blockCountsSpec)

/-- ITS FALSE NEIGHBOUR: 'it returns false'. Refute it at one input. -/
def blockCountsWrong : ChangeSpec := { name := "blockCounts", fn := fun _ => fun
  | [d] => { results := [.lit (.bool false)], args := [d] }
  | _ => none }
def BlockCountsWrongFalsely : Prop := blockCountsRow.holds Tryd.pinned (OpenSpec.ofChange blockCountsWrong)

/-- 'valiselaw10.BlockTrees': WHATEVER THE INPUT: true; the input reads as it did. -/
def blockTreesSpec : ChangeSpec := { name := "blockTrees", fn := fun _ => fun
  | [d] => { results := [.lit (.bool true)], args := [d] }
  | _ => none }
def blockTreesRow : OpenClaim := { program := "ytpkgngaohnblkaadoor", sum := "97c8e3778e671bd40e77bea21df7d20b9b1afd7fe82af39e3d4e2729976b03e9", func := "valise/valiselaw10.BlockTrees", spec := "blockTrees", unfollowed := true, recurses := true, named := ["valise/block.lengthBase", "valise/block.lengthBits", "valise/block.distBase", "valise/block.distBits"], apart := false, laid := [("valise/block.lengthBase", laid_valise_block_lengthBase), ("valise/block.lengthBits", laid_valise_block_lengthBits), ("valise/block.distBase", laid_valise_block_distBase), ("valise/block.distBits", laid_valise_block_distBits)] }
def BlockTreesSaid : Prop := blockTreesRow.holds Tryd.pinned (OpenSpec.ofChange blockTreesSpec)

/-- ITS FALSE NEIGHBOUR: 'it returns false'. Refute it at one input. -/
def blockTreesWrong : ChangeSpec := { name := "blockTrees", fn := fun _ => fun
  | [d] => { results := [.lit (.bool false)], args := [d] }
  | _ => none }
def BlockTreesWrongFalsely : Prop := blockTreesRow.holds Tryd.pinned (OpenSpec.ofChange blockTreesWrong)

/-- 'valiselaw10.BlockTreesAreBest': WHATEVER THE INPUT: true; the input reads as it did. -/
def blockTreesAreBestSpec : ChangeSpec := { name := "blockTreesAreBest", fn := fun _ => fun
  | [d1, d2] => { results := [.lit (.bool true)], args := [d1, d2] }
  | _ => none }
def blockTreesAreBestRow : OpenClaim := { program := "ytpkgngaohnblkaadoor", sum := "97c8e3778e671bd40e77bea21df7d20b9b1afd7fe82af39e3d4e2729976b03e9", func := "valise/valiselaw10.BlockTreesAreBest", spec := "blockTreesAreBest", unfollowed := true, recurses := true, named := ["valise/block.lengthBase", "valise/block.lengthBits", "valise/block.distBase", "valise/block.distBits"], apart := false, laid := [("valise/block.lengthBase", laid_valise_block_lengthBase), ("valise/block.lengthBits", laid_valise_block_lengthBits), ("valise/block.distBase", laid_valise_block_distBase), ("valise/block.distBits", laid_valise_block_distBits)] }
def BlockTreesAreBestSaid : Prop := blockTreesAreBestRow.holds Tryd.pinned (OpenSpec.ofChange blockTreesAreBestSpec)

/-- ITS FALSE NEIGHBOUR: 'it returns false'. Refute it at one input. -/
def blockTreesAreBestWrong : ChangeSpec := { name := "blockTreesAreBest", fn := fun _ => fun
  | [d1, d2] => { results := [.lit (.bool false)], args := [d1, d2] }
  | _ => none }
def BlockTreesAreBestWrongFalsely : Prop := blockTreesAreBestRow.holds Tryd.pinned (OpenSpec.ofChange blockTreesAreBestWrong)

/-- 'valiselaw10.BlockApart': WHATEVER THE INPUT: true; the input reads as it did. -/
def blockApartSpec : ChangeSpec := { name := "blockApart", fn := fun _ => fun
  | [d] => { results := [.lit (.bool true)], args := [d] }
  | _ => none }
def blockApartRow : OpenClaim := { program := "ytpkgngaohnblkaadoor", sum := "97c8e3778e671bd40e77bea21df7d20b9b1afd7fe82af39e3d4e2729976b03e9", func := "valise/valiselaw10.BlockApart", spec := "blockApart", unfollowed := true, recurses := true, named := ["valise/block.lengthBase", "valise/block.lengthBits", "valise/block.distBase", "valise/block.distBits"], apart := false, laid := [("valise/block.lengthBase", laid_valise_block_lengthBase), ("valise/block.lengthBits", laid_valise_block_lengthBits), ("valise/block.distBase", laid_valise_block_distBase), ("valise/block.distBits", laid_valise_block_distBits)] }
def BlockApartSaid : Prop := blockApartRow.holds Tryd.pinned (OpenSpec.ofChange blockApartSpec)

/-- ITS FALSE NEIGHBOUR: 'it returns false'. Refute it at one input. -/
def blockApartWrong : ChangeSpec := { name := "blockApart", fn := fun _ => fun
  | [d] => { results := [.lit (.bool false)], args := [d] }
  | _ => none }
def BlockApartWrongFalsely : Prop := blockApartRow.holds Tryd.pinned (OpenSpec.ofChange blockApartWrong)

/-- 'valiselaw10.BlockMeasures': WHATEVER THE INPUT: true; the input reads as it did. -/
def blockMeasuresSpec : ChangeSpec := { name := "blockMeasures", fn := fun _ => fun
  | [d1, d2] => { results := [.lit (.bool true)], args := [d1, d2] }
  | _ => none }
def blockMeasuresRow : OpenClaim := { program := "ytpkgngaohnblkaadoor", sum := "97c8e3778e671bd40e77bea21df7d20b9b1afd7fe82af39e3d4e2729976b03e9", func := "valise/valiselaw10.BlockMeasures", spec := "blockMeasures", unfollowed := true, recurses := true, named := ["valise/block.lengthBase", "valise/block.lengthBits", "valise/block.distBase", "valise/block.distBits", "valise/header.further", "valise/header.order", "valise/valiseref7.order"], apart := false, laid := [("valise/header.order", laid_valise_header_order), ("valise/header.further", laid_valise_header_further), ("valise/block.lengthBase", laid_valise_block_lengthBase), ("valise/block.lengthBits", laid_valise_block_lengthBits), ("valise/block.distBase", laid_valise_block_distBase), ("valise/block.distBits", laid_valise_block_distBits), ("valise/valiseref7.order", laid_valise_valiseref7_order)] }
def BlockMeasuresSaid : Prop := blockMeasuresRow.holds Tryd.pinned (OpenSpec.ofChange blockMeasuresSpec)

/-- ITS FALSE NEIGHBOUR: 'it returns false'. Refute it at one input. -/
def blockMeasuresWrong : ChangeSpec := { name := "blockMeasures", fn := fun _ => fun
  | [d1, d2] => { results := [.lit (.bool false)], args := [d1, d2] }
  | _ => none }
def BlockMeasuresWrongFalsely : Prop := blockMeasuresRow.holds Tryd.pinned (OpenSpec.ofChange blockMeasuresWrong)

/-- 'valiselaw10.BlockNeverWorse': WHATEVER THE INPUT: true; the input reads as it did. -/
def blockNeverWorseSpec : ChangeSpec := { name := "blockNeverWorse", fn := fun _ => fun
  | [d1, d2] => { results := [.lit (.bool true)], args := [d1, d2] }
  | _ => none }
def blockNeverWorseRow : OpenClaim := { program := "ytpkgngaohnblkaadoor", sum := "97c8e3778e671bd40e77bea21df7d20b9b1afd7fe82af39e3d4e2729976b03e9", func := "valise/valiselaw10.BlockNeverWorse", spec := "blockNeverWorse", unfollowed := true, recurses := true, named := ["valise/block.lengthBase", "valise/block.lengthBits", "valise/block.distBase", "valise/block.distBits", "valise/header.further", "valise/header.order"], apart := false, laid := [("valise/header.order", laid_valise_header_order), ("valise/header.further", laid_valise_header_further), ("valise/block.lengthBase", laid_valise_block_lengthBase), ("valise/block.lengthBits", laid_valise_block_lengthBits), ("valise/block.distBase", laid_valise_block_distBase), ("valise/block.distBits", laid_valise_block_distBits)] }
def BlockNeverWorseSaid : Prop := blockNeverWorseRow.holds Tryd.pinned (OpenSpec.ofChange blockNeverWorseSpec)

/-- ITS FALSE NEIGHBOUR: 'it returns false'. Refute it at one input. -/
def blockNeverWorseWrong : ChangeSpec := { name := "blockNeverWorse", fn := fun _ => fun
  | [d1, d2] => { results := [.lit (.bool false)], args := [d1, d2] }
  | _ => none }
def BlockNeverWorseWrongFalsely : Prop := blockNeverWorseRow.holds Tryd.pinned (OpenSpec.ofChange blockNeverWorseWrong)

/-- 'valiselaw10.BlockJustSoMany': WHATEVER THE INPUT: true; the input reads as it did. -/
def blockJustSoManySpec : ChangeSpec := { name := "blockJustSoMany", fn := fun _ => fun
  | [d1, d2, d3, d4, d5, d6] => { results := [.lit (.bool true)], args := [d1, d2, d3, d4, d5, d6] }
  | _ => none }
def blockJustSoManyRow : OpenClaim := { program := "ytpkgngaohnblkaadoor", sum := "97c8e3778e671bd40e77bea21df7d20b9b1afd7fe82af39e3d4e2729976b03e9", func := "valise/valiselaw10.BlockJustSoMany", spec := "blockJustSoMany", unfollowed := true, recurses := true, named := ["valise/block.lengthBase", "valise/block.lengthBits", "valise/block.distBase", "valise/block.distBits", "valise/header.further", "valise/header.order", "valise/header.least"], apart := false, laid := [("valise/header.order", laid_valise_header_order), ("valise/header.further", laid_valise_header_further), ("valise/header.least", laid_valise_header_least), ("valise/block.lengthBase", laid_valise_block_lengthBase), ("valise/block.lengthBits", laid_valise_block_lengthBits), ("valise/block.distBase", laid_valise_block_distBase), ("valise/block.distBits", laid_valise_block_distBits)] }
def BlockJustSoManySaid : Prop := blockJustSoManyRow.holds Tryd.pinned (OpenSpec.ofChange blockJustSoManySpec)

/-- ITS FALSE NEIGHBOUR: 'it returns false'. Refute it at one input. -/
def blockJustSoManyWrong : ChangeSpec := { name := "blockJustSoMany", fn := fun _ => fun
  | [d1, d2, d3, d4, d5, d6] => { results := [.lit (.bool false)], args := [d1, d2, d3, d4, d5, d6] }
  | _ => none }
def BlockJustSoManyWrongFalsely : Prop := blockJustSoManyRow.holds Tryd.pinned (OpenSpec.ofChange blockJustSoManyWrong)

/-- 'valiselaw10.BlockInflates': WHATEVER THE INPUT: true; the input reads as it did. -/
def blockInflatesSpec : ChangeSpec := { name := "blockInflates", fn := fun _ => fun
  | [d1, d2, d3] => { results := [.lit (.bool true)], args := [d1, d2, d3] }
  | _ => none }
def blockInflatesRow : OpenClaim := { program := "ytpkgngaohnblkaadoor", sum := "97c8e3778e671bd40e77bea21df7d20b9b1afd7fe82af39e3d4e2729976b03e9", func := "valise/valiselaw10.BlockInflates", spec := "blockInflates", unfollowed := true, recurses := true, named := ["valise/block.lengthBase", "valise/block.lengthBits", "valise/block.distBase", "valise/block.distBits", "valise/header.order", "valise/header.least", "valise/header.further", "valise/inflate.lengths", "valise/inflate.distances"], apart := false, laid := [("valise/header.order", laid_valise_header_order), ("valise/header.further", laid_valise_header_further), ("valise/header.least", laid_valise_header_least), ("valise/block.lengthBase", laid_valise_block_lengthBase), ("valise/block.lengthBits", laid_valise_block_lengthBits), ("valise/block.distBase", laid_valise_block_distBase), ("valise/block.distBits", laid_valise_block_distBits), ("valise/inflate.lengths", laid_valise_inflate_lengths), ("valise/inflate.distances", laid_valise_inflate_distances)] }
def BlockInflatesSaid : Prop := blockInflatesRow.holds Tryd.pinned (OpenSpec.ofChange blockInflatesSpec)

/-- ITS FALSE NEIGHBOUR: 'it returns false'. Refute it at one input. -/
def blockInflatesWrong : ChangeSpec := { name := "blockInflates", fn := fun _ => fun
  | [d1, d2, d3] => { results := [.lit (.bool false)], args := [d1, d2, d3] }
  | _ => none }
def BlockInflatesWrongFalsely : Prop := blockInflatesRow.holds Tryd.pinned (OpenSpec.ofChange blockInflatesWrong)

/- THE SECOND FORM. 'bulk': how many values and letters a reading holds, each counted each time it is reached (what is shared counts as often as it is met; a slice's spare places count too). A statement '..UptoSaid' is the law's where the arguments, and the package variables that the reading takes, are together of bulk at most 1048576: NARROWER than '..Said'. Prove '..Said' where nothing that the law and all that it calls make is longer than what came in: it says more and counts as full. Else prove '..UptoSaid'. A law counts once. -/
mutual
def uptoBulk {H : Type} : DataW H → Nat
  | .lit (.string bytes) => bytes.length + 1
  | .lit _ => 1
  | .nil => 1
  | .ptr d => uptoBulk d + 1
  | .slice elems spare => uptoBulkAll elems + uptoBulkAll spare + 1
  | .agg parts => uptoBulkAll parts + 1
  | .iface _ d => uptoBulk d + 1
  | .map entries => uptoBulkEntries entries + 1
  | .held _ => 1
def uptoBulkAll {H : Type} : List (DataW H) → Nat
  | [] => 0
  | d :: r => uptoBulk d + uptoBulkAll r
def uptoBulkEntries {H : Type} : List (Lit × DataW H) → Nat
  | [] => 0
  | x :: r => uptoBulkEntry x + uptoBulkEntries r
def uptoBulkEntry {H : Type} : Lit × DataW H → Nat
  | (.string bytes, d) => bytes.length + uptoBulk d + 1
  | (_, d) => uptoBulk d + 1
 end
def uptoSmall : (H : Type) → List (DataW H) → Bool := fun _ ds => decide (uptoBulkAll ds ≤ 1048576)
def OpenSpec.upto (s : _root_.Go.ChangeSpec) : _root_.Go.OpenSpec := { _root_.Go.OpenSpec.ofChange s with cond := some uptoSmall }

/-- 'valiselaw10.BlockDistsOf', WHERE WHAT IT READS IS OF BULK AT MOST 1048576: true; the input reads as it did. -/
def blockDistsOfUptoRow : OpenClaim := { program := "ytpkgngaohnblkaadoor", sum := "97c8e3778e671bd40e77bea21df7d20b9b1afd7fe82af39e3d4e2729976b03e9", func := "valise/valiselaw10.BlockDistsOf", spec := "blockDistsOf", named := ["valise/block.distBits", "valise/block.distBase"], apart := false, laid := [("valise/block.distBase", laid_valise_block_distBase), ("valise/block.distBits", laid_valise_block_distBits)], narrowed := true }
def BlockDistsOfUptoSaid : Prop := blockDistsOfUptoRow.holds Tryd.pinned (OpenSpec.upto blockDistsOfSpec)

/-- 'valiselaw10.BlockLengthSymbols', WHERE WHAT IT READS IS OF BULK AT MOST 1048576: true; the input reads as it did. -/
def blockLengthSymbolsUptoRow : OpenClaim := { program := "ytpkgngaohnblkaadoor", sum := "97c8e3778e671bd40e77bea21df7d20b9b1afd7fe82af39e3d4e2729976b03e9", func := "valise/valiselaw10.BlockLengthSymbols", spec := "blockLengthSymbols", named := ["valise/block.lengthBase", "valise/block.lengthBits"], apart := false, laid := [("valise/block.lengthBase", laid_valise_block_lengthBase), ("valise/block.lengthBits", laid_valise_block_lengthBits)], narrowed := true }
def BlockLengthSymbolsUptoSaid : Prop := blockLengthSymbolsUptoRow.holds Tryd.pinned (OpenSpec.upto blockLengthSymbolsSpec)

/-- 'valiselaw10.BlockDistSymbols', WHERE WHAT IT READS IS OF BULK AT MOST 1048576: true; the input reads as it did. -/
def blockDistSymbolsUptoRow : OpenClaim := { program := "ytpkgngaohnblkaadoor", sum := "97c8e3778e671bd40e77bea21df7d20b9b1afd7fe82af39e3d4e2729976b03e9", func := "valise/valiselaw10.BlockDistSymbols", spec := "blockDistSymbols", named := ["valise/block.distBase", "valise/block.distBits"], apart := false, laid := [("valise/block.distBase", laid_valise_block_distBase), ("valise/block.distBits", laid_valise_block_distBits)], narrowed := true }
def BlockDistSymbolsUptoSaid : Prop := blockDistSymbolsUptoRow.holds Tryd.pinned (OpenSpec.upto blockDistSymbolsSpec)

/-- 'valiselaw10.BlockLengthsOf', WHERE WHAT IT READS IS OF BULK AT MOST 1048576: true; the input reads as it did. -/
def blockLengthsOfUptoRow : OpenClaim := { program := "ytpkgngaohnblkaadoor", sum := "97c8e3778e671bd40e77bea21df7d20b9b1afd7fe82af39e3d4e2729976b03e9", func := "valise/valiselaw10.BlockLengthsOf", spec := "blockLengthsOf", named := ["valise/block.lengthBits", "valise/block.lengthBase"], apart := false, laid := [("valise/block.lengthBase", laid_valise_block_lengthBase), ("valise/block.lengthBits", laid_valise_block_lengthBits)], narrowed := true }
def BlockLengthsOfUptoSaid : Prop := blockLengthsOfUptoRow.holds Tryd.pinned (OpenSpec.upto blockLengthsOfSpec)

/-- 'valiselaw10.BlockSymbolsGoBack', WHERE WHAT IT READS IS OF BULK AT MOST 1048576: true; the input reads as it did. -/
def blockSymbolsGoBackUptoRow : OpenClaim := { program := "ytpkgngaohnblkaadoor", sum := "97c8e3778e671bd40e77bea21df7d20b9b1afd7fe82af39e3d4e2729976b03e9", func := "valise/valiselaw10.BlockSymbolsGoBack", spec := "blockSymbolsGoBack", named := ["valise/block.lengthBase", "valise/block.lengthBits", "valise/block.distBase", "valise/block.distBits"], apart := false, laid := [("valise/block.lengthBase", laid_valise_block_lengthBase), ("valise/block.lengthBits", laid_valise_block_lengthBits), ("valise/block.distBase", laid_valise_block_distBase), ("valise/block.distBits", laid_valise_block_distBits)], narrowed := true }
def BlockSymbolsGoBackUptoSaid : Prop := blockSymbolsGoBackUptoRow.holds Tryd.pinned (OpenSpec.upto blockSymbolsGoBackSpec)

/-- 'valiselaw10.BlockCounts', WHERE WHAT IT READS IS OF BULK AT MOST 1048576: true; the input reads as it did. -/
def blockCountsUptoRow : OpenClaim := { program := "ytpkgngaohnblkaadoor", sum := "97c8e3778e671bd40e77bea21df7d20b9b1afd7fe82af39e3d4e2729976b03e9", func := "valise/valiselaw10.BlockCounts", spec := "blockCounts", named := ["valise/block.lengthBase", "valise/block.lengthBits", "valise/block.distBase", "valise/block.distBits"], apart := false, laid := [("valise/block.lengthBase", laid_valise_block_lengthBase), ("valise/block.lengthBits", laid_valise_block_lengthBits), ("valise/block.distBase", laid_valise_block_distBase), ("valise/block.distBits", laid_valise_block_distBits)], narrowed := true }
def BlockCountsUptoSaid : Prop := blockCountsUptoRow.holds Tryd.pinned (OpenSpec.upto blockCountsSpec)

/-- 'valiselaw10.BlockTrees', WHERE WHAT IT READS IS OF BULK AT MOST 1048576: true; the input reads as it did. -/
def blockTreesUptoRow : OpenClaim := { program := "ytpkgngaohnblkaadoor", sum := "97c8e3778e671bd40e77bea21df7d20b9b1afd7fe82af39e3d4e2729976b03e9", func := "valise/valiselaw10.BlockTrees", spec := "blockTrees", unfollowed := true, recurses := true, named := ["valise/block.lengthBase", "valise/block.lengthBits", "valise/block.distBase", "valise/block.distBits"], apart := false, laid := [("valise/block.lengthBase", laid_valise_block_lengthBase), ("valise/block.lengthBits", laid_valise_block_lengthBits), ("valise/block.distBase", laid_valise_block_distBase), ("valise/block.distBits", laid_valise_block_distBits)], narrowed := true }
def BlockTreesUptoSaid : Prop := blockTreesUptoRow.holds Tryd.pinned (OpenSpec.upto blockTreesSpec)

/-- 'valiselaw10.BlockTreesAreBest', WHERE WHAT IT READS IS OF BULK AT MOST 1048576: true; the input reads as it did. -/
def blockTreesAreBestUptoRow : OpenClaim := { program := "ytpkgngaohnblkaadoor", sum := "97c8e3778e671bd40e77bea21df7d20b9b1afd7fe82af39e3d4e2729976b03e9", func := "valise/valiselaw10.BlockTreesAreBest", spec := "blockTreesAreBest", unfollowed := true, recurses := true, named := ["valise/block.lengthBase", "valise/block.lengthBits", "valise/block.distBase", "valise/block.distBits"], apart := false, laid := [("valise/block.lengthBase", laid_valise_block_lengthBase), ("valise/block.lengthBits", laid_valise_block_lengthBits), ("valise/block.distBase", laid_valise_block_distBase), ("valise/block.distBits", laid_valise_block_distBits)], narrowed := true }
def BlockTreesAreBestUptoSaid : Prop := blockTreesAreBestUptoRow.holds Tryd.pinned (OpenSpec.upto blockTreesAreBestSpec)

/-- 'valiselaw10.BlockApart', WHERE WHAT IT READS IS OF BULK AT MOST 1048576: true; the input reads as it did. -/
def blockApartUptoRow : OpenClaim := { program := "ytpkgngaohnblkaadoor", sum := "97c8e3778e671bd40e77bea21df7d20b9b1afd7fe82af39e3d4e2729976b03e9", func := "valise/valiselaw10.BlockApart", spec := "blockApart", unfollowed := true, recurses := true, named := ["valise/block.lengthBase", "valise/block.lengthBits", "valise/block.distBase", "valise/block.distBits"], apart := false, laid := [("valise/block.lengthBase", laid_valise_block_lengthBase), ("valise/block.lengthBits", laid_valise_block_lengthBits), ("valise/block.distBase", laid_valise_block_distBase), ("valise/block.distBits", laid_valise_block_distBits)], narrowed := true }
def BlockApartUptoSaid : Prop := blockApartUptoRow.holds Tryd.pinned (OpenSpec.upto blockApartSpec)

/-- 'valiselaw10.BlockMeasures', WHERE WHAT IT READS IS OF BULK AT MOST 1048576: true; the input reads as it did. -/
def blockMeasuresUptoRow : OpenClaim := { program := "ytpkgngaohnblkaadoor", sum := "97c8e3778e671bd40e77bea21df7d20b9b1afd7fe82af39e3d4e2729976b03e9", func := "valise/valiselaw10.BlockMeasures", spec := "blockMeasures", unfollowed := true, recurses := true, named := ["valise/block.lengthBase", "valise/block.lengthBits", "valise/block.distBase", "valise/block.distBits", "valise/header.further", "valise/header.order", "valise/valiseref7.order"], apart := false, laid := [("valise/header.order", laid_valise_header_order), ("valise/header.further", laid_valise_header_further), ("valise/block.lengthBase", laid_valise_block_lengthBase), ("valise/block.lengthBits", laid_valise_block_lengthBits), ("valise/block.distBase", laid_valise_block_distBase), ("valise/block.distBits", laid_valise_block_distBits), ("valise/valiseref7.order", laid_valise_valiseref7_order)], narrowed := true }
def BlockMeasuresUptoSaid : Prop := blockMeasuresUptoRow.holds Tryd.pinned (OpenSpec.upto blockMeasuresSpec)

/-- 'valiselaw10.BlockNeverWorse', WHERE WHAT IT READS IS OF BULK AT MOST 1048576: true; the input reads as it did. -/
def blockNeverWorseUptoRow : OpenClaim := { program := "ytpkgngaohnblkaadoor", sum := "97c8e3778e671bd40e77bea21df7d20b9b1afd7fe82af39e3d4e2729976b03e9", func := "valise/valiselaw10.BlockNeverWorse", spec := "blockNeverWorse", unfollowed := true, recurses := true, named := ["valise/block.lengthBase", "valise/block.lengthBits", "valise/block.distBase", "valise/block.distBits", "valise/header.further", "valise/header.order"], apart := false, laid := [("valise/header.order", laid_valise_header_order), ("valise/header.further", laid_valise_header_further), ("valise/block.lengthBase", laid_valise_block_lengthBase), ("valise/block.lengthBits", laid_valise_block_lengthBits), ("valise/block.distBase", laid_valise_block_distBase), ("valise/block.distBits", laid_valise_block_distBits)], narrowed := true }
def BlockNeverWorseUptoSaid : Prop := blockNeverWorseUptoRow.holds Tryd.pinned (OpenSpec.upto blockNeverWorseSpec)

/-- 'valiselaw10.BlockJustSoMany', WHERE WHAT IT READS IS OF BULK AT MOST 1048576: true; the input reads as it did. -/
def blockJustSoManyUptoRow : OpenClaim := { program := "ytpkgngaohnblkaadoor", sum := "97c8e3778e671bd40e77bea21df7d20b9b1afd7fe82af39e3d4e2729976b03e9", func := "valise/valiselaw10.BlockJustSoMany", spec := "blockJustSoMany", unfollowed := true, recurses := true, named := ["valise/block.lengthBase", "valise/block.lengthBits", "valise/block.distBase", "valise/block.distBits", "valise/header.further", "valise/header.order", "valise/header.least"], apart := false, laid := [("valise/header.order", laid_valise_header_order), ("valise/header.further", laid_valise_header_further), ("valise/header.least", laid_valise_header_least), ("valise/block.lengthBase", laid_valise_block_lengthBase), ("valise/block.lengthBits", laid_valise_block_lengthBits), ("valise/block.distBase", laid_valise_block_distBase), ("valise/block.distBits", laid_valise_block_distBits)], narrowed := true }
def BlockJustSoManyUptoSaid : Prop := blockJustSoManyUptoRow.holds Tryd.pinned (OpenSpec.upto blockJustSoManySpec)

/-- 'valiselaw10.BlockInflates', WHERE WHAT IT READS IS OF BULK AT MOST 1048576: true; the input reads as it did. -/
def blockInflatesUptoRow : OpenClaim := { program := "ytpkgngaohnblkaadoor", sum := "97c8e3778e671bd40e77bea21df7d20b9b1afd7fe82af39e3d4e2729976b03e9", func := "valise/valiselaw10.BlockInflates", spec := "blockInflates", unfollowed := true, recurses := true, named := ["valise/block.lengthBase", "valise/block.lengthBits", "valise/block.distBase", "valise/block.distBits", "valise/header.order", "valise/header.least", "valise/header.further", "valise/inflate.lengths", "valise/inflate.distances"], apart := false, laid := [("valise/header.order", laid_valise_header_order), ("valise/header.further", laid_valise_header_further), ("valise/header.least", laid_valise_header_least), ("valise/block.lengthBase", laid_valise_block_lengthBase), ("valise/block.lengthBits", laid_valise_block_lengthBits), ("valise/block.distBase", laid_valise_block_distBase), ("valise/block.distBits", laid_valise_block_distBits), ("valise/inflate.lengths", laid_valise_inflate_lengths), ("valise/inflate.distances", laid_valise_inflate_distances)], narrowed := true }
def BlockInflatesUptoSaid : Prop := blockInflatesUptoRow.holds Tryd.pinned (OpenSpec.upto blockInflatesSpec)

end Rows
end Go.Proofs.YtpkgngaohnblkaaDoor
