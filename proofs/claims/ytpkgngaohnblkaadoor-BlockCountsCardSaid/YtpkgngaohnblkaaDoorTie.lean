/-
  DERIVED. GIVEN WITH THE SEED: THE PROGRAM's TIES (one call each: nine closed facts by the kernel) AND EACH ROW's TIE, after the 31st guide's Derived/Test/Toyas{Tie, Card}.lean. No idea stands in it: it is a product of the set-up. Laid BY PROGRAM, IN A SANDBOX (cutbox-door.mjs). By AI agents, Wed Nov 11 2026. No macro, syntax, notation, axiom, sorry.
-/
import Derived.Test.YtpkgngaohnblkaaDoorRows
import Derived.LaidByTextLater
import Derived.SevenTiedAt
import Derived.LaidSub
import Derived.LaidOnce
namespace Go.Proofs.YtpkgngaohnblkaaDoor
open Go
set_option maxRecDepth 100000
theorem seatTie1 : Tryd.prog.laidByTextLater [("valise/header.order", Rows.laid_valise_header_order), ("valise/header.further", Rows.laid_valise_header_further), ("valise/header.least", Rows.laid_valise_header_least), ("valise/block.lengthBase", Rows.laid_valise_block_lengthBase), ("valise/block.lengthBits", Rows.laid_valise_block_lengthBits), ("valise/block.distBase", Rows.laid_valise_block_distBase), ("valise/block.distBits", Rows.laid_valise_block_distBits), ("valise/inflate.lengths", Rows.laid_valise_inflate_lengths), ("valise/inflate.distances", Rows.laid_valise_inflate_distances), ("valise/valiseref7.order", Rows.laid_valise_valiseref7_order)] [.data, .data, .data, .data, .data, .data, .data, .data, .data, .data] true :=
  Program.laidByTextLater_by_one 118 8 61 (by kernel_rfl) (by kernel_rfl) (by kernel_rfl) (by kernel_rfl) (by kernel_rfl) (by kernel_rfl) (fun _ _ => by kernel_rfl)
theorem noOwnUnsafe : Tryd.pinned.checked.prog.headLifts.contains "ownunsafe" = false := by kernel_rfl
theorem tie : Tryd.prog.laidByTextLater [("valise/block.distBase", Rows.laid_valise_block_distBase), ("valise/block.distBits", Rows.laid_valise_block_distBits)] [.data, .data] true :=
  Program.laidByTextLater.sub seatTie1 ["valise/block.distBase", "valise/block.distBits"] (by kernel_rfl) (by kernel_rfl)
theorem blockDistsOf_row_tie : Rows.blockDistsOfRow.laidByTextAt .later Tryd.pinned [.data, .data] true :=
  OpenClaim.laidByTextAt_later rfl rfl tie noOwnUnsafe
theorem blockDistSymbols_row_tie : Rows.blockDistSymbolsRow.laidByTextAt .later Tryd.pinned [.data, .data] true :=
  OpenClaim.laidByTextAt_later rfl rfl tie noOwnUnsafe
theorem tie2 : Tryd.prog.laidByTextLater [("valise/block.lengthBase", Rows.laid_valise_block_lengthBase), ("valise/block.lengthBits", Rows.laid_valise_block_lengthBits)] [.data, .data] true :=
  Program.laidByTextLater.sub seatTie1 ["valise/block.lengthBase", "valise/block.lengthBits"] (by kernel_rfl) (by kernel_rfl)
theorem blockLengthSymbols_row_tie : Rows.blockLengthSymbolsRow.laidByTextAt .later Tryd.pinned [.data, .data] true :=
  OpenClaim.laidByTextAt_later rfl rfl tie2 noOwnUnsafe
theorem blockLengthsOf_row_tie : Rows.blockLengthsOfRow.laidByTextAt .later Tryd.pinned [.data, .data] true :=
  OpenClaim.laidByTextAt_later rfl rfl tie2 noOwnUnsafe
theorem tie3 : Tryd.prog.laidByTextLater [("valise/block.lengthBase", Rows.laid_valise_block_lengthBase), ("valise/block.lengthBits", Rows.laid_valise_block_lengthBits), ("valise/block.distBase", Rows.laid_valise_block_distBase), ("valise/block.distBits", Rows.laid_valise_block_distBits)] [.data, .data, .data, .data] true :=
  Program.laidByTextLater.sub seatTie1 ["valise/block.lengthBase", "valise/block.lengthBits", "valise/block.distBase", "valise/block.distBits"] (by kernel_rfl) (by kernel_rfl)
theorem blockSymbolsGoBack_row_tie : Rows.blockSymbolsGoBackRow.laidByTextAt .later Tryd.pinned [.data, .data, .data, .data] true :=
  OpenClaim.laidByTextAt_later rfl rfl tie3 noOwnUnsafe
theorem blockCounts_row_tie : Rows.blockCountsRow.laidByTextAt .later Tryd.pinned [.data, .data, .data, .data] true :=
  OpenClaim.laidByTextAt_later rfl rfl tie3 noOwnUnsafe
theorem blockTrees_row_tie : Rows.blockTreesRow.laidByTextAt .later Tryd.pinned [.data, .data, .data, .data] true :=
  OpenClaim.laidByTextAt_later rfl rfl tie3 noOwnUnsafe
theorem blockTreesAreBest_row_tie : Rows.blockTreesAreBestRow.laidByTextAt .later Tryd.pinned [.data, .data, .data, .data] true :=
  OpenClaim.laidByTextAt_later rfl rfl tie3 noOwnUnsafe
theorem blockApart_row_tie : Rows.blockApartRow.laidByTextAt .later Tryd.pinned [.data, .data, .data, .data] true :=
  OpenClaim.laidByTextAt_later rfl rfl tie3 noOwnUnsafe
theorem tie4 : Tryd.prog.laidByTextLater [("valise/header.order", Rows.laid_valise_header_order), ("valise/header.further", Rows.laid_valise_header_further), ("valise/block.lengthBase", Rows.laid_valise_block_lengthBase), ("valise/block.lengthBits", Rows.laid_valise_block_lengthBits), ("valise/block.distBase", Rows.laid_valise_block_distBase), ("valise/block.distBits", Rows.laid_valise_block_distBits), ("valise/valiseref7.order", Rows.laid_valise_valiseref7_order)] [.data, .data, .data, .data, .data, .data, .data] true :=
  Program.laidByTextLater.sub seatTie1 ["valise/header.order", "valise/header.further", "valise/block.lengthBase", "valise/block.lengthBits", "valise/block.distBase", "valise/block.distBits", "valise/valiseref7.order"] (by kernel_rfl) (by kernel_rfl)
theorem blockMeasures_row_tie : Rows.blockMeasuresRow.laidByTextAt .later Tryd.pinned [.data, .data, .data, .data, .data, .data, .data] true :=
  OpenClaim.laidByTextAt_later rfl rfl tie4 noOwnUnsafe
theorem tie5 : Tryd.prog.laidByTextLater [("valise/header.order", Rows.laid_valise_header_order), ("valise/header.further", Rows.laid_valise_header_further), ("valise/block.lengthBase", Rows.laid_valise_block_lengthBase), ("valise/block.lengthBits", Rows.laid_valise_block_lengthBits), ("valise/block.distBase", Rows.laid_valise_block_distBase), ("valise/block.distBits", Rows.laid_valise_block_distBits)] [.data, .data, .data, .data, .data, .data] true :=
  Program.laidByTextLater.sub seatTie1 ["valise/header.order", "valise/header.further", "valise/block.lengthBase", "valise/block.lengthBits", "valise/block.distBase", "valise/block.distBits"] (by kernel_rfl) (by kernel_rfl)
theorem blockNeverWorse_row_tie : Rows.blockNeverWorseRow.laidByTextAt .later Tryd.pinned [.data, .data, .data, .data, .data, .data] true :=
  OpenClaim.laidByTextAt_later rfl rfl tie5 noOwnUnsafe
theorem tie6 : Tryd.prog.laidByTextLater [("valise/header.order", Rows.laid_valise_header_order), ("valise/header.further", Rows.laid_valise_header_further), ("valise/header.least", Rows.laid_valise_header_least), ("valise/block.lengthBase", Rows.laid_valise_block_lengthBase), ("valise/block.lengthBits", Rows.laid_valise_block_lengthBits), ("valise/block.distBase", Rows.laid_valise_block_distBase), ("valise/block.distBits", Rows.laid_valise_block_distBits)] [.data, .data, .data, .data, .data, .data, .data] true :=
  Program.laidByTextLater.sub seatTie1 ["valise/header.order", "valise/header.further", "valise/header.least", "valise/block.lengthBase", "valise/block.lengthBits", "valise/block.distBase", "valise/block.distBits"] (by kernel_rfl) (by kernel_rfl)
theorem blockJustSoMany_row_tie : Rows.blockJustSoManyRow.laidByTextAt .later Tryd.pinned [.data, .data, .data, .data, .data, .data, .data] true :=
  OpenClaim.laidByTextAt_later rfl rfl tie6 noOwnUnsafe
theorem tie7 : Tryd.prog.laidByTextLater [("valise/header.order", Rows.laid_valise_header_order), ("valise/header.further", Rows.laid_valise_header_further), ("valise/header.least", Rows.laid_valise_header_least), ("valise/block.lengthBase", Rows.laid_valise_block_lengthBase), ("valise/block.lengthBits", Rows.laid_valise_block_lengthBits), ("valise/block.distBase", Rows.laid_valise_block_distBase), ("valise/block.distBits", Rows.laid_valise_block_distBits), ("valise/inflate.lengths", Rows.laid_valise_inflate_lengths), ("valise/inflate.distances", Rows.laid_valise_inflate_distances)] [.data, .data, .data, .data, .data, .data, .data, .data, .data] true :=
  Program.laidByTextLater.sub seatTie1 ["valise/header.order", "valise/header.further", "valise/header.least", "valise/block.lengthBase", "valise/block.lengthBits", "valise/block.distBase", "valise/block.distBits", "valise/inflate.lengths", "valise/inflate.distances"] (by kernel_rfl) (by kernel_rfl)
theorem blockInflates_row_tie : Rows.blockInflatesRow.laidByTextAt .later Tryd.pinned [.data, .data, .data, .data, .data, .data, .data, .data, .data] true :=
  OpenClaim.laidByTextAt_later rfl rfl tie7 noOwnUnsafe
theorem blockDistsOfUpto_row_tie : Rows.blockDistsOfUptoRow.laidByTextAt .later Tryd.pinned [.data, .data] true :=
  OpenClaim.laidByTextAt_later rfl rfl tie noOwnUnsafe
theorem blockLengthSymbolsUpto_row_tie : Rows.blockLengthSymbolsUptoRow.laidByTextAt .later Tryd.pinned [.data, .data] true :=
  OpenClaim.laidByTextAt_later rfl rfl tie2 noOwnUnsafe
theorem blockDistSymbolsUpto_row_tie : Rows.blockDistSymbolsUptoRow.laidByTextAt .later Tryd.pinned [.data, .data] true :=
  OpenClaim.laidByTextAt_later rfl rfl tie noOwnUnsafe
theorem blockLengthsOfUpto_row_tie : Rows.blockLengthsOfUptoRow.laidByTextAt .later Tryd.pinned [.data, .data] true :=
  OpenClaim.laidByTextAt_later rfl rfl tie2 noOwnUnsafe
theorem blockSymbolsGoBackUpto_row_tie : Rows.blockSymbolsGoBackUptoRow.laidByTextAt .later Tryd.pinned [.data, .data, .data, .data] true :=
  OpenClaim.laidByTextAt_later rfl rfl tie3 noOwnUnsafe
theorem blockCountsUpto_row_tie : Rows.blockCountsUptoRow.laidByTextAt .later Tryd.pinned [.data, .data, .data, .data] true :=
  OpenClaim.laidByTextAt_later rfl rfl tie3 noOwnUnsafe
theorem blockTreesUpto_row_tie : Rows.blockTreesUptoRow.laidByTextAt .later Tryd.pinned [.data, .data, .data, .data] true :=
  OpenClaim.laidByTextAt_later rfl rfl tie3 noOwnUnsafe
theorem blockTreesAreBestUpto_row_tie : Rows.blockTreesAreBestUptoRow.laidByTextAt .later Tryd.pinned [.data, .data, .data, .data] true :=
  OpenClaim.laidByTextAt_later rfl rfl tie3 noOwnUnsafe
theorem blockApartUpto_row_tie : Rows.blockApartUptoRow.laidByTextAt .later Tryd.pinned [.data, .data, .data, .data] true :=
  OpenClaim.laidByTextAt_later rfl rfl tie3 noOwnUnsafe
theorem blockMeasuresUpto_row_tie : Rows.blockMeasuresUptoRow.laidByTextAt .later Tryd.pinned [.data, .data, .data, .data, .data, .data, .data] true :=
  OpenClaim.laidByTextAt_later rfl rfl tie4 noOwnUnsafe
theorem blockNeverWorseUpto_row_tie : Rows.blockNeverWorseUptoRow.laidByTextAt .later Tryd.pinned [.data, .data, .data, .data, .data, .data] true :=
  OpenClaim.laidByTextAt_later rfl rfl tie5 noOwnUnsafe
theorem blockJustSoManyUpto_row_tie : Rows.blockJustSoManyUptoRow.laidByTextAt .later Tryd.pinned [.data, .data, .data, .data, .data, .data, .data] true :=
  OpenClaim.laidByTextAt_later rfl rfl tie6 noOwnUnsafe
theorem blockInflatesUpto_row_tie : Rows.blockInflatesUptoRow.laidByTextAt .later Tryd.pinned [.data, .data, .data, .data, .data, .data, .data, .data, .data] true :=
  OpenClaim.laidByTextAt_later rfl rfl tie7 noOwnUnsafe
end Go.Proofs.YtpkgngaohnblkaaDoor
