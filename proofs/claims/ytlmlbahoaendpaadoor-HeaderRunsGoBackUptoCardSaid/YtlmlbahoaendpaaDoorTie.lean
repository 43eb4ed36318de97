/-
  DERIVED. GIVEN WITH THE SEED: THE PROGRAM's TIES (one call each: nine closed facts by the kernel) AND EACH ROW's TIE, after the 31st guide's Derived/Test/Toyas{Tie, Card}.lean. No idea stands in it: it is a product of the set-up. Laid BY PROGRAM, IN A SANDBOX (cutbox-door.mjs). By AI agents, Wed Nov 11 2026. No macro, syntax, notation, axiom, sorry.
-/
import Derived.Test.YtlmlbahoaendpaaDoorRows
import Derived.LaidByTextLater
import Derived.SevenTiedAt
import Derived.LaidSub
import Derived.LaidOnce
namespace Go.Proofs.YtlmlbahoaendpaaDoor
open Go
set_option maxRecDepth 100000
theorem seatTie1 : Tryd.prog.laidByTextLater [("valise/header.order", Rows.laid_valise_header_order), ("valise/header.further", Rows.laid_valise_header_further), ("valise/header.least", Rows.laid_valise_header_least), ("valise/valiseref7.order", Rows.laid_valise_valiseref7_order)] [.data, .data, .data, .data] true :=
  Program.laidByTextLater_by_one 29 8 20 (by kernel_rfl) (by kernel_rfl) (by kernel_rfl) (by kernel_rfl) (by kernel_rfl) (by kernel_rfl) (fun _ _ => by kernel_rfl)
theorem noOwnUnsafe : Tryd.pinned.checked.prog.headLifts.contains "ownunsafe" = false := by kernel_rfl
theorem tie : Tryd.prog.laidByTextLater [("valise/header.further", Rows.laid_valise_header_further), ("valise/header.least", Rows.laid_valise_header_least)] [.data, .data] true :=
  Program.laidByTextLater.sub seatTie1 ["valise/header.further", "valise/header.least"] (by kernel_rfl) (by kernel_rfl)
theorem headerExpands_row_tie : Rows.headerExpandsRow.laidByTextAt .later Tryd.pinned [.data, .data] true :=
  OpenClaim.laidByTextAt_later rfl rfl tie noOwnUnsafe
theorem headerRunsGoBack_row_tie : Rows.headerRunsGoBackRow.laidByTextAt .later Tryd.pinned [.data, .data] true :=
  OpenClaim.laidByTextAt_later rfl rfl tie noOwnUnsafe
theorem tie2 : Tryd.prog.laidByTextLater [("valise/header.order", Rows.laid_valise_header_order), ("valise/header.further", Rows.laid_valise_header_further), ("valise/header.least", Rows.laid_valise_header_least), ("valise/valiseref7.order", Rows.laid_valise_valiseref7_order)] [.data, .data, .data, .data] true :=
  Program.laidByTextLater.sub seatTie1 ["valise/header.order", "valise/header.further", "valise/header.least", "valise/valiseref7.order"] (by kernel_rfl) (by kernel_rfl)
theorem headerReads_row_tie : Rows.headerReadsRow.laidByTextAt .later Tryd.pinned [.data, .data, .data, .data] true :=
  OpenClaim.laidByTextAt_later rfl rfl tie2 noOwnUnsafe
theorem headerWrites_row_tie : Rows.headerWritesRow.laidByTextAt .later Tryd.pinned [.data, .data, .data, .data] true :=
  OpenClaim.laidByTextAt_later rfl rfl tie2 noOwnUnsafe
theorem tie3 : Tryd.prog.laidByTextLater [("valise/header.order", Rows.laid_valise_header_order), ("valise/header.further", Rows.laid_valise_header_further), ("valise/valiseref7.order", Rows.laid_valise_valiseref7_order)] [.data, .data, .data] true :=
  Program.laidByTextLater.sub seatTie1 ["valise/header.order", "valise/header.further", "valise/valiseref7.order"] (by kernel_rfl) (by kernel_rfl)
theorem headerMakes_row_tie : Rows.headerMakesRow.laidByTextAt .later Tryd.pinned [.data, .data, .data] true :=
  OpenClaim.laidByTextAt_later rfl rfl tie3 noOwnUnsafe
theorem tie4 : Tryd.prog.laidByTextLater [("valise/header.order", Rows.laid_valise_header_order), ("valise/header.further", Rows.laid_valise_header_further)] [.data, .data] true :=
  Program.laidByTextLater.sub seatTie1 ["valise/header.order", "valise/header.further"] (by kernel_rfl) (by kernel_rfl)
theorem headerSmallCodeIsBest_row_tie : Rows.headerSmallCodeIsBestRow.laidByTextAt .later Tryd.pinned [.data, .data] true :=
  OpenClaim.laidByTextAt_later rfl rfl tie4 noOwnUnsafe
theorem tie5 : Tryd.prog.laidByTextLater [("valise/header.order", Rows.laid_valise_header_order), ("valise/header.further", Rows.laid_valise_header_further), ("valise/header.least", Rows.laid_valise_header_least)] [.data, .data, .data] true :=
  Program.laidByTextLater.sub seatTie1 ["valise/header.order", "valise/header.further", "valise/header.least"] (by kernel_rfl) (by kernel_rfl)
theorem headerHolds_row_tie : Rows.headerHoldsRow.laidByTextAt .later Tryd.pinned [.data, .data, .data] true :=
  OpenClaim.laidByTextAt_later rfl rfl tie5 noOwnUnsafe
theorem headerMayBe_row_tie : Rows.headerMayBeRow.laidByTextAt .later Tryd.pinned [.data, .data, .data] true :=
  OpenClaim.laidByTextAt_later rfl rfl tie5 noOwnUnsafe
theorem headerNil_row_tie : Rows.headerNilRow.laidByTextAt .later Tryd.pinned [.data, .data, .data] true :=
  OpenClaim.laidByTextAt_later rfl rfl tie5 noOwnUnsafe
theorem headerSound_row_tie : Rows.headerSoundRow.laidByTextAt .later Tryd.pinned [.data, .data, .data] true :=
  OpenClaim.laidByTextAt_later rfl rfl tie5 noOwnUnsafe
theorem headerCut_row_tie : Rows.headerCutRow.laidByTextAt .later Tryd.pinned [.data, .data, .data] true :=
  OpenClaim.laidByTextAt_later rfl rfl tie5 noOwnUnsafe
theorem headerApart_row_tie : Rows.headerApartRow.laidByTextAt .later Tryd.pinned [.data, .data, .data] true :=
  OpenClaim.laidByTextAt_later rfl rfl tie5 noOwnUnsafe
theorem headerGoesBack_row_tie : Rows.headerGoesBackRow.laidByTextAt .later Tryd.pinned [.data, .data, .data] true :=
  OpenClaim.laidByTextAt_later rfl rfl tie5 noOwnUnsafe
theorem headerExpandsUpto_row_tie : Rows.headerExpandsUptoRow.laidByTextAt .later Tryd.pinned [.data, .data] true :=
  OpenClaim.laidByTextAt_later rfl rfl tie noOwnUnsafe
theorem headerRunsGoBackUpto_row_tie : Rows.headerRunsGoBackUptoRow.laidByTextAt .later Tryd.pinned [.data, .data] true :=
  OpenClaim.laidByTextAt_later rfl rfl tie noOwnUnsafe
theorem headerReadsUpto_row_tie : Rows.headerReadsUptoRow.laidByTextAt .later Tryd.pinned [.data, .data, .data, .data] true :=
  OpenClaim.laidByTextAt_later rfl rfl tie2 noOwnUnsafe
theorem headerMakesUpto_row_tie : Rows.headerMakesUptoRow.laidByTextAt .later Tryd.pinned [.data, .data, .data] true :=
  OpenClaim.laidByTextAt_later rfl rfl tie3 noOwnUnsafe
theorem headerSmallCodeIsBestUpto_row_tie : Rows.headerSmallCodeIsBestUptoRow.laidByTextAt .later Tryd.pinned [.data, .data] true :=
  OpenClaim.laidByTextAt_later rfl rfl tie4 noOwnUnsafe
theorem headerHoldsUpto_row_tie : Rows.headerHoldsUptoRow.laidByTextAt .later Tryd.pinned [.data, .data, .data] true :=
  OpenClaim.laidByTextAt_later rfl rfl tie5 noOwnUnsafe
theorem headerMayBeUpto_row_tie : Rows.headerMayBeUptoRow.laidByTextAt .later Tryd.pinned [.data, .data, .data] true :=
  OpenClaim.laidByTextAt_later rfl rfl tie5 noOwnUnsafe
theorem headerWritesUpto_row_tie : Rows.headerWritesUptoRow.laidByTextAt .later Tryd.pinned [.data, .data, .data, .data] true :=
  OpenClaim.laidByTextAt_later rfl rfl tie2 noOwnUnsafe
theorem headerNilUpto_row_tie : Rows.headerNilUptoRow.laidByTextAt .later Tryd.pinned [.data, .data, .data] true :=
  OpenClaim.laidByTextAt_later rfl rfl tie5 noOwnUnsafe
theorem headerSoundUpto_row_tie : Rows.headerSoundUptoRow.laidByTextAt .later Tryd.pinned [.data, .data, .data] true :=
  OpenClaim.laidByTextAt_later rfl rfl tie5 noOwnUnsafe
theorem headerCutUpto_row_tie : Rows.headerCutUptoRow.laidByTextAt .later Tryd.pinned [.data, .data, .data] true :=
  OpenClaim.laidByTextAt_later rfl rfl tie5 noOwnUnsafe
theorem headerApartUpto_row_tie : Rows.headerApartUptoRow.laidByTextAt .later Tryd.pinned [.data, .data, .data] true :=
  OpenClaim.laidByTextAt_later rfl rfl tie5 noOwnUnsafe
theorem headerGoesBackUpto_row_tie : Rows.headerGoesBackUptoRow.laidByTextAt .later Tryd.pinned [.data, .data, .data] true :=
  OpenClaim.laidByTextAt_later rfl rfl tie5 noOwnUnsafe
end Go.Proofs.YtlmlbahoaendpaaDoor
