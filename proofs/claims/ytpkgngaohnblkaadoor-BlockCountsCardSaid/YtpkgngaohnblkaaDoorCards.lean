/-
  DERIVED. GIVEN WITH THE SEED: THE CARDS: each row of YtpkgngaohnblkaaDoorRows.lean that lists a variable, with what it lists TIED to the program's text (the seventh form; the later family's looks); each row that meets fmt, with fmt's text TOLD by the authors' own Lean function (tested against real Go, not proved from fmt's source: count such statements apart). THE CARD IS WHAT COUNTS. Prove the row's statement (the work); the ties are given (YtpkgngaohnblkaaDoorTie.lean); close each card by the builder's one call (the guide's Derived/Test/ToyasCard.lean, 'card_holds'). Laid BY PROGRAM, IN A SANDBOX (cutbox-door.mjs). By AI agents, Wed Nov 11 2026. No macro, syntax, notation, axiom, sorry.
-/
import Derived.Test.YtpkgngaohnblkaaDoorRows
import GoSem.ClaimSeven
namespace Go.Proofs.YtpkgngaohnblkaaDoor
namespace Rows

/-- THE TIED CARD OF 'valiselaw10.BlockDistsOf'. -/
def blockDistsOfCard : Claim7 := { stood := { row := blockDistsOfRow, standIns := [], harness := (true, "23fbba54e06441509763407beb76314b45d0646ef30036c2b30b7e1bfbe8d94b"), looks := true }, kinds := [], alts := [], laidByText := true, laidKinds := [.data, .data], laidTests := true, laidLooks := .later }
def BlockDistsOfCardSaid : Prop := Claim7.holds Tryd.pinned (.plain (OpenSpec.ofChange blockDistsOfSpec)) blockDistsOfCard

/-- THE TIED CARD OF 'valiselaw10.BlockLengthSymbols'. -/
def blockLengthSymbolsCard : Claim7 := { stood := { row := blockLengthSymbolsRow, standIns := [], harness := (true, "23fbba54e06441509763407beb76314b45d0646ef30036c2b30b7e1bfbe8d94b"), looks := true }, kinds := [], alts := [], laidByText := true, laidKinds := [.data, .data], laidTests := true, laidLooks := .later }
def BlockLengthSymbolsCardSaid : Prop := Claim7.holds Tryd.pinned (.plain (OpenSpec.ofChange blockLengthSymbolsSpec)) blockLengthSymbolsCard

/-- THE TIED CARD OF 'valiselaw10.BlockDistSymbols'. -/
def blockDistSymbolsCard : Claim7 := { stood := { row := blockDistSymbolsRow, standIns := [], harness := (true, "23fbba54e06441509763407beb76314b45d0646ef30036c2b30b7e1bfbe8d94b"), looks := true }, kinds := [], alts := [], laidByText := true, laidKinds := [.data, .data], laidTests := true, laidLooks := .later }
def BlockDistSymbolsCardSaid : Prop := Claim7.holds Tryd.pinned (.plain (OpenSpec.ofChange blockDistSymbolsSpec)) blockDistSymbolsCard

/-- THE TIED CARD OF 'valiselaw10.BlockLengthsOf'. -/
def blockLengthsOfCard : Claim7 := { stood := { row := blockLengthsOfRow, standIns := [], harness := (true, "23fbba54e06441509763407beb76314b45d0646ef30036c2b30b7e1bfbe8d94b"), looks := true }, kinds := [], alts := [], laidByText := true, laidKinds := [.data, .data], laidTests := true, laidLooks := .later }
def BlockLengthsOfCardSaid : Prop := Claim7.holds Tryd.pinned (.plain (OpenSpec.ofChange blockLengthsOfSpec)) blockLengthsOfCard

/-- THE TIED CARD OF 'valiselaw10.BlockSymbolsGoBack'. -/
def blockSymbolsGoBackCard : Claim7 := { stood := { row := blockSymbolsGoBackRow, standIns := [], harness := (true, "23fbba54e06441509763407beb76314b45d0646ef30036c2b30b7e1bfbe8d94b"), looks := true }, kinds := [], alts := [], laidByText := true, laidKinds := [.data, .data, .data, .data], laidTests := true, laidLooks := .later }
def BlockSymbolsGoBackCardSaid : Prop := Claim7.holds Tryd.pinned (.plain (OpenSpec.ofChange blockSymbolsGoBackSpec)) blockSymbolsGoBackCard

/-- THE TIED CARD OF 'valiselaw10.BlockCounts'. -/
def blockCountsCard : Claim7 := { stood := { row := blockCountsRow, standIns := [], harness := (true, "23fbba54e06441509763407beb76314b45d0646ef30036c2b30b7e1bfbe8d94b"), looks := true }, kinds := [], alts := [], laidByText := true, laidKinds := [.data, .data, .data, .data], laidTests := true, laidLooks := .later }
def BlockCountsCardSaid : Prop := Claim7.holds Tryd.pinned (.plain (OpenSpec.ofChange blockCountsSpec)) blockCountsCard

/-- THE TIED CARD OF 'valiselaw10.BlockTrees'. -/
def blockTreesCard : Claim7 := { stood := { row := blockTreesRow, standIns := [], harness := (true, "23fbba54e06441509763407beb76314b45d0646ef30036c2b30b7e1bfbe8d94b"), looks := true }, kinds := [], alts := [], laidByText := true, laidKinds := [.data, .data, .data, .data], laidTests := true, laidLooks := .later }
def BlockTreesCardSaid : Prop := Claim7.holds Tryd.pinned (.plain (OpenSpec.ofChange blockTreesSpec)) blockTreesCard

/-- THE TIED CARD OF 'valiselaw10.BlockTreesAreBest'. -/
def blockTreesAreBestCard : Claim7 := { stood := { row := blockTreesAreBestRow, standIns := [], harness := (true, "23fbba54e06441509763407beb76314b45d0646ef30036c2b30b7e1bfbe8d94b"), looks := true }, kinds := [], alts := [], laidByText := true, laidKinds := [.data, .data, .data, .data], laidTests := true, laidLooks := .later }
def BlockTreesAreBestCardSaid : Prop := Claim7.holds Tryd.pinned (.plain (OpenSpec.ofChange blockTreesAreBestSpec)) blockTreesAreBestCard

/-- THE TIED CARD OF 'valiselaw10.BlockApart'. -/
def blockApartCard : Claim7 := { stood := { row := blockApartRow, standIns := [], harness := (true, "23fbba54e06441509763407beb76314b45d0646ef30036c2b30b7e1bfbe8d94b"), looks := true }, kinds := [], alts := [], laidByText := true, laidKinds := [.data, .data, .data, .data], laidTests := true, laidLooks := .later }
def BlockApartCardSaid : Prop := Claim7.holds Tryd.pinned (.plain (OpenSpec.ofChange blockApartSpec)) blockApartCard

/-- THE TIED CARD OF 'valiselaw10.BlockMeasures'. -/
def blockMeasuresCard : Claim7 := { stood := { row := blockMeasuresRow, standIns := [], harness := (true, "23fbba54e06441509763407beb76314b45d0646ef30036c2b30b7e1bfbe8d94b"), looks := true }, kinds := [], alts := [], laidByText := true, laidKinds := [.data, .data, .data, .data, .data, .data, .data], laidTests := true, laidLooks := .later }
def BlockMeasuresCardSaid : Prop := Claim7.holds Tryd.pinned (.plain (OpenSpec.ofChange blockMeasuresSpec)) blockMeasuresCard

/-- THE TIED CARD OF 'valiselaw10.BlockNeverWorse'. -/
def blockNeverWorseCard : Claim7 := { stood := { row := blockNeverWorseRow, standIns := [], harness := (true, "23fbba54e06441509763407beb76314b45d0646ef30036c2b30b7e1bfbe8d94b"), looks := true }, kinds := [], alts := [], laidByText := true, laidKinds := [.data, .data, .data, .data, .data, .data], laidTests := true, laidLooks := .later }
def BlockNeverWorseCardSaid : Prop := Claim7.holds Tryd.pinned (.plain (OpenSpec.ofChange blockNeverWorseSpec)) blockNeverWorseCard

/-- THE TIED CARD OF 'valiselaw10.BlockJustSoMany'. -/
def blockJustSoManyCard : Claim7 := { stood := { row := blockJustSoManyRow, standIns := [], harness := (true, "23fbba54e06441509763407beb76314b45d0646ef30036c2b30b7e1bfbe8d94b"), looks := true }, kinds := [], alts := [], laidByText := true, laidKinds := [.data, .data, .data, .data, .data, .data, .data], laidTests := true, laidLooks := .later }
def BlockJustSoManyCardSaid : Prop := Claim7.holds Tryd.pinned (.plain (OpenSpec.ofChange blockJustSoManySpec)) blockJustSoManyCard

/-- THE TIED CARD OF 'valiselaw10.BlockInflates'. -/
def blockInflatesCard : Claim7 := { stood := { row := blockInflatesRow, standIns := [], harness := (true, "23fbba54e06441509763407beb76314b45d0646ef30036c2b30b7e1bfbe8d94b"), looks := true }, kinds := [], alts := [], laidByText := true, laidKinds := [.data, .data, .data, .data, .data, .data, .data, .data, .data], laidTests := true, laidLooks := .later }
def BlockInflatesCardSaid : Prop := Claim7.holds Tryd.pinned (.plain (OpenSpec.ofChange blockInflatesSpec)) blockInflatesCard

/-- THE SECOND FORM's CARD OF 'valiselaw10.BlockDistsOf'. -/
def blockDistsOfUptoCard : Claim7 := { stood := { row := blockDistsOfUptoRow, standIns := [], harness := (true, "23fbba54e06441509763407beb76314b45d0646ef30036c2b30b7e1bfbe8d94b"), looks := true }, kinds := [], alts := [], laidByText := true, laidKinds := [.data, .data], laidTests := true, laidLooks := .later }
def BlockDistsOfUptoCardSaid : Prop := Claim7.holds Tryd.pinned (.plain (OpenSpec.upto blockDistsOfSpec)) blockDistsOfUptoCard

/-- THE SECOND FORM's CARD OF 'valiselaw10.BlockLengthSymbols'. -/
def blockLengthSymbolsUptoCard : Claim7 := { stood := { row := blockLengthSymbolsUptoRow, standIns := [], harness := (true, "23fbba54e06441509763407beb76314b45d0646ef30036c2b30b7e1bfbe8d94b"), looks := true }, kinds := [], alts := [], laidByText := true, laidKinds := [.data, .data], laidTests := true, laidLooks := .later }
def BlockLengthSymbolsUptoCardSaid : Prop := Claim7.holds Tryd.pinned (.plain (OpenSpec.upto blockLengthSymbolsSpec)) blockLengthSymbolsUptoCard

/-- THE SECOND FORM's CARD OF 'valiselaw10.BlockDistSymbols'. -/
def blockDistSymbolsUptoCard : Claim7 := { stood := { row := blockDistSymbolsUptoRow, standIns := [], harness := (true, "23fbba54e06441509763407beb76314b45d0646ef30036c2b30b7e1bfbe8d94b"), looks := true }, kinds := [], alts := [], laidByText := true, laidKinds := [.data, .data], laidTests := true, laidLooks := .later }
def BlockDistSymbolsUptoCardSaid : Prop := Claim7.holds Tryd.pinned (.plain (OpenSpec.upto blockDistSymbolsSpec)) blockDistSymbolsUptoCard

/-- THE SECOND FORM's CARD OF 'valiselaw10.BlockLengthsOf'. -/
def blockLengthsOfUptoCard : Claim7 := { stood := { row := blockLengthsOfUptoRow, standIns := [], harness := (true, "23fbba54e06441509763407beb76314b45d0646ef30036c2b30b7e1bfbe8d94b"), looks := true }, kinds := [], alts := [], laidByText := true, laidKinds := [.data, .data], laidTests := true, laidLooks := .later }
def BlockLengthsOfUptoCardSaid : Prop := Claim7.holds Tryd.pinned (.plain (OpenSpec.upto blockLengthsOfSpec)) blockLengthsOfUptoCard

/-- THE SECOND FORM's CARD OF 'valiselaw10.BlockSymbolsGoBack'. -/
def blockSymbolsGoBackUptoCard : Claim7 := { stood := { row := blockSymbolsGoBackUptoRow, standIns := [], harness := (true, "23fbba54e06441509763407beb76314b45d0646ef30036c2b30b7e1bfbe8d94b"), looks := true }, kinds := [], alts := [], laidByText := true, laidKinds := [.data, .data, .data, .data], laidTests := true, laidLooks := .later }
def BlockSymbolsGoBackUptoCardSaid : Prop := Claim7.holds Tryd.pinned (.plain (OpenSpec.upto blockSymbolsGoBackSpec)) blockSymbolsGoBackUptoCard

/-- THE SECOND FORM's CARD OF 'valiselaw10.BlockCounts'. -/
def blockCountsUptoCard : Claim7 := { stood := { row := blockCountsUptoRow, standIns := [], harness := (true, "23fbba54e06441509763407beb76314b45d0646ef30036c2b30b7e1bfbe8d94b"), looks := true }, kinds := [], alts := [], laidByText := true, laidKinds := [.data, .data, .data, .data], laidTests := true, laidLooks := .later }
def BlockCountsUptoCardSaid : Prop := Claim7.holds Tryd.pinned (.plain (OpenSpec.upto blockCountsSpec)) blockCountsUptoCard

/-- THE SECOND FORM's CARD OF 'valiselaw10.BlockTrees'. -/
def blockTreesUptoCard : Claim7 := { stood := { row := blockTreesUptoRow, standIns := [], harness := (true, "23fbba54e06441509763407beb76314b45d0646ef30036c2b30b7e1bfbe8d94b"), looks := true }, kinds := [], alts := [], laidByText := true, laidKinds := [.data, .data, .data, .data], laidTests := true, laidLooks := .later }
def BlockTreesUptoCardSaid : Prop := Claim7.holds Tryd.pinned (.plain (OpenSpec.upto blockTreesSpec)) blockTreesUptoCard

/-- THE SECOND FORM's CARD OF 'valiselaw10.BlockTreesAreBest'. -/
def blockTreesAreBestUptoCard : Claim7 := { stood := { row := blockTreesAreBestUptoRow, standIns := [], harness := (true, "23fbba54e06441509763407beb76314b45d0646ef30036c2b30b7e1bfbe8d94b"), looks := true }, kinds := [], alts := [], laidByText := true, laidKinds := [.data, .data, .data, .data], laidTests := true, laidLooks := .later }
def BlockTreesAreBestUptoCardSaid : Prop := Claim7.holds Tryd.pinned (.plain (OpenSpec.upto blockTreesAreBestSpec)) blockTreesAreBestUptoCard

/-- THE SECOND FORM's CARD OF 'valiselaw10.BlockApart'. -/
def blockApartUptoCard : Claim7 := { stood := { row := blockApartUptoRow, standIns := [], harness := (true, "23fbba54e06441509763407beb76314b45d0646ef30036c2b30b7e1bfbe8d94b"), looks := true }, kinds := [], alts := [], laidByText := true, laidKinds := [.data, .data, .data, .data], laidTests := true, laidLooks := .later }
def BlockApartUptoCardSaid : Prop := Claim7.holds Tryd.pinned (.plain (OpenSpec.upto blockApartSpec)) blockApartUptoCard

/-- THE SECOND FORM's CARD OF 'valiselaw10.BlockMeasures'. -/
def blockMeasuresUptoCard : Claim7 := { stood := { row := blockMeasuresUptoRow, standIns := [], harness := (true, "23fbba54e06441509763407beb76314b45d0646ef30036c2b30b7e1bfbe8d94b"), looks := true }, kinds := [], alts := [], laidByText := true, laidKinds := [.data, .data, .data, .data, .data, .data, .data], laidTests := true, laidLooks := .later }
def BlockMeasuresUptoCardSaid : Prop := Claim7.holds Tryd.pinned (.plain (OpenSpec.upto blockMeasuresSpec)) blockMeasuresUptoCard

/-- THE SECOND FORM's CARD OF 'valiselaw10.BlockNeverWorse'. -/
def blockNeverWorseUptoCard : Claim7 := { stood := { row := blockNeverWorseUptoRow, standIns := [], harness := (true, "23fbba54e06441509763407beb76314b45d0646ef30036c2b30b7e1bfbe8d94b"), looks := true }, kinds := [], alts := [], laidByText := true, laidKinds := [.data, .data, .data, .data, .data, .data], laidTests := true, laidLooks := .later }
def BlockNeverWorseUptoCardSaid : Prop := Claim7.holds Tryd.pinned (.plain (OpenSpec.upto blockNeverWorseSpec)) blockNeverWorseUptoCard

/-- THE SECOND FORM's CARD OF 'valiselaw10.BlockJustSoMany'. -/
def blockJustSoManyUptoCard : Claim7 := { stood := { row := blockJustSoManyUptoRow, standIns := [], harness := (true, "23fbba54e06441509763407beb76314b45d0646ef30036c2b30b7e1bfbe8d94b"), looks := true }, kinds := [], alts := [], laidByText := true, laidKinds := [.data, .data, .data, .data, .data, .data, .data], laidTests := true, laidLooks := .later }
def BlockJustSoManyUptoCardSaid : Prop := Claim7.holds Tryd.pinned (.plain (OpenSpec.upto blockJustSoManySpec)) blockJustSoManyUptoCard

/-- THE SECOND FORM's CARD OF 'valiselaw10.BlockInflates'. -/
def blockInflatesUptoCard : Claim7 := { stood := { row := blockInflatesUptoRow, standIns := [], harness := (true, "23fbba54e06441509763407beb76314b45d0646ef30036c2b30b7e1bfbe8d94b"), looks := true }, kinds := [], alts := [], laidByText := true, laidKinds := [.data, .data, .data, .data, .data, .data, .data, .data, .data], laidTests := true, laidLooks := .later }
def BlockInflatesUptoCardSaid : Prop := Claim7.holds Tryd.pinned (.plain (OpenSpec.upto blockInflatesSpec)) blockInflatesUptoCard
end Rows
end Go.Proofs.YtpkgngaohnblkaaDoor
