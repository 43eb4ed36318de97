/-
  DERIVED. GIVEN WITH THE SEED: THE CARDS: each row of YteckboojmmeecaaDoorRows.lean that lists a variable, with what it lists TIED to the program's text (the seventh form; the later family's looks); each row that meets fmt, with fmt's text TOLD by the authors' own Lean function (tested against real Go, not proved from fmt's source: count such statements apart). THE CARD IS WHAT COUNTS. Prove the row's statement (the work); the ties are given (YteckboojmmeecaaDoorTie.lean); close each card by the builder's one call (the guide's Derived/Test/ToyasCard.lean, 'card_holds'). Laid BY PROGRAM, IN A SANDBOX (cutbox-door.mjs). By AI agents, Wed Nov 11 2026. No macro, syntax, notation, axiom, sorry.
-/
import Derived.Test.YteckboojmmeecaaDoorRows
import GoSem.ClaimSeven
namespace Go.Proofs.YteckboojmmeecaaDoor
namespace Rows

/-- THE TIED CARD OF 'valiselaw10.BlockDistsOf'. -/
def blockDistsOfCard : Claim7 := { stood := { row := blockDistsOfRow, standIns := [], harness := (true, "b69a9e3b376352c3c7c9087dd93f5084976f88b96e833c3c827130b289c0d029"), looks := false }, kinds := [], alts := [], laidByText := true, laidKinds := [.data, .data], laidTests := true, laidLooks := .later }
def BlockDistsOfCardSaid : Prop := Claim7.holds Tryd.pinned (.plain (OpenSpec.ofChange blockDistsOfSpec)) blockDistsOfCard

/-- THE TIED CARD OF 'valiselaw10.BlockLengthSymbols'. -/
def blockLengthSymbolsCard : Claim7 := { stood := { row := blockLengthSymbolsRow, standIns := [], harness := (true, "b69a9e3b376352c3c7c9087dd93f5084976f88b96e833c3c827130b289c0d029"), looks := false }, kinds := [], alts := [], laidByText := true, laidKinds := [.data, .data], laidTests := true, laidLooks := .later }
def BlockLengthSymbolsCardSaid : Prop := Claim7.holds Tryd.pinned (.plain (OpenSpec.ofChange blockLengthSymbolsSpec)) blockLengthSymbolsCard

/-- THE TIED CARD OF 'valiselaw10.BlockDistSymbols'. -/
def blockDistSymbolsCard : Claim7 := { stood := { row := blockDistSymbolsRow, standIns := [], harness := (true, "b69a9e3b376352c3c7c9087dd93f5084976f88b96e833c3c827130b289c0d029"), looks := false }, kinds := [], alts := [], laidByText := true, laidKinds := [.data, .data], laidTests := true, laidLooks := .later }
def BlockDistSymbolsCardSaid : Prop := Claim7.holds Tryd.pinned (.plain (OpenSpec.ofChange blockDistSymbolsSpec)) blockDistSymbolsCard

/-- THE TIED CARD OF 'valiselaw10.BlockLengthsOf'. -/
def blockLengthsOfCard : Claim7 := { stood := { row := blockLengthsOfRow, standIns := [], harness := (true, "b69a9e3b376352c3c7c9087dd93f5084976f88b96e833c3c827130b289c0d029"), looks := false }, kinds := [], alts := [], laidByText := true, laidKinds := [.data, .data], laidTests := true, laidLooks := .later }
def BlockLengthsOfCardSaid : Prop := Claim7.holds Tryd.pinned (.plain (OpenSpec.ofChange blockLengthsOfSpec)) blockLengthsOfCard

/-- THE TIED CARD OF 'valiselaw7.HeaderExpands'. -/
def headerExpandsCard : Claim7 := { stood := { row := headerExpandsRow, standIns := [], harness := (true, "b69a9e3b376352c3c7c9087dd93f5084976f88b96e833c3c827130b289c0d029"), looks := false }, kinds := [], alts := [], laidByText := true, laidKinds := [.data, .data], laidTests := true, laidLooks := .later }
def HeaderExpandsCardSaid : Prop := Claim7.holds Tryd.pinned (.plain (OpenSpec.ofChange headerExpandsSpec)) headerExpandsCard

/-- THE TIED CARD OF 'valiselaw10.BlockSymbolsGoBack'. -/
def blockSymbolsGoBackCard : Claim7 := { stood := { row := blockSymbolsGoBackRow, standIns := [], harness := (true, "b69a9e3b376352c3c7c9087dd93f5084976f88b96e833c3c827130b289c0d029"), looks := false }, kinds := [], alts := [], laidByText := true, laidKinds := [.data, .data, .data, .data], laidTests := true, laidLooks := .later }
def BlockSymbolsGoBackCardSaid : Prop := Claim7.holds Tryd.pinned (.plain (OpenSpec.ofChange blockSymbolsGoBackSpec)) blockSymbolsGoBackCard

/-- THE SECOND FORM's CARD OF 'valiselaw10.BlockDistsOf'. -/
def blockDistsOfUptoCard : Claim7 := { stood := { row := blockDistsOfUptoRow, standIns := [], harness := (true, "b69a9e3b376352c3c7c9087dd93f5084976f88b96e833c3c827130b289c0d029"), looks := false }, kinds := [], alts := [], laidByText := true, laidKinds := [.data, .data], laidTests := true, laidLooks := .later }
def BlockDistsOfUptoCardSaid : Prop := Claim7.holds Tryd.pinned (.plain (OpenSpec.upto blockDistsOfSpec)) blockDistsOfUptoCard

/-- THE SECOND FORM's CARD OF 'valiselaw10.BlockLengthSymbols'. -/
def blockLengthSymbolsUptoCard : Claim7 := { stood := { row := blockLengthSymbolsUptoRow, standIns := [], harness := (true, "b69a9e3b376352c3c7c9087dd93f5084976f88b96e833c3c827130b289c0d029"), looks := false }, kinds := [], alts := [], laidByText := true, laidKinds := [.data, .data], laidTests := true, laidLooks := .later }
def BlockLengthSymbolsUptoCardSaid : Prop := Claim7.holds Tryd.pinned (.plain (OpenSpec.upto blockLengthSymbolsSpec)) blockLengthSymbolsUptoCard

/-- THE SECOND FORM's CARD OF 'valiselaw10.BlockDistSymbols'. -/
def blockDistSymbolsUptoCard : Claim7 := { stood := { row := blockDistSymbolsUptoRow, standIns := [], harness := (true, "b69a9e3b376352c3c7c9087dd93f5084976f88b96e833c3c827130b289c0d029"), looks := false }, kinds := [], alts := [], laidByText := true, laidKinds := [.data, .data], laidTests := true, laidLooks := .later }
def BlockDistSymbolsUptoCardSaid : Prop := Claim7.holds Tryd.pinned (.plain (OpenSpec.upto blockDistSymbolsSpec)) blockDistSymbolsUptoCard

/-- THE SECOND FORM's CARD OF 'valiselaw10.BlockLengthsOf'. -/
def blockLengthsOfUptoCard : Claim7 := { stood := { row := blockLengthsOfUptoRow, standIns := [], harness := (true, "b69a9e3b376352c3c7c9087dd93f5084976f88b96e833c3c827130b289c0d029"), looks := false }, kinds := [], alts := [], laidByText := true, laidKinds := [.data, .data], laidTests := true, laidLooks := .later }
def BlockLengthsOfUptoCardSaid : Prop := Claim7.holds Tryd.pinned (.plain (OpenSpec.upto blockLengthsOfSpec)) blockLengthsOfUptoCard

/-- THE SECOND FORM's CARD OF 'valiselaw7.HeaderExpands'. -/
def headerExpandsUptoCard : Claim7 := { stood := { row := headerExpandsUptoRow, standIns := [], harness := (true, "b69a9e3b376352c3c7c9087dd93f5084976f88b96e833c3c827130b289c0d029"), looks := false }, kinds := [], alts := [], laidByText := true, laidKinds := [.data, .data], laidTests := true, laidLooks := .later }
def HeaderExpandsUptoCardSaid : Prop := Claim7.holds Tryd.pinned (.plain (OpenSpec.upto headerExpandsSpec)) headerExpandsUptoCard

/-- THE SECOND FORM's CARD OF 'valiselaw10.BlockSymbolsGoBack'. -/
def blockSymbolsGoBackUptoCard : Claim7 := { stood := { row := blockSymbolsGoBackUptoRow, standIns := [], harness := (true, "b69a9e3b376352c3c7c9087dd93f5084976f88b96e833c3c827130b289c0d029"), looks := false }, kinds := [], alts := [], laidByText := true, laidKinds := [.data, .data, .data, .data], laidTests := true, laidLooks := .later }
def BlockSymbolsGoBackUptoCardSaid : Prop := Claim7.holds Tryd.pinned (.plain (OpenSpec.upto blockSymbolsGoBackSpec)) blockSymbolsGoBackUptoCard
end Rows
end Go.Proofs.YteckboojmmeecaaDoor
