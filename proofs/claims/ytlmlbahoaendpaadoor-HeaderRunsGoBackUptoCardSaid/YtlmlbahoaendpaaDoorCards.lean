/-
  DERIVED. GIVEN WITH THE SEED: THE CARDS: each row of YtlmlbahoaendpaaDoorRows.lean that lists a variable, with what it lists TIED to the program's text (the seventh form; the later family's looks); each row that meets fmt, with fmt's text TOLD by the authors' own Lean function (tested against real Go, not proved from fmt's source: count such statements apart). THE CARD IS WHAT COUNTS. Prove the row's statement (the work); the ties are given (YtlmlbahoaendpaaDoorTie.lean); close each card by the builder's one call (the guide's Derived/Test/ToyasCard.lean, 'card_holds'). Laid BY PROGRAM, IN A SANDBOX (cutbox-door.mjs). By AI agents, Wed Nov 11 2026. No macro, syntax, notation, axiom, sorry.
-/
import Derived.Test.YtlmlbahoaendpaaDoorRows
import GoSem.ClaimSeven
namespace Go.Proofs.YtlmlbahoaendpaaDoor
namespace Rows

/-- THE TIED CARD OF 'valiselaw7.HeaderExpands'. -/
def headerExpandsCard : Claim7 := { stood := { row := headerExpandsRow, standIns := [], harness := (true, "98ae974444dd8ae8d419805da99e1af50cf10a34acff27012f73f23dd47c75e2"), looks := false }, kinds := [], alts := [], laidByText := true, laidKinds := [.data, .data], laidTests := true, laidLooks := .later }
def HeaderExpandsCardSaid : Prop := Claim7.holds Tryd.pinned (.plain (OpenSpec.ofChange headerExpandsSpec)) headerExpandsCard

/-- THE TIED CARD OF 'valiselaw7.HeaderRunsGoBack'. -/
def headerRunsGoBackCard : Claim7 := { stood := { row := headerRunsGoBackRow, standIns := [], harness := (true, "98ae974444dd8ae8d419805da99e1af50cf10a34acff27012f73f23dd47c75e2"), looks := false }, kinds := [], alts := [], laidByText := true, laidKinds := [.data, .data], laidTests := true, laidLooks := .later }
def HeaderRunsGoBackCardSaid : Prop := Claim7.holds Tryd.pinned (.plain (OpenSpec.ofChange headerRunsGoBackSpec)) headerRunsGoBackCard

/-- THE TIED CARD OF 'valiselaw7.HeaderReads'. -/
def headerReadsCard : Claim7 := { stood := { row := headerReadsRow, standIns := [], harness := (true, "98ae974444dd8ae8d419805da99e1af50cf10a34acff27012f73f23dd47c75e2"), looks := false }, kinds := [], alts := [], laidByText := true, laidKinds := [.data, .data, .data, .data], laidTests := true, laidLooks := .later }
def HeaderReadsCardSaid : Prop := Claim7.holds Tryd.pinned (.plain (OpenSpec.ofChange headerReadsSpec)) headerReadsCard

/-- THE TIED CARD OF 'valiselaw7.HeaderMakes'. -/
def headerMakesCard : Claim7 := { stood := { row := headerMakesRow, standIns := [], harness := (true, "98ae974444dd8ae8d419805da99e1af50cf10a34acff27012f73f23dd47c75e2"), looks := false }, kinds := [], alts := [], laidByText := true, laidKinds := [.data, .data, .data], laidTests := true, laidLooks := .later }
def HeaderMakesCardSaid : Prop := Claim7.holds Tryd.pinned (.plain (OpenSpec.ofChange headerMakesSpec)) headerMakesCard

/-- THE TIED CARD OF 'valiselaw7.HeaderSmallCodeIsBest'. -/
def headerSmallCodeIsBestCard : Claim7 := { stood := { row := headerSmallCodeIsBestRow, standIns := [], harness := (true, "98ae974444dd8ae8d419805da99e1af50cf10a34acff27012f73f23dd47c75e2"), looks := false }, kinds := [], alts := [], laidByText := true, laidKinds := [.data, .data], laidTests := true, laidLooks := .later }
def HeaderSmallCodeIsBestCardSaid : Prop := Claim7.holds Tryd.pinned (.plain (OpenSpec.ofChange headerSmallCodeIsBestSpec)) headerSmallCodeIsBestCard

/-- THE TIED CARD OF 'valiselaw7.HeaderHolds'. -/
def headerHoldsCard : Claim7 := { stood := { row := headerHoldsRow, standIns := [], harness := (true, "98ae974444dd8ae8d419805da99e1af50cf10a34acff27012f73f23dd47c75e2"), looks := false }, kinds := [], alts := [], laidByText := true, laidKinds := [.data, .data, .data], laidTests := true, laidLooks := .later }
def HeaderHoldsCardSaid : Prop := Claim7.holds Tryd.pinned (.plain (OpenSpec.ofChange headerHoldsSpec)) headerHoldsCard

/-- THE TIED CARD OF 'valiselaw7.HeaderMayBe'. -/
def headerMayBeCard : Claim7 := { stood := { row := headerMayBeRow, standIns := [], harness := (true, "98ae974444dd8ae8d419805da99e1af50cf10a34acff27012f73f23dd47c75e2"), looks := false }, kinds := [], alts := [], laidByText := true, laidKinds := [.data, .data, .data], laidTests := true, laidLooks := .later }
def HeaderMayBeCardSaid : Prop := Claim7.holds Tryd.pinned (.plain (OpenSpec.ofChange headerMayBeSpec)) headerMayBeCard

/-- THE TIED CARD OF 'valiselaw7.HeaderWrites'. -/
def headerWritesCard : Claim7 := { stood := { row := headerWritesRow, standIns := [], harness := (true, "98ae974444dd8ae8d419805da99e1af50cf10a34acff27012f73f23dd47c75e2"), looks := false }, kinds := [], alts := [], laidByText := true, laidKinds := [.data, .data, .data, .data], laidTests := true, laidLooks := .later }
def HeaderWritesCardSaid : Prop := Claim7.holds Tryd.pinned (.plain (OpenSpec.ofChange headerWritesSpec)) headerWritesCard

/-- THE TIED CARD OF 'valiselaw7.HeaderNil'. -/
def headerNilCard : Claim7 := { stood := { row := headerNilRow, standIns := [], harness := (true, "98ae974444dd8ae8d419805da99e1af50cf10a34acff27012f73f23dd47c75e2"), looks := false }, kinds := [], alts := [], laidByText := true, laidKinds := [.data, .data, .data], laidTests := true, laidLooks := .later }
def HeaderNilCardSaid : Prop := Claim7.holds Tryd.pinned (.plain (OpenSpec.ofChange headerNilSpec)) headerNilCard

/-- THE TIED CARD OF 'valiselaw7.HeaderSound'. -/
def headerSoundCard : Claim7 := { stood := { row := headerSoundRow, standIns := [], harness := (true, "98ae974444dd8ae8d419805da99e1af50cf10a34acff27012f73f23dd47c75e2"), looks := false }, kinds := [], alts := [], laidByText := true, laidKinds := [.data, .data, .data], laidTests := true, laidLooks := .later }
def HeaderSoundCardSaid : Prop := Claim7.holds Tryd.pinned (.plain (OpenSpec.ofChange headerSoundSpec)) headerSoundCard

/-- THE TIED CARD OF 'valiselaw7.HeaderCut'. -/
def headerCutCard : Claim7 := { stood := { row := headerCutRow, standIns := [], harness := (true, "98ae974444dd8ae8d419805da99e1af50cf10a34acff27012f73f23dd47c75e2"), looks := false }, kinds := [], alts := [], laidByText := true, laidKinds := [.data, .data, .data], laidTests := true, laidLooks := .later }
def HeaderCutCardSaid : Prop := Claim7.holds Tryd.pinned (.plain (OpenSpec.ofChange headerCutSpec)) headerCutCard

/-- THE TIED CARD OF 'valiselaw7.HeaderApart'. -/
def headerApartCard : Claim7 := { stood := { row := headerApartRow, standIns := [], harness := (true, "98ae974444dd8ae8d419805da99e1af50cf10a34acff27012f73f23dd47c75e2"), looks := false }, kinds := [], alts := [], laidByText := true, laidKinds := [.data, .data, .data], laidTests := true, laidLooks := .later }
def HeaderApartCardSaid : Prop := Claim7.holds Tryd.pinned (.plain (OpenSpec.ofChange headerApartSpec)) headerApartCard

/-- THE TIED CARD OF 'valiselaw7.HeaderGoesBack'. -/
def headerGoesBackCard : Claim7 := { stood := { row := headerGoesBackRow, standIns := [], harness := (true, "98ae974444dd8ae8d419805da99e1af50cf10a34acff27012f73f23dd47c75e2"), looks := false }, kinds := [], alts := [], laidByText := true, laidKinds := [.data, .data, .data], laidTests := true, laidLooks := .later }
def HeaderGoesBackCardSaid : Prop := Claim7.holds Tryd.pinned (.plain (OpenSpec.ofChange headerGoesBackSpec)) headerGoesBackCard

/-- THE SECOND FORM's CARD OF 'valiselaw7.HeaderExpands'. -/
def headerExpandsUptoCard : Claim7 := { stood := { row := headerExpandsUptoRow, standIns := [], harness := (true, "98ae974444dd8ae8d419805da99e1af50cf10a34acff27012f73f23dd47c75e2"), looks := false }, kinds := [], alts := [], laidByText := true, laidKinds := [.data, .data], laidTests := true, laidLooks := .later }
def HeaderExpandsUptoCardSaid : Prop := Claim7.holds Tryd.pinned (.plain (OpenSpec.upto headerExpandsSpec)) headerExpandsUptoCard

/-- THE SECOND FORM's CARD OF 'valiselaw7.HeaderRunsGoBack'. -/
def headerRunsGoBackUptoCard : Claim7 := { stood := { row := headerRunsGoBackUptoRow, standIns := [], harness := (true, "98ae974444dd8ae8d419805da99e1af50cf10a34acff27012f73f23dd47c75e2"), looks := false }, kinds := [], alts := [], laidByText := true, laidKinds := [.data, .data], laidTests := true, laidLooks := .later }
def HeaderRunsGoBackUptoCardSaid : Prop := Claim7.holds Tryd.pinned (.plain (OpenSpec.upto headerRunsGoBackSpec)) headerRunsGoBackUptoCard

/-- THE SECOND FORM's CARD OF 'valiselaw7.HeaderReads'. -/
def headerReadsUptoCard : Claim7 := { stood := { row := headerReadsUptoRow, standIns := [], harness := (true, "98ae974444dd8ae8d419805da99e1af50cf10a34acff27012f73f23dd47c75e2"), looks := false }, kinds := [], alts := [], laidByText := true, laidKinds := [.data, .data, .data, .data], laidTests := true, laidLooks := .later }
def HeaderReadsUptoCardSaid : Prop := Claim7.holds Tryd.pinned (.plain (OpenSpec.upto headerReadsSpec)) headerReadsUptoCard

/-- THE SECOND FORM's CARD OF 'valiselaw7.HeaderMakes'. -/
def headerMakesUptoCard : Claim7 := { stood := { row := headerMakesUptoRow, standIns := [], harness := (true, "98ae974444dd8ae8d419805da99e1af50cf10a34acff27012f73f23dd47c75e2"), looks := false }, kinds := [], alts := [], laidByText := true, laidKinds := [.data, .data, .data], laidTests := true, laidLooks := .later }
def HeaderMakesUptoCardSaid : Prop := Claim7.holds Tryd.pinned (.plain (OpenSpec.upto headerMakesSpec)) headerMakesUptoCard

/-- THE SECOND FORM's CARD OF 'valiselaw7.HeaderSmallCodeIsBest'. -/
def headerSmallCodeIsBestUptoCard : Claim7 := { stood := { row := headerSmallCodeIsBestUptoRow, standIns := [], harness := (true, "98ae974444dd8ae8d419805da99e1af50cf10a34acff27012f73f23dd47c75e2"), looks := false }, kinds := [], alts := [], laidByText := true, laidKinds := [.data, .data], laidTests := true, laidLooks := .later }
def HeaderSmallCodeIsBestUptoCardSaid : Prop := Claim7.holds Tryd.pinned (.plain (OpenSpec.upto headerSmallCodeIsBestSpec)) headerSmallCodeIsBestUptoCard

/-- THE SECOND FORM's CARD OF 'valiselaw7.HeaderHolds'. -/
def headerHoldsUptoCard : Claim7 := { stood := { row := headerHoldsUptoRow, standIns := [], harness := (true, "98ae974444dd8ae8d419805da99e1af50cf10a34acff27012f73f23dd47c75e2"), looks := false }, kinds := [], alts := [], laidByText := true, laidKinds := [.data, .data, .data], laidTests := true, laidLooks := .later }
def HeaderHoldsUptoCardSaid : Prop := Claim7.holds Tryd.pinned (.plain (OpenSpec.upto headerHoldsSpec)) headerHoldsUptoCard

/-- THE SECOND FORM's CARD OF 'valiselaw7.HeaderMayBe'. -/
def headerMayBeUptoCard : Claim7 := { stood := { row := headerMayBeUptoRow, standIns := [], harness := (true, "98ae974444dd8ae8d419805da99e1af50cf10a34acff27012f73f23dd47c75e2"), looks := false }, kinds := [], alts := [], laidByText := true, laidKinds := [.data, .data, .data], laidTests := true, laidLooks := .later }
def HeaderMayBeUptoCardSaid : Prop := Claim7.holds Tryd.pinned (.plain (OpenSpec.upto headerMayBeSpec)) headerMayBeUptoCard

/-- THE SECOND FORM's CARD OF 'valiselaw7.HeaderWrites'. -/
def headerWritesUptoCard : Claim7 := { stood := { row := headerWritesUptoRow, standIns := [], harness := (true, "98ae974444dd8ae8d419805da99e1af50cf10a34acff27012f73f23dd47c75e2"), looks := false }, kinds := [], alts := [], laidByText := true, laidKinds := [.data, .data, .data, .data], laidTests := true, laidLooks := .later }
def HeaderWritesUptoCardSaid : Prop := Claim7.holds Tryd.pinned (.plain (OpenSpec.upto headerWritesSpec)) headerWritesUptoCard

/-- THE SECOND FORM's CARD OF 'valiselaw7.HeaderNil'. -/
def headerNilUptoCard : Claim7 := { stood := { row := headerNilUptoRow, standIns := [], harness := (true, "98ae974444dd8ae8d419805da99e1af50cf10a34acff27012f73f23dd47c75e2"), looks := false }, kinds := [], alts := [], laidByText := true, laidKinds := [.data, .data, .data], laidTests := true, laidLooks := .later }
def HeaderNilUptoCardSaid : Prop := Claim7.holds Tryd.pinned (.plain (OpenSpec.upto headerNilSpec)) headerNilUptoCard

/-- THE SECOND FORM's CARD OF 'valiselaw7.HeaderSound'. -/
def headerSoundUptoCard : Claim7 := { stood := { row := headerSoundUptoRow, standIns := [], harness := (true, "98ae974444dd8ae8d419805da99e1af50cf10a34acff27012f73f23dd47c75e2"), looks := false }, kinds := [], alts := [], laidByText := true, laidKinds := [.data, .data, .data], laidTests := true, laidLooks := .later }
def HeaderSoundUptoCardSaid : Prop := Claim7.holds Tryd.pinned (.plain (OpenSpec.upto headerSoundSpec)) headerSoundUptoCard

/-- THE SECOND FORM's CARD OF 'valiselaw7.HeaderCut'. -/
def headerCutUptoCard : Claim7 := { stood := { row := headerCutUptoRow, standIns := [], harness := (true, "98ae974444dd8ae8d419805da99e1af50cf10a34acff27012f73f23dd47c75e2"), looks := false }, kinds := [], alts := [], laidByText := true, laidKinds := [.data, .data, .data], laidTests := true, laidLooks := .later }
def HeaderCutUptoCardSaid : Prop := Claim7.holds Tryd.pinned (.plain (OpenSpec.upto headerCutSpec)) headerCutUptoCard

/-- THE SECOND FORM's CARD OF 'valiselaw7.HeaderApart'. -/
def headerApartUptoCard : Claim7 := { stood := { row := headerApartUptoRow, standIns := [], harness := (true, "98ae974444dd8ae8d419805da99e1af50cf10a34acff27012f73f23dd47c75e2"), looks := false }, kinds := [], alts := [], laidByText := true, laidKinds := [.data, .data, .data], laidTests := true, laidLooks := .later }
def HeaderApartUptoCardSaid : Prop := Claim7.holds Tryd.pinned (.plain (OpenSpec.upto headerApartSpec)) headerApartUptoCard

/-- THE SECOND FORM's CARD OF 'valiselaw7.HeaderGoesBack'. -/
def headerGoesBackUptoCard : Claim7 := { stood := { row := headerGoesBackUptoRow, standIns := [], harness := (true, "98ae974444dd8ae8d419805da99e1af50cf10a34acff27012f73f23dd47c75e2"), looks := false }, kinds := [], alts := [], laidByText := true, laidKinds := [.data, .data, .data], laidTests := true, laidLooks := .later }
def HeaderGoesBackUptoCardSaid : Prop := Claim7.holds Tryd.pinned (.plain (OpenSpec.upto headerGoesBackSpec)) headerGoesBackUptoCard
end Rows
end Go.Proofs.YtlmlbahoaendpaaDoor
