/-
  DERIVED. GIVEN WITH THE SEED: THE CARDS: each row of YtcnkbdfkjhlbiaaDoorRows.lean that lists a variable, with what it lists TIED to the program's text (the seventh form; the later family's looks); each row that meets fmt, with fmt's text TOLD by the authors' own Lean function (tested against real Go, not proved from fmt's source: count such statements apart). THE CARD IS WHAT COUNTS. Prove the row's statement (the work); the ties are given (YtcnkbdfkjhlbiaaDoorTie.lean); close each card by the builder's one call (the guide's Derived/Test/ToyasCard.lean, 'card_holds'). Laid BY PROGRAM, IN A SANDBOX (cutbox-door.mjs). By AI agents, Wed Nov 11 2026. No macro, syntax, notation, axiom, sorry.
-/
import Derived.Test.YtcnkbdfkjhlbiaaDoorRows
import GoSem.ClaimSeven
namespace Go.Proofs.YtcnkbdfkjhlbiaaDoor
namespace Rows

/-- THE TIED CARD OF 'tithinglaw02.SheetPersons'. -/
def sheetPersonsCard : Claim7 := { stood := { row := sheetPersonsRow, standIns := [], harness := (true, "848ff9a12d0f395eb2d927cb6210c0b99462ff90fb257da722d663d696160e83"), looks := false }, kinds := [], alts := [], laidByText := true, laidKinds := [.data, .data], laidTests := true, laidLooks := .later }
def SheetPersonsCardSaid : Prop := Claim7.holds Tryd.pinned (.plain (OpenSpec.ofChange sheetPersonsSpec)) sheetPersonsCard

/-- THE TIED CARD OF 'tithinglaw02.SheetDrops'. -/
def sheetDropsCard : Claim7 := { stood := { row := sheetDropsRow, standIns := [], harness := (true, "848ff9a12d0f395eb2d927cb6210c0b99462ff90fb257da722d663d696160e83"), looks := false }, kinds := [], alts := [], laidByText := true, laidKinds := [.data, .data], laidTests := true, laidLooks := .later }
def SheetDropsCardSaid : Prop := Claim7.holds Tryd.pinned (.plain (OpenSpec.ofChange sheetDropsSpec)) sheetDropsCard

/-- THE TIED CARD OF 'tithinglaw02.SheetCodes'. -/
def sheetCodesCard : Claim7 := { stood := { row := sheetCodesRow, standIns := [], harness := (true, "848ff9a12d0f395eb2d927cb6210c0b99462ff90fb257da722d663d696160e83"), looks := false }, kinds := [], alts := [], laidByText := true, laidKinds := [.data, .data], laidTests := true, laidLooks := .later }
def SheetCodesCardSaid : Prop := Claim7.holds Tryd.pinned (.plain (OpenSpec.ofChange sheetCodesSpec)) sheetCodesCard

/-- THE TIED CARD OF 'tithinglaw02.SheetMore'. -/
def sheetMoreCard : Claim7 := { stood := { row := sheetMoreRow, standIns := [], harness := (true, "848ff9a12d0f395eb2d927cb6210c0b99462ff90fb257da722d663d696160e83"), looks := false }, kinds := [], alts := [], laidByText := true, laidKinds := [.data, .data], laidTests := true, laidLooks := .later }
def SheetMoreCardSaid : Prop := Claim7.holds Tryd.pinned (.plain (OpenSpec.ofChange sheetMoreSpec)) sheetMoreCard

/-- THE TIED CARD OF 'tithinglaw02.SheetOrder'. -/
def sheetOrderCard : Claim7 := { stood := { row := sheetOrderRow, standIns := [], harness := (true, "848ff9a12d0f395eb2d927cb6210c0b99462ff90fb257da722d663d696160e83"), looks := false }, kinds := [], alts := [], laidByText := true, laidKinds := [.data, .data], laidTests := true, laidLooks := .later }
def SheetOrderCardSaid : Prop := Claim7.holds Tryd.pinned (.plain (OpenSpec.ofChange sheetOrderSpec)) sheetOrderCard

/-- THE TIED CARD OF 'tithinglaw02.SheetDropped'. -/
def sheetDroppedCard : Claim7 := { stood := { row := sheetDroppedRow, standIns := [], harness := (true, "848ff9a12d0f395eb2d927cb6210c0b99462ff90fb257da722d663d696160e83"), looks := false }, kinds := [], alts := [], laidByText := true, laidKinds := [.data, .data], laidTests := true, laidLooks := .later }
def SheetDroppedCardSaid : Prop := Claim7.holds Tryd.pinned (.plain (OpenSpec.ofChange sheetDroppedSpec)) sheetDroppedCard

/-- THE TIED CARD OF 'tithinglaw02.SheetCoders'. -/
def sheetCodersCard : Claim7 := { stood := { row := sheetCodersRow, standIns := [], harness := (true, "848ff9a12d0f395eb2d927cb6210c0b99462ff90fb257da722d663d696160e83"), looks := false }, kinds := [], alts := [], laidByText := true, laidKinds := [.data, .data], laidTests := true, laidLooks := .later }
def SheetCodersCardSaid : Prop := Claim7.holds Tryd.pinned (.plain (OpenSpec.ofChange sheetCodersSpec)) sheetCodersCard

/-- THE TIED CARD OF 'tithinglaw02.SheetSolves'. -/
def sheetSolvesCard : Claim7 := { stood := { row := sheetSolvesRow, standIns := [], harness := (true, "848ff9a12d0f395eb2d927cb6210c0b99462ff90fb257da722d663d696160e83"), looks := false }, kinds := [], alts := [], laidByText := true, laidKinds := [.data, .data], laidTests := true, laidLooks := .later }
def SheetSolvesCardSaid : Prop := Claim7.holds Tryd.pinned (.plain (OpenSpec.ofChange sheetSolvesSpec)) sheetSolvesCard

/-- THE TIED CARD OF 'tithinglaw02.SheetCoded'. -/
def sheetCodedCard : Claim7 := { stood := { row := sheetCodedRow, standIns := [], harness := (true, "848ff9a12d0f395eb2d927cb6210c0b99462ff90fb257da722d663d696160e83"), looks := false }, kinds := [], alts := [], laidByText := true, laidKinds := [.data, .data], laidTests := true, laidLooks := .later }
def SheetCodedCardSaid : Prop := Claim7.holds Tryd.pinned (.plain (OpenSpec.ofChange sheetCodedSpec)) sheetCodedCard

/-- THE TIED CARD OF 'tithinglaw02.SheetProves'. -/
def sheetProvesCard : Claim7 := { stood := { row := sheetProvesRow, standIns := [], harness := (true, "848ff9a12d0f395eb2d927cb6210c0b99462ff90fb257da722d663d696160e83"), looks := false }, kinds := [], alts := [], laidByText := true, laidKinds := [.data, .data], laidTests := true, laidLooks := .later }
def SheetProvesCardSaid : Prop := Claim7.holds Tryd.pinned (.plain (OpenSpec.ofChange sheetProvesSpec)) sheetProvesCard

/-- THE TIED CARD OF 'tithinglaw02.SheetTogether'. -/
def sheetTogetherCard : Claim7 := { stood := { row := sheetTogetherRow, standIns := [], harness := (true, "848ff9a12d0f395eb2d927cb6210c0b99462ff90fb257da722d663d696160e83"), looks := false }, kinds := [], alts := [], laidByText := true, laidKinds := [.data, .data], laidTests := true, laidLooks := .later }
def SheetTogetherCardSaid : Prop := Claim7.holds Tryd.pinned (.plain (OpenSpec.ofChange sheetTogetherSpec)) sheetTogetherCard

/-- THE TIED CARD OF 'tithinglaw02.SheetEvery'. -/
def sheetEveryCard : Claim7 := { stood := { row := sheetEveryRow, standIns := [], harness := (true, "848ff9a12d0f395eb2d927cb6210c0b99462ff90fb257da722d663d696160e83"), looks := false }, kinds := [], alts := [], laidByText := true, laidKinds := [.data, .data], laidTests := true, laidLooks := .later }
def SheetEveryCardSaid : Prop := Claim7.holds Tryd.pinned (.plain (OpenSpec.ofChange sheetEverySpec)) sheetEveryCard

/-- THE TIED CARD OF 'tithinglaw02.SheetFree'. -/
def sheetFreeCard : Claim7 := { stood := { row := sheetFreeRow, standIns := [], harness := (true, "848ff9a12d0f395eb2d927cb6210c0b99462ff90fb257da722d663d696160e83"), looks := false }, kinds := [], alts := [], laidByText := true, laidKinds := [.data, .data], laidTests := true, laidLooks := .later }
def SheetFreeCardSaid : Prop := Claim7.holds Tryd.pinned (.plain (OpenSpec.ofChange sheetFreeSpec)) sheetFreeCard

/-- THE TIED CARD OF 'tithinglaw02.SheetShows'. -/
def sheetShowsCard : Claim7 := { stood := { row := sheetShowsRow, standIns := [], harness := (true, "848ff9a12d0f395eb2d927cb6210c0b99462ff90fb257da722d663d696160e83"), looks := false }, kinds := [], alts := [], laidByText := true, laidKinds := [.data, .data], laidTests := true, laidLooks := .later }
def SheetShowsCardSaid : Prop := Claim7.holds Tryd.pinned (.plain (OpenSpec.ofChange sheetShowsSpec)) sheetShowsCard

/-- THE TIED CARD OF 'tithinglaw02.SheetEnds'. -/
def sheetEndsCard : Claim7 := { stood := { row := sheetEndsRow, standIns := [], harness := (true, "848ff9a12d0f395eb2d927cb6210c0b99462ff90fb257da722d663d696160e83"), looks := false }, kinds := [], alts := [], laidByText := true, laidKinds := [.data, .data], laidTests := true, laidLooks := .later }
def SheetEndsCardSaid : Prop := Claim7.holds Tryd.pinned (.plain (OpenSpec.ofChange sheetEndsSpec)) sheetEndsCard

/-- THE TIED CARD OF 'tithinglaw02.SheetNames'. -/
def sheetNamesCard : Claim7 := { stood := { row := sheetNamesRow, standIns := [], harness := (true, "848ff9a12d0f395eb2d927cb6210c0b99462ff90fb257da722d663d696160e83"), looks := false }, kinds := [], alts := [], laidByText := true, laidKinds := [.data, .data], laidTests := true, laidLooks := .later }
def SheetNamesCardSaid : Prop := Claim7.holds Tryd.pinned (.plain (OpenSpec.ofChange sheetNamesSpec)) sheetNamesCard

/-- THE SECOND FORM's CARD OF 'tithinglaw02.SheetPersons'. -/
def sheetPersonsUptoCard : Claim7 := { stood := { row := sheetPersonsUptoRow, standIns := [], harness := (true, "848ff9a12d0f395eb2d927cb6210c0b99462ff90fb257da722d663d696160e83"), looks := false }, kinds := [], alts := [], laidByText := true, laidKinds := [.data, .data], laidTests := true, laidLooks := .later }
def SheetPersonsUptoCardSaid : Prop := Claim7.holds Tryd.pinned (.plain (OpenSpec.upto sheetPersonsSpec)) sheetPersonsUptoCard

/-- THE SECOND FORM's CARD OF 'tithinglaw02.SheetDrops'. -/
def sheetDropsUptoCard : Claim7 := { stood := { row := sheetDropsUptoRow, standIns := [], harness := (true, "848ff9a12d0f395eb2d927cb6210c0b99462ff90fb257da722d663d696160e83"), looks := false }, kinds := [], alts := [], laidByText := true, laidKinds := [.data, .data], laidTests := true, laidLooks := .later }
def SheetDropsUptoCardSaid : Prop := Claim7.holds Tryd.pinned (.plain (OpenSpec.upto sheetDropsSpec)) sheetDropsUptoCard

/-- THE SECOND FORM's CARD OF 'tithinglaw02.SheetCodes'. -/
def sheetCodesUptoCard : Claim7 := { stood := { row := sheetCodesUptoRow, standIns := [], harness := (true, "848ff9a12d0f395eb2d927cb6210c0b99462ff90fb257da722d663d696160e83"), looks := false }, kinds := [], alts := [], laidByText := true, laidKinds := [.data, .data], laidTests := true, laidLooks := .later }
def SheetCodesUptoCardSaid : Prop := Claim7.holds Tryd.pinned (.plain (OpenSpec.upto sheetCodesSpec)) sheetCodesUptoCard

/-- THE SECOND FORM's CARD OF 'tithinglaw02.SheetMore'. -/
def sheetMoreUptoCard : Claim7 := { stood := { row := sheetMoreUptoRow, standIns := [], harness := (true, "848ff9a12d0f395eb2d927cb6210c0b99462ff90fb257da722d663d696160e83"), looks := false }, kinds := [], alts := [], laidByText := true, laidKinds := [.data, .data], laidTests := true, laidLooks := .later }
def SheetMoreUptoCardSaid : Prop := Claim7.holds Tryd.pinned (.plain (OpenSpec.upto sheetMoreSpec)) sheetMoreUptoCard

/-- THE SECOND FORM's CARD OF 'tithinglaw02.SheetOrder'. -/
def sheetOrderUptoCard : Claim7 := { stood := { row := sheetOrderUptoRow, standIns := [], harness := (true, "848ff9a12d0f395eb2d927cb6210c0b99462ff90fb257da722d663d696160e83"), looks := false }, kinds := [], alts := [], laidByText := true, laidKinds := [.data, .data], laidTests := true, laidLooks := .later }
def SheetOrderUptoCardSaid : Prop := Claim7.holds Tryd.pinned (.plain (OpenSpec.upto sheetOrderSpec)) sheetOrderUptoCard

/-- THE SECOND FORM's CARD OF 'tithinglaw02.SheetDropped'. -/
def sheetDroppedUptoCard : Claim7 := { stood := { row := sheetDroppedUptoRow, standIns := [], harness := (true, "848ff9a12d0f395eb2d927cb6210c0b99462ff90fb257da722d663d696160e83"), looks := false }, kinds := [], alts := [], laidByText := true, laidKinds := [.data, .data], laidTests := true, laidLooks := .later }
def SheetDroppedUptoCardSaid : Prop := Claim7.holds Tryd.pinned (.plain (OpenSpec.upto sheetDroppedSpec)) sheetDroppedUptoCard

/-- THE SECOND FORM's CARD OF 'tithinglaw02.SheetCoders'. -/
def sheetCodersUptoCard : Claim7 := { stood := { row := sheetCodersUptoRow, standIns := [], harness := (true, "848ff9a12d0f395eb2d927cb6210c0b99462ff90fb257da722d663d696160e83"), looks := false }, kinds := [], alts := [], laidByText := true, laidKinds := [.data, .data], laidTests := true, laidLooks := .later }
def SheetCodersUptoCardSaid : Prop := Claim7.holds Tryd.pinned (.plain (OpenSpec.upto sheetCodersSpec)) sheetCodersUptoCard

/-- THE SECOND FORM's CARD OF 'tithinglaw02.SheetSolves'. -/
def sheetSolvesUptoCard : Claim7 := { stood := { row := sheetSolvesUptoRow, standIns := [], harness := (true, "848ff9a12d0f395eb2d927cb6210c0b99462ff90fb257da722d663d696160e83"), looks := false }, kinds := [], alts := [], laidByText := true, laidKinds := [.data, .data], laidTests := true, laidLooks := .later }
def SheetSolvesUptoCardSaid : Prop := Claim7.holds Tryd.pinned (.plain (OpenSpec.upto sheetSolvesSpec)) sheetSolvesUptoCard

/-- THE SECOND FORM's CARD OF 'tithinglaw02.SheetCoded'. -/
def sheetCodedUptoCard : Claim7 := { stood := { row := sheetCodedUptoRow, standIns := [], harness := (true, "848ff9a12d0f395eb2d927cb6210c0b99462ff90fb257da722d663d696160e83"), looks := false }, kinds := [], alts := [], laidByText := true, laidKinds := [.data, .data], laidTests := true, laidLooks := .later }
def SheetCodedUptoCardSaid : Prop := Claim7.holds Tryd.pinned (.plain (OpenSpec.upto sheetCodedSpec)) sheetCodedUptoCard

/-- THE SECOND FORM's CARD OF 'tithinglaw02.SheetProves'. -/
def sheetProvesUptoCard : Claim7 := { stood := { row := sheetProvesUptoRow, standIns := [], harness := (true, "848ff9a12d0f395eb2d927cb6210c0b99462ff90fb257da722d663d696160e83"), looks := false }, kinds := [], alts := [], laidByText := true, laidKinds := [.data, .data], laidTests := true, laidLooks := .later }
def SheetProvesUptoCardSaid : Prop := Claim7.holds Tryd.pinned (.plain (OpenSpec.upto sheetProvesSpec)) sheetProvesUptoCard

/-- THE SECOND FORM's CARD OF 'tithinglaw02.SheetTogether'. -/
def sheetTogetherUptoCard : Claim7 := { stood := { row := sheetTogetherUptoRow, standIns := [], harness := (true, "848ff9a12d0f395eb2d927cb6210c0b99462ff90fb257da722d663d696160e83"), looks := false }, kinds := [], alts := [], laidByText := true, laidKinds := [.data, .data], laidTests := true, laidLooks := .later }
def SheetTogetherUptoCardSaid : Prop := Claim7.holds Tryd.pinned (.plain (OpenSpec.upto sheetTogetherSpec)) sheetTogetherUptoCard

/-- THE SECOND FORM's CARD OF 'tithinglaw02.SheetEvery'. -/
def sheetEveryUptoCard : Claim7 := { stood := { row := sheetEveryUptoRow, standIns := [], harness := (true, "848ff9a12d0f395eb2d927cb6210c0b99462ff90fb257da722d663d696160e83"), looks := false }, kinds := [], alts := [], laidByText := true, laidKinds := [.data, .data], laidTests := true, laidLooks := .later }
def SheetEveryUptoCardSaid : Prop := Claim7.holds Tryd.pinned (.plain (OpenSpec.upto sheetEverySpec)) sheetEveryUptoCard

/-- THE SECOND FORM's CARD OF 'tithinglaw02.SheetFree'. -/
def sheetFreeUptoCard : Claim7 := { stood := { row := sheetFreeUptoRow, standIns := [], harness := (true, "848ff9a12d0f395eb2d927cb6210c0b99462ff90fb257da722d663d696160e83"), looks := false }, kinds := [], alts := [], laidByText := true, laidKinds := [.data, .data], laidTests := true, laidLooks := .later }
def SheetFreeUptoCardSaid : Prop := Claim7.holds Tryd.pinned (.plain (OpenSpec.upto sheetFreeSpec)) sheetFreeUptoCard

/-- THE SECOND FORM's CARD OF 'tithinglaw02.SheetShows'. -/
def sheetShowsUptoCard : Claim7 := { stood := { row := sheetShowsUptoRow, standIns := [], harness := (true, "848ff9a12d0f395eb2d927cb6210c0b99462ff90fb257da722d663d696160e83"), looks := false }, kinds := [], alts := [], laidByText := true, laidKinds := [.data, .data], laidTests := true, laidLooks := .later }
def SheetShowsUptoCardSaid : Prop := Claim7.holds Tryd.pinned (.plain (OpenSpec.upto sheetShowsSpec)) sheetShowsUptoCard

/-- THE SECOND FORM's CARD OF 'tithinglaw02.SheetEnds'. -/
def sheetEndsUptoCard : Claim7 := { stood := { row := sheetEndsUptoRow, standIns := [], harness := (true, "848ff9a12d0f395eb2d927cb6210c0b99462ff90fb257da722d663d696160e83"), looks := false }, kinds := [], alts := [], laidByText := true, laidKinds := [.data, .data], laidTests := true, laidLooks := .later }
def SheetEndsUptoCardSaid : Prop := Claim7.holds Tryd.pinned (.plain (OpenSpec.upto sheetEndsSpec)) sheetEndsUptoCard

/-- THE SECOND FORM's CARD OF 'tithinglaw02.SheetNames'. -/
def sheetNamesUptoCard : Claim7 := { stood := { row := sheetNamesUptoRow, standIns := [], harness := (true, "848ff9a12d0f395eb2d927cb6210c0b99462ff90fb257da722d663d696160e83"), looks := false }, kinds := [], alts := [], laidByText := true, laidKinds := [.data, .data], laidTests := true, laidLooks := .later }
def SheetNamesUptoCardSaid : Prop := Claim7.holds Tryd.pinned (.plain (OpenSpec.upto sheetNamesSpec)) sheetNamesUptoCard
end Rows
end Go.Proofs.YtcnkbdfkjhlbiaaDoor
