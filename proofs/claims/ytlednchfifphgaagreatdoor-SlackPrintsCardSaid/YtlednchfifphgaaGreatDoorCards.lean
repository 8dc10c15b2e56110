/-
  DERIVED. GIVEN WITH THE SEED: THE CARDS: each row of YtlednchfifphgaaGreatDoorRows.lean that lists a variable, with what it lists TIED to the program's text (the seventh form; the later family's looks); each row that meets fmt, with fmt's text TOLD by the authors' own Lean function (tested against real Go, not proved from fmt's source: count such statements apart). THE CARD IS WHAT COUNTS. Prove the row's statement (the work); the ties are given (YtlednchfifphgaaGreatDoorTie.lean); close each card by the builder's one call (the guide's Derived/Test/ToyasCard.lean, 'card_holds'). Laid BY PROGRAM, IN A SANDBOX (cutbox-door.mjs). By AI agents, Wed Nov 11 2026. No macro, syntax, notation, axiom, sorry.
-/
import Derived.Test.YtlednchfifphgaaGreatDoorRows
import GoSem.ClaimSeven
namespace Go.Proofs.YtlednchfifphgaaGreatDoor
namespace Rows

/-- THE TIED CARD OF 'tellurionlaw03.SlackOrder'. -/
def slackOrderCard : Claim7 := { stood := { row := slackOrderRow, standIns := [], harness := (true, "ce0818d0c59e3fa5e3ee8c8a0f2895fb96dd737b57a340924acb54004d6cceea"), looks := true }, kinds := [], alts := [], laidByText := true, laidKinds := [.data, .data, .data, .data, .pinned], laidTests := true, laidLooks := .later }
def SlackOrderCardSaid : Prop := Claim7.holds Tryz.pinned (.plain (OpenSpec.ofChange slackOrderSpec)) slackOrderCard

/-- THE TIED CARD OF 'tellurionlaw03.SlackParts'. -/
def slackPartsCard : Claim7 := { stood := { row := slackPartsRow, standIns := [], harness := (true, "ce0818d0c59e3fa5e3ee8c8a0f2895fb96dd737b57a340924acb54004d6cceea"), looks := true }, kinds := [], alts := [], laidByText := true, laidKinds := [.data, .data, .data, .data, .pinned], laidTests := true, laidLooks := .later }
def SlackPartsCardSaid : Prop := Claim7.holds Tryz.pinned (.plain (OpenSpec.ofChange slackPartsSpec)) slackPartsCard

/-- THE TIED CARD OF 'tellurionlaw03.SlackKnowns'. -/
def slackKnownsCard : Claim7 := { stood := { row := slackKnownsRow, standIns := [], harness := (true, "ce0818d0c59e3fa5e3ee8c8a0f2895fb96dd737b57a340924acb54004d6cceea"), looks := true }, kinds := [], alts := [], laidByText := true, laidKinds := [.data, .data, .data, .data, .pinned], laidTests := true, laidLooks := .later }
def SlackKnownsCardSaid : Prop := Claim7.holds Tryz.pinned (.plain (OpenSpec.ofChange slackKnownsSpec)) slackKnownsCard

/-- THE TIED CARD OF 'tellurionlaw03.SlackLosts'. -/
def slackLostsCard : Claim7 := { stood := { row := slackLostsRow, standIns := [], harness := (true, "ce0818d0c59e3fa5e3ee8c8a0f2895fb96dd737b57a340924acb54004d6cceea"), looks := true }, kinds := [], alts := [], laidByText := true, laidKinds := [.data, .data, .data, .data, .pinned], laidTests := true, laidLooks := .later }
def SlackLostsCardSaid : Prop := Claim7.holds Tryz.pinned (.plain (OpenSpec.ofChange slackLostsSpec)) slackLostsCard

/-- THE TIED CARD OF 'tellurionlaw03.SlackTurned'. -/
def slackTurnedCard : Claim7 := { stood := { row := slackTurnedRow, standIns := [], harness := (true, "ce0818d0c59e3fa5e3ee8c8a0f2895fb96dd737b57a340924acb54004d6cceea"), looks := true }, kinds := [], alts := [], laidByText := true, laidKinds := [.data, .data, .data, .data, .pinned], laidTests := true, laidLooks := .later }
def SlackTurnedCardSaid : Prop := Claim7.holds Tryz.pinned (.plain (OpenSpec.ofChange slackTurnedSpec)) slackTurnedCard

/-- THE TIED CARD OF 'tellurionlaw03.SlackComes'. -/
def slackComesCard : Claim7 := { stood := { row := slackComesRow, standIns := [], harness := (true, "ce0818d0c59e3fa5e3ee8c8a0f2895fb96dd737b57a340924acb54004d6cceea"), looks := true }, kinds := [], alts := [], laidByText := true, laidKinds := [.data, .data, .data, .data, .pinned], laidTests := true, laidLooks := .later }
def SlackComesCardSaid : Prop := Claim7.holds Tryz.pinned (.plain (OpenSpec.ofChange slackComesSpec)) slackComesCard

/-- THE TIED CARD OF 'tellurionlaw03.SlackReturns'. -/
def slackReturnsCard : Claim7 := { stood := { row := slackReturnsRow, standIns := [], harness := (true, "ce0818d0c59e3fa5e3ee8c8a0f2895fb96dd737b57a340924acb54004d6cceea"), looks := true }, kinds := [], alts := [], laidByText := true, laidKinds := [.data, .data, .data, .data, .pinned], laidTests := true, laidLooks := .later }
def SlackReturnsCardSaid : Prop := Claim7.holds Tryz.pinned (.plain (OpenSpec.ofChange slackReturnsSpec)) slackReturnsCard

/-- THE TIED CARD OF 'tellurionlaw03.SlackTrue'. -/
def slackTrueCard : Claim7 := { stood := { row := slackTrueRow, standIns := [], harness := (true, "ce0818d0c59e3fa5e3ee8c8a0f2895fb96dd737b57a340924acb54004d6cceea"), looks := true }, kinds := [], alts := [], laidByText := true, laidKinds := [.data, .data, .data, .data, .pinned], laidTests := true, laidLooks := .later }
def SlackTrueCardSaid : Prop := Claim7.holds Tryz.pinned (.plain (OpenSpec.ofChange slackTrueSpec)) slackTrueCard

/-- THE TIED CARD OF 'tellurionlaw03.SlackFits'. -/
def slackFitsCard : Claim7 := { stood := { row := slackFitsRow, standIns := [], harness := (true, "ce0818d0c59e3fa5e3ee8c8a0f2895fb96dd737b57a340924acb54004d6cceea"), looks := true }, kinds := [], alts := [], laidByText := true, laidKinds := [.data, .data, .data, .data, .pinned], laidTests := true, laidLooks := .later }
def SlackFitsCardSaid : Prop := Claim7.holds Tryz.pinned (.plain (OpenSpec.ofChange slackFitsSpec)) slackFitsCard

/-- THE TIED CARD OF 'tellurionlaw03.SlackMore'. -/
def slackMoreCard : Claim7 := { stood := { row := slackMoreRow, standIns := [], harness := (true, "ce0818d0c59e3fa5e3ee8c8a0f2895fb96dd737b57a340924acb54004d6cceea"), looks := true }, kinds := [], alts := [], laidByText := true, laidKinds := [.data, .data, .data, .data, .pinned], laidTests := true, laidLooks := .later }
def SlackMoreCardSaid : Prop := Claim7.holds Tryz.pinned (.plain (OpenSpec.ofChange slackMoreSpec)) slackMoreCard

/-- THE TIED CARD OF 'tellurionlaw03.SlackPrints'. -/
def slackPrintsCard : Claim7 := { stood := { row := slackPrintsRow, standIns := [], harness := (true, "ce0818d0c59e3fa5e3ee8c8a0f2895fb96dd737b57a340924acb54004d6cceea"), looks := true }, kinds := [], alts := [], laidByText := true, laidKinds := [.data, .data, .data, .data, .pinned], laidTests := true, laidLooks := .later }
def SlackPrintsCardSaid : Prop := Claim7.holds Tryz.pinned (.plain (OpenSpec.ofChange slackPrintsSpec)) slackPrintsCard

/-- THE TIED CARD OF 'tellurionlaw03.SlackReads'. -/
def slackReadsCard : Claim7 := { stood := { row := slackReadsRow, standIns := [], harness := (true, "ce0818d0c59e3fa5e3ee8c8a0f2895fb96dd737b57a340924acb54004d6cceea"), looks := true }, kinds := [], alts := [], laidByText := true, laidKinds := [.data, .data, .data, .data, .pinned], laidTests := true, laidLooks := .later }
def SlackReadsCardSaid : Prop := Claim7.holds Tryz.pinned (.plain (OpenSpec.ofChange slackReadsSpec)) slackReadsCard

/-- THE SECOND FORM's CARD OF 'tellurionlaw03.SlackOrder'. -/
def slackOrderUptoCard : Claim7 := { stood := { row := slackOrderUptoRow, standIns := [], harness := (true, "ce0818d0c59e3fa5e3ee8c8a0f2895fb96dd737b57a340924acb54004d6cceea"), looks := true }, kinds := [], alts := [], laidByText := true, laidKinds := [.data, .data, .data, .data, .pinned], laidTests := true, laidLooks := .later }
def SlackOrderUptoCardSaid : Prop := Claim7.holds Tryz.pinned (.plain (OpenSpec.upto slackOrderSpec)) slackOrderUptoCard

/-- THE SECOND FORM's CARD OF 'tellurionlaw03.SlackParts'. -/
def slackPartsUptoCard : Claim7 := { stood := { row := slackPartsUptoRow, standIns := [], harness := (true, "ce0818d0c59e3fa5e3ee8c8a0f2895fb96dd737b57a340924acb54004d6cceea"), looks := true }, kinds := [], alts := [], laidByText := true, laidKinds := [.data, .data, .data, .data, .pinned], laidTests := true, laidLooks := .later }
def SlackPartsUptoCardSaid : Prop := Claim7.holds Tryz.pinned (.plain (OpenSpec.upto slackPartsSpec)) slackPartsUptoCard

/-- THE SECOND FORM's CARD OF 'tellurionlaw03.SlackKnowns'. -/
def slackKnownsUptoCard : Claim7 := { stood := { row := slackKnownsUptoRow, standIns := [], harness := (true, "ce0818d0c59e3fa5e3ee8c8a0f2895fb96dd737b57a340924acb54004d6cceea"), looks := true }, kinds := [], alts := [], laidByText := true, laidKinds := [.data, .data, .data, .data, .pinned], laidTests := true, laidLooks := .later }
def SlackKnownsUptoCardSaid : Prop := Claim7.holds Tryz.pinned (.plain (OpenSpec.upto slackKnownsSpec)) slackKnownsUptoCard

/-- THE SECOND FORM's CARD OF 'tellurionlaw03.SlackLosts'. -/
def slackLostsUptoCard : Claim7 := { stood := { row := slackLostsUptoRow, standIns := [], harness := (true, "ce0818d0c59e3fa5e3ee8c8a0f2895fb96dd737b57a340924acb54004d6cceea"), looks := true }, kinds := [], alts := [], laidByText := true, laidKinds := [.data, .data, .data, .data, .pinned], laidTests := true, laidLooks := .later }
def SlackLostsUptoCardSaid : Prop := Claim7.holds Tryz.pinned (.plain (OpenSpec.upto slackLostsSpec)) slackLostsUptoCard

/-- THE SECOND FORM's CARD OF 'tellurionlaw03.SlackTurned'. -/
def slackTurnedUptoCard : Claim7 := { stood := { row := slackTurnedUptoRow, standIns := [], harness := (true, "ce0818d0c59e3fa5e3ee8c8a0f2895fb96dd737b57a340924acb54004d6cceea"), looks := true }, kinds := [], alts := [], laidByText := true, laidKinds := [.data, .data, .data, .data, .pinned], laidTests := true, laidLooks := .later }
def SlackTurnedUptoCardSaid : Prop := Claim7.holds Tryz.pinned (.plain (OpenSpec.upto slackTurnedSpec)) slackTurnedUptoCard

/-- THE SECOND FORM's CARD OF 'tellurionlaw03.SlackComes'. -/
def slackComesUptoCard : Claim7 := { stood := { row := slackComesUptoRow, standIns := [], harness := (true, "ce0818d0c59e3fa5e3ee8c8a0f2895fb96dd737b57a340924acb54004d6cceea"), looks := true }, kinds := [], alts := [], laidByText := true, laidKinds := [.data, .data, .data, .data, .pinned], laidTests := true, laidLooks := .later }
def SlackComesUptoCardSaid : Prop := Claim7.holds Tryz.pinned (.plain (OpenSpec.upto slackComesSpec)) slackComesUptoCard

/-- THE SECOND FORM's CARD OF 'tellurionlaw03.SlackReturns'. -/
def slackReturnsUptoCard : Claim7 := { stood := { row := slackReturnsUptoRow, standIns := [], harness := (true, "ce0818d0c59e3fa5e3ee8c8a0f2895fb96dd737b57a340924acb54004d6cceea"), looks := true }, kinds := [], alts := [], laidByText := true, laidKinds := [.data, .data, .data, .data, .pinned], laidTests := true, laidLooks := .later }
def SlackReturnsUptoCardSaid : Prop := Claim7.holds Tryz.pinned (.plain (OpenSpec.upto slackReturnsSpec)) slackReturnsUptoCard

/-- THE SECOND FORM's CARD OF 'tellurionlaw03.SlackTrue'. -/
def slackTrueUptoCard : Claim7 := { stood := { row := slackTrueUptoRow, standIns := [], harness := (true, "ce0818d0c59e3fa5e3ee8c8a0f2895fb96dd737b57a340924acb54004d6cceea"), looks := true }, kinds := [], alts := [], laidByText := true, laidKinds := [.data, .data, .data, .data, .pinned], laidTests := true, laidLooks := .later }
def SlackTrueUptoCardSaid : Prop := Claim7.holds Tryz.pinned (.plain (OpenSpec.upto slackTrueSpec)) slackTrueUptoCard

/-- THE SECOND FORM's CARD OF 'tellurionlaw03.SlackFits'. -/
def slackFitsUptoCard : Claim7 := { stood := { row := slackFitsUptoRow, standIns := [], harness := (true, "ce0818d0c59e3fa5e3ee8c8a0f2895fb96dd737b57a340924acb54004d6cceea"), looks := true }, kinds := [], alts := [], laidByText := true, laidKinds := [.data, .data, .data, .data, .pinned], laidTests := true, laidLooks := .later }
def SlackFitsUptoCardSaid : Prop := Claim7.holds Tryz.pinned (.plain (OpenSpec.upto slackFitsSpec)) slackFitsUptoCard

/-- THE SECOND FORM's CARD OF 'tellurionlaw03.SlackMore'. -/
def slackMoreUptoCard : Claim7 := { stood := { row := slackMoreUptoRow, standIns := [], harness := (true, "ce0818d0c59e3fa5e3ee8c8a0f2895fb96dd737b57a340924acb54004d6cceea"), looks := true }, kinds := [], alts := [], laidByText := true, laidKinds := [.data, .data, .data, .data, .pinned], laidTests := true, laidLooks := .later }
def SlackMoreUptoCardSaid : Prop := Claim7.holds Tryz.pinned (.plain (OpenSpec.upto slackMoreSpec)) slackMoreUptoCard

/-- THE SECOND FORM's CARD OF 'tellurionlaw03.SlackPrints'. -/
def slackPrintsUptoCard : Claim7 := { stood := { row := slackPrintsUptoRow, standIns := [], harness := (true, "ce0818d0c59e3fa5e3ee8c8a0f2895fb96dd737b57a340924acb54004d6cceea"), looks := true }, kinds := [], alts := [], laidByText := true, laidKinds := [.data, .data, .data, .data, .pinned], laidTests := true, laidLooks := .later }
def SlackPrintsUptoCardSaid : Prop := Claim7.holds Tryz.pinned (.plain (OpenSpec.upto slackPrintsSpec)) slackPrintsUptoCard

/-- THE SECOND FORM's CARD OF 'tellurionlaw03.SlackReads'. -/
def slackReadsUptoCard : Claim7 := { stood := { row := slackReadsUptoRow, standIns := [], harness := (true, "ce0818d0c59e3fa5e3ee8c8a0f2895fb96dd737b57a340924acb54004d6cceea"), looks := true }, kinds := [], alts := [], laidByText := true, laidKinds := [.data, .data, .data, .data, .pinned], laidTests := true, laidLooks := .later }
def SlackReadsUptoCardSaid : Prop := Claim7.holds Tryz.pinned (.plain (OpenSpec.upto slackReadsSpec)) slackReadsUptoCard
end Rows
end Go.Proofs.YtlednchfifphgaaGreatDoor
