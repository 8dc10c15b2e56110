/-
  DERIVED. GIVEN WITH THE SEED: THE CARDS: each row of YtlednchfifphgabGreatDoorRows.lean that lists a variable, with what it lists TIED to the program's text (the seventh form; the later family's looks); each row that meets fmt, with fmt's text TOLD by the authors' own Lean function (tested against real Go, not proved from fmt's source: count such statements apart). THE CARD IS WHAT COUNTS. Prove the row's statement (the work); the ties are given (YtlednchfifphgabGreatDoorTie.lean); close each card by the builder's one call (the guide's Derived/Test/ToyasCard.lean, 'card_holds'). Laid BY PROGRAM, IN A SANDBOX (cutbox-door.mjs). By AI agents, Wed Nov 11 2026. No macro, syntax, notation, axiom, sorry.
-/
import Derived.Test.YtlednchfifphgabGreatDoorRows
import GoSem.ClaimSeven
namespace Go.Proofs.YtlednchfifphgabGreatDoor
namespace Rows

/-- THE TIED CARD OF 'tellurionlaw03.SlackShows'. -/
def slackShowsCard : Claim7 := { stood := { row := slackShowsRow, standIns := [], harness := (true, "be822bbd39a17464ee6526ca2e9d32d2a3a9815fece3866167cb0f3f46fef96e"), looks := true }, kinds := [], alts := [], laidByText := true, laidKinds := [.data, .data, .data, .data, .pinned], laidTests := true, laidLooks := .later }
def SlackShowsCardSaid : Prop := Claim7.holds Tryz.pinned (.plain (OpenSpec.ofChange slackShowsSpec)) slackShowsCard

/-- THE TIED CARD OF 'tellurionlaw03.SlackHands'. -/
def slackHandsCard : Claim7 := { stood := { row := slackHandsRow, standIns := [], harness := (true, "be822bbd39a17464ee6526ca2e9d32d2a3a9815fece3866167cb0f3f46fef96e"), looks := true }, kinds := [], alts := [], laidByText := true, laidKinds := [.data, .data, .data, .data, .pinned], laidTests := true, laidLooks := .later }
def SlackHandsCardSaid : Prop := Claim7.holds Tryz.pinned (.plain (OpenSpec.ofChange slackHandsSpec)) slackHandsCard

/-- THE TIED CARD OF 'tellurionlaw03.SlackAparts'. -/
def slackApartsCard : Claim7 := { stood := { row := slackApartsRow, standIns := [], harness := (true, "be822bbd39a17464ee6526ca2e9d32d2a3a9815fece3866167cb0f3f46fef96e"), looks := true }, kinds := [], alts := [], laidByText := true, laidKinds := [.data, .data, .data, .data, .pinned], laidTests := true, laidLooks := .later }
def SlackApartsCardSaid : Prop := Claim7.holds Tryz.pinned (.plain (OpenSpec.ofChange slackApartsSpec)) slackApartsCard

/-- THE TIED CARD OF 'tellurionlaw03.SlackDiffer'. -/
def slackDifferCard : Claim7 := { stood := { row := slackDifferRow, standIns := [], harness := (true, "be822bbd39a17464ee6526ca2e9d32d2a3a9815fece3866167cb0f3f46fef96e"), looks := true }, kinds := [], alts := [], laidByText := true, laidKinds := [.data, .data, .data, .data, .pinned], laidTests := true, laidLooks := .later }
def SlackDifferCardSaid : Prop := Claim7.holds Tryz.pinned (.plain (OpenSpec.ofChange slackDifferSpec)) slackDifferCard

/-- THE TIED CARD OF 'tellurionlaw03.SlackAims'. -/
def slackAimsCard : Claim7 := { stood := { row := slackAimsRow, standIns := [], harness := (true, "be822bbd39a17464ee6526ca2e9d32d2a3a9815fece3866167cb0f3f46fef96e"), looks := true }, kinds := [], alts := [], laidByText := true, laidKinds := [.data, .data, .data, .data, .pinned], laidTests := true, laidLooks := .later }
def SlackAimsCardSaid : Prop := Claim7.holds Tryz.pinned (.plain (OpenSpec.ofChange slackAimsSpec)) slackAimsCard

/-- THE TIED CARD OF 'tellurionlaw03.SlackAimed'. -/
def slackAimedCard : Claim7 := { stood := { row := slackAimedRow, standIns := [], harness := (true, "be822bbd39a17464ee6526ca2e9d32d2a3a9815fece3866167cb0f3f46fef96e"), looks := true }, kinds := [], alts := [], laidByText := true, laidKinds := [.data, .data, .data, .data, .pinned], laidTests := true, laidLooks := .later }
def SlackAimedCardSaid : Prop := Claim7.holds Tryz.pinned (.plain (OpenSpec.ofChange slackAimedSpec)) slackAimedCard

/-- THE TIED CARD OF 'tellurionlaw03.SlackRenews'. -/
def slackRenewsCard : Claim7 := { stood := { row := slackRenewsRow, standIns := [], harness := (true, "be822bbd39a17464ee6526ca2e9d32d2a3a9815fece3866167cb0f3f46fef96e"), looks := true }, kinds := [], alts := [], laidByText := true, laidKinds := [.data, .data, .data, .data, .pinned], laidTests := true, laidLooks := .later }
def SlackRenewsCardSaid : Prop := Claim7.holds Tryz.pinned (.plain (OpenSpec.ofChange slackRenewsSpec)) slackRenewsCard

/-- THE TIED CARD OF 'tellurionlaw03.SlackCheaper'. -/
def slackCheaperCard : Claim7 := { stood := { row := slackCheaperRow, standIns := [], harness := (true, "be822bbd39a17464ee6526ca2e9d32d2a3a9815fece3866167cb0f3f46fef96e"), looks := true }, kinds := [], alts := [], laidByText := true, laidKinds := [.data, .data, .data, .data, .pinned], laidTests := true, laidLooks := .later }
def SlackCheaperCardSaid : Prop := Claim7.holds Tryz.pinned (.plain (OpenSpec.ofChange slackCheaperSpec)) slackCheaperCard

/-- THE TIED CARD OF 'tellurionlaw03.SlackLooks'. -/
def slackLooksCard : Claim7 := { stood := { row := slackLooksRow, standIns := [], harness := (true, "be822bbd39a17464ee6526ca2e9d32d2a3a9815fece3866167cb0f3f46fef96e"), looks := true }, kinds := [], alts := [], laidByText := true, laidKinds := [.data, .data, .data, .data, .pinned], laidTests := true, laidLooks := .later }
def SlackLooksCardSaid : Prop := Claim7.holds Tryz.pinned (.plain (OpenSpec.ofChange slackLooksSpec)) slackLooksCard

/-- THE TIED CARD OF 'tellurionlaw03.SlackLeft'. -/
def slackLeftCard : Claim7 := { stood := { row := slackLeftRow, standIns := [], harness := (true, "be822bbd39a17464ee6526ca2e9d32d2a3a9815fece3866167cb0f3f46fef96e"), looks := true }, kinds := [], alts := [], laidByText := true, laidKinds := [.data, .data, .data, .data, .pinned], laidTests := true, laidLooks := .later }
def SlackLeftCardSaid : Prop := Claim7.holds Tryz.pinned (.plain (OpenSpec.ofChange slackLeftSpec)) slackLeftCard

/-- THE TIED CARD OF 'tellurionlaw03.SlackSpoilt'. -/
def slackSpoiltCard : Claim7 := { stood := { row := slackSpoiltRow, standIns := [], harness := (true, "be822bbd39a17464ee6526ca2e9d32d2a3a9815fece3866167cb0f3f46fef96e"), looks := true }, kinds := [], alts := [], laidByText := true, laidKinds := [.data, .data, .data, .data, .pinned], laidTests := true, laidLooks := .later }
def SlackSpoiltCardSaid : Prop := Claim7.holds Tryz.pinned (.plain (OpenSpec.ofChange slackSpoiltSpec)) slackSpoiltCard

/-- THE SECOND FORM's CARD OF 'tellurionlaw03.SlackShows'. -/
def slackShowsUptoCard : Claim7 := { stood := { row := slackShowsUptoRow, standIns := [], harness := (true, "be822bbd39a17464ee6526ca2e9d32d2a3a9815fece3866167cb0f3f46fef96e"), looks := true }, kinds := [], alts := [], laidByText := true, laidKinds := [.data, .data, .data, .data, .pinned], laidTests := true, laidLooks := .later }
def SlackShowsUptoCardSaid : Prop := Claim7.holds Tryz.pinned (.plain (OpenSpec.upto slackShowsSpec)) slackShowsUptoCard

/-- THE SECOND FORM's CARD OF 'tellurionlaw03.SlackHands'. -/
def slackHandsUptoCard : Claim7 := { stood := { row := slackHandsUptoRow, standIns := [], harness := (true, "be822bbd39a17464ee6526ca2e9d32d2a3a9815fece3866167cb0f3f46fef96e"), looks := true }, kinds := [], alts := [], laidByText := true, laidKinds := [.data, .data, .data, .data, .pinned], laidTests := true, laidLooks := .later }
def SlackHandsUptoCardSaid : Prop := Claim7.holds Tryz.pinned (.plain (OpenSpec.upto slackHandsSpec)) slackHandsUptoCard

/-- THE SECOND FORM's CARD OF 'tellurionlaw03.SlackAparts'. -/
def slackApartsUptoCard : Claim7 := { stood := { row := slackApartsUptoRow, standIns := [], harness := (true, "be822bbd39a17464ee6526ca2e9d32d2a3a9815fece3866167cb0f3f46fef96e"), looks := true }, kinds := [], alts := [], laidByText := true, laidKinds := [.data, .data, .data, .data, .pinned], laidTests := true, laidLooks := .later }
def SlackApartsUptoCardSaid : Prop := Claim7.holds Tryz.pinned (.plain (OpenSpec.upto slackApartsSpec)) slackApartsUptoCard

/-- THE SECOND FORM's CARD OF 'tellurionlaw03.SlackDiffer'. -/
def slackDifferUptoCard : Claim7 := { stood := { row := slackDifferUptoRow, standIns := [], harness := (true, "be822bbd39a17464ee6526ca2e9d32d2a3a9815fece3866167cb0f3f46fef96e"), looks := true }, kinds := [], alts := [], laidByText := true, laidKinds := [.data, .data, .data, .data, .pinned], laidTests := true, laidLooks := .later }
def SlackDifferUptoCardSaid : Prop := Claim7.holds Tryz.pinned (.plain (OpenSpec.upto slackDifferSpec)) slackDifferUptoCard

/-- THE SECOND FORM's CARD OF 'tellurionlaw03.SlackAims'. -/
def slackAimsUptoCard : Claim7 := { stood := { row := slackAimsUptoRow, standIns := [], harness := (true, "be822bbd39a17464ee6526ca2e9d32d2a3a9815fece3866167cb0f3f46fef96e"), looks := true }, kinds := [], alts := [], laidByText := true, laidKinds := [.data, .data, .data, .data, .pinned], laidTests := true, laidLooks := .later }
def SlackAimsUptoCardSaid : Prop := Claim7.holds Tryz.pinned (.plain (OpenSpec.upto slackAimsSpec)) slackAimsUptoCard

/-- THE SECOND FORM's CARD OF 'tellurionlaw03.SlackAimed'. -/
def slackAimedUptoCard : Claim7 := { stood := { row := slackAimedUptoRow, standIns := [], harness := (true, "be822bbd39a17464ee6526ca2e9d32d2a3a9815fece3866167cb0f3f46fef96e"), looks := true }, kinds := [], alts := [], laidByText := true, laidKinds := [.data, .data, .data, .data, .pinned], laidTests := true, laidLooks := .later }
def SlackAimedUptoCardSaid : Prop := Claim7.holds Tryz.pinned (.plain (OpenSpec.upto slackAimedSpec)) slackAimedUptoCard

/-- THE SECOND FORM's CARD OF 'tellurionlaw03.SlackRenews'. -/
def slackRenewsUptoCard : Claim7 := { stood := { row := slackRenewsUptoRow, standIns := [], harness := (true, "be822bbd39a17464ee6526ca2e9d32d2a3a9815fece3866167cb0f3f46fef96e"), looks := true }, kinds := [], alts := [], laidByText := true, laidKinds := [.data, .data, .data, .data, .pinned], laidTests := true, laidLooks := .later }
def SlackRenewsUptoCardSaid : Prop := Claim7.holds Tryz.pinned (.plain (OpenSpec.upto slackRenewsSpec)) slackRenewsUptoCard

/-- THE SECOND FORM's CARD OF 'tellurionlaw03.SlackCheaper'. -/
def slackCheaperUptoCard : Claim7 := { stood := { row := slackCheaperUptoRow, standIns := [], harness := (true, "be822bbd39a17464ee6526ca2e9d32d2a3a9815fece3866167cb0f3f46fef96e"), looks := true }, kinds := [], alts := [], laidByText := true, laidKinds := [.data, .data, .data, .data, .pinned], laidTests := true, laidLooks := .later }
def SlackCheaperUptoCardSaid : Prop := Claim7.holds Tryz.pinned (.plain (OpenSpec.upto slackCheaperSpec)) slackCheaperUptoCard

/-- THE SECOND FORM's CARD OF 'tellurionlaw03.SlackLooks'. -/
def slackLooksUptoCard : Claim7 := { stood := { row := slackLooksUptoRow, standIns := [], harness := (true, "be822bbd39a17464ee6526ca2e9d32d2a3a9815fece3866167cb0f3f46fef96e"), looks := true }, kinds := [], alts := [], laidByText := true, laidKinds := [.data, .data, .data, .data, .pinned], laidTests := true, laidLooks := .later }
def SlackLooksUptoCardSaid : Prop := Claim7.holds Tryz.pinned (.plain (OpenSpec.upto slackLooksSpec)) slackLooksUptoCard

/-- THE SECOND FORM's CARD OF 'tellurionlaw03.SlackLeft'. -/
def slackLeftUptoCard : Claim7 := { stood := { row := slackLeftUptoRow, standIns := [], harness := (true, "be822bbd39a17464ee6526ca2e9d32d2a3a9815fece3866167cb0f3f46fef96e"), looks := true }, kinds := [], alts := [], laidByText := true, laidKinds := [.data, .data, .data, .data, .pinned], laidTests := true, laidLooks := .later }
def SlackLeftUptoCardSaid : Prop := Claim7.holds Tryz.pinned (.plain (OpenSpec.upto slackLeftSpec)) slackLeftUptoCard

/-- THE SECOND FORM's CARD OF 'tellurionlaw03.SlackSpoilt'. -/
def slackSpoiltUptoCard : Claim7 := { stood := { row := slackSpoiltUptoRow, standIns := [], harness := (true, "be822bbd39a17464ee6526ca2e9d32d2a3a9815fece3866167cb0f3f46fef96e"), looks := true }, kinds := [], alts := [], laidByText := true, laidKinds := [.data, .data, .data, .data, .pinned], laidTests := true, laidLooks := .later }
def SlackSpoiltUptoCardSaid : Prop := Claim7.holds Tryz.pinned (.plain (OpenSpec.upto slackSpoiltSpec)) slackSpoiltUptoCard
end Rows
end Go.Proofs.YtlednchfifphgabGreatDoor
