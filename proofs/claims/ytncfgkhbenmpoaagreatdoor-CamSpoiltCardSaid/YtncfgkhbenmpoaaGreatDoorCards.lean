/-
  DERIVED. GIVEN WITH THE SEED: THE CARDS: each row of YtncfgkhbenmpoaaGreatDoorRows.lean that lists a variable, with what it lists TIED to the program's text (the seventh form; the later family's looks); each row that meets fmt, with fmt's text TOLD by the authors' own Lean function (tested against real Go, not proved from fmt's source: count such statements apart). THE CARD IS WHAT COUNTS. Prove the row's statement (the work); the ties are given (YtncfgkhbenmpoaaGreatDoorTie.lean); close each card by the builder's one call (the guide's Derived/Test/ToyasCard.lean, 'card_holds'). Laid BY PROGRAM, IN A SANDBOX (cutbox-door.mjs). By AI agents, Wed Nov 11 2026. No macro, syntax, notation, axiom, sorry.
-/
import Derived.Test.YtncfgkhbenmpoaaGreatDoorRows
import GoSem.ClaimSeven
namespace Go.Proofs.YtncfgkhbenmpoaaGreatDoor
namespace Rows

/-- THE TIED CARD OF 'tellurionlaw04.CamNearests'. -/
def camNearestsCard : Claim7 := { stood := { row := camNearestsRow, standIns := [], harness := (true, "985ec80ef9f166c509f88728729dbb443cbd59a290a76d8409e815b6bbda0ad3"), looks := true }, kinds := [], alts := [], laidByText := true, laidKinds := [.data, .data, .data], laidTests := true, laidLooks := .later }
def CamNearestsCardSaid : Prop := Claim7.holds Tryz.pinned (.plain (OpenSpec.ofChange camNearestsSpec)) camNearestsCard

/-- THE TIED CARD OF 'tellurionlaw04.CamKnowns'. -/
def camKnownsCard : Claim7 := { stood := { row := camKnownsRow, standIns := [], harness := (true, "985ec80ef9f166c509f88728729dbb443cbd59a290a76d8409e815b6bbda0ad3"), looks := true }, kinds := [], alts := [], laidByText := true, laidKinds := [.data, .data, .data], laidTests := true, laidLooks := .later }
def CamKnownsCardSaid : Prop := Claim7.holds Tryz.pinned (.plain (OpenSpec.ofChange camKnownsSpec)) camKnownsCard

/-- THE TIED CARD OF 'tellurionlaw04.CamTrue'. -/
def camTrueCard : Claim7 := { stood := { row := camTrueRow, standIns := [], harness := (true, "985ec80ef9f166c509f88728729dbb443cbd59a290a76d8409e815b6bbda0ad3"), looks := true }, kinds := [], alts := [], laidByText := true, laidKinds := [.data, .data, .data], laidTests := true, laidLooks := .later }
def CamTrueCardSaid : Prop := Claim7.holds Tryz.pinned (.plain (OpenSpec.ofChange camTrueSpec)) camTrueCard

/-- THE TIED CARD OF 'tellurionlaw04.CamEnds'. -/
def camEndsCard : Claim7 := { stood := { row := camEndsRow, standIns := [], harness := (true, "985ec80ef9f166c509f88728729dbb443cbd59a290a76d8409e815b6bbda0ad3"), looks := true }, kinds := [], alts := [], laidByText := true, laidKinds := [.data, .data, .data], laidTests := true, laidLooks := .later }
def CamEndsCardSaid : Prop := Claim7.holds Tryz.pinned (.plain (OpenSpec.ofChange camEndsSpec)) camEndsCard

/-- THE TIED CARD OF 'tellurionlaw04.CamFollows'. -/
def camFollowsCard : Claim7 := { stood := { row := camFollowsRow, standIns := [], harness := (true, "985ec80ef9f166c509f88728729dbb443cbd59a290a76d8409e815b6bbda0ad3"), looks := true }, kinds := [], alts := [], laidByText := true, laidKinds := [.data, .data, .data], laidTests := true, laidLooks := .later }
def CamFollowsCardSaid : Prop := Claim7.holds Tryz.pinned (.plain (OpenSpec.ofChange camFollowsSpec)) camFollowsCard

/-- THE TIED CARD OF 'tellurionlaw04.CamFoot'. -/
def camFootCard : Claim7 := { stood := { row := camFootRow, standIns := [], harness := (true, "985ec80ef9f166c509f88728729dbb443cbd59a290a76d8409e815b6bbda0ad3"), looks := true }, kinds := [], alts := [], laidByText := true, laidKinds := [.data, .data, .data], laidTests := true, laidLooks := .later }
def CamFootCardSaid : Prop := Claim7.holds Tryz.pinned (.plain (OpenSpec.ofChange camFootSpec)) camFootCard

/-- THE TIED CARD OF 'tellurionlaw04.CamStations'. -/
def camStationsCard : Claim7 := { stood := { row := camStationsRow, standIns := [], harness := (true, "985ec80ef9f166c509f88728729dbb443cbd59a290a76d8409e815b6bbda0ad3"), looks := true }, kinds := [], alts := [], laidByText := true, laidKinds := [.data, .data, .data], laidTests := true, laidLooks := .later }
def CamStationsCardSaid : Prop := Claim7.holds Tryz.pinned (.plain (OpenSpec.ofChange camStationsSpec)) camStationsCard

/-- THE TIED CARD OF 'tellurionlaw04.CamRetreats'. -/
def camRetreatsCard : Claim7 := { stood := { row := camRetreatsRow, standIns := [], harness := (true, "985ec80ef9f166c509f88728729dbb443cbd59a290a76d8409e815b6bbda0ad3"), looks := true }, kinds := [], alts := [], laidByText := true, laidKinds := [.data, .data, .data], laidTests := true, laidLooks := .later }
def CamRetreatsCardSaid : Prop := Claim7.holds Tryz.pinned (.plain (OpenSpec.ofChange camRetreatsSpec)) camRetreatsCard

/-- THE TIED CARD OF 'tellurionlaw04.CamMore'. -/
def camMoreCard : Claim7 := { stood := { row := camMoreRow, standIns := [], harness := (true, "985ec80ef9f166c509f88728729dbb443cbd59a290a76d8409e815b6bbda0ad3"), looks := true }, kinds := [], alts := [], laidByText := true, laidKinds := [.data, .data, .data], laidTests := true, laidLooks := .later }
def CamMoreCardSaid : Prop := Claim7.holds Tryz.pinned (.plain (OpenSpec.ofChange camMoreSpec)) camMoreCard

/-- THE TIED CARD OF 'tellurionlaw04.CamPlaces'. -/
def camPlacesCard : Claim7 := { stood := { row := camPlacesRow, standIns := [], harness := (true, "985ec80ef9f166c509f88728729dbb443cbd59a290a76d8409e815b6bbda0ad3"), looks := true }, kinds := [], alts := [], laidByText := true, laidKinds := [.data, .data, .data], laidTests := true, laidLooks := .later }
def CamPlacesCardSaid : Prop := Claim7.holds Tryz.pinned (.plain (OpenSpec.ofChange camPlacesSpec)) camPlacesCard

/-- THE TIED CARD OF 'tellurionlaw04.CamTurns'. -/
def camTurnsCard : Claim7 := { stood := { row := camTurnsRow, standIns := [], harness := (true, "985ec80ef9f166c509f88728729dbb443cbd59a290a76d8409e815b6bbda0ad3"), looks := true }, kinds := [], alts := [], laidByText := true, laidKinds := [.data, .data, .data], laidTests := true, laidLooks := .later }
def CamTurnsCardSaid : Prop := Claim7.holds Tryz.pinned (.plain (OpenSpec.ofChange camTurnsSpec)) camTurnsCard

/-- THE TIED CARD OF 'tellurionlaw04.CamStood'. -/
def camStoodCard : Claim7 := { stood := { row := camStoodRow, standIns := [], harness := (true, "985ec80ef9f166c509f88728729dbb443cbd59a290a76d8409e815b6bbda0ad3"), looks := true }, kinds := [], alts := [], laidByText := true, laidKinds := [.data, .data, .data], laidTests := true, laidLooks := .later }
def CamStoodCardSaid : Prop := Claim7.holds Tryz.pinned (.plain (OpenSpec.ofChange camStoodSpec)) camStoodCard

/-- THE TIED CARD OF 'tellurionlaw04.CamBack'. -/
def camBackCard : Claim7 := { stood := { row := camBackRow, standIns := [], harness := (true, "985ec80ef9f166c509f88728729dbb443cbd59a290a76d8409e815b6bbda0ad3"), looks := true }, kinds := [], alts := [], laidByText := true, laidKinds := [.data, .data, .data], laidTests := true, laidLooks := .later }
def CamBackCardSaid : Prop := Claim7.holds Tryz.pinned (.plain (OpenSpec.ofChange camBackSpec)) camBackCard

/-- THE TIED CARD OF 'tellurionlaw04.CamCarved'. -/
def camCarvedCard : Claim7 := { stood := { row := camCarvedRow, standIns := [], harness := (true, "985ec80ef9f166c509f88728729dbb443cbd59a290a76d8409e815b6bbda0ad3"), looks := true }, kinds := [], alts := [], laidByText := true, laidKinds := [.data, .data, .data], laidTests := true, laidLooks := .later }
def CamCarvedCardSaid : Prop := Claim7.holds Tryz.pinned (.plain (OpenSpec.ofChange camCarvedSpec)) camCarvedCard

/-- THE TIED CARD OF 'tellurionlaw04.CamShifts'. -/
def camShiftsCard : Claim7 := { stood := { row := camShiftsRow, standIns := [], harness := (true, "985ec80ef9f166c509f88728729dbb443cbd59a290a76d8409e815b6bbda0ad3"), looks := true }, kinds := [], alts := [], laidByText := true, laidKinds := [.data, .data, .data], laidTests := true, laidLooks := .later }
def CamShiftsCardSaid : Prop := Claim7.holds Tryz.pinned (.plain (OpenSpec.ofChange camShiftsSpec)) camShiftsCard

/-- THE TIED CARD OF 'tellurionlaw04.CamShifted'. -/
def camShiftedCard : Claim7 := { stood := { row := camShiftedRow, standIns := [], harness := (true, "985ec80ef9f166c509f88728729dbb443cbd59a290a76d8409e815b6bbda0ad3"), looks := true }, kinds := [], alts := [], laidByText := true, laidKinds := [.data, .data, .data], laidTests := true, laidLooks := .later }
def CamShiftedCardSaid : Prop := Claim7.holds Tryz.pinned (.plain (OpenSpec.ofChange camShiftedSpec)) camShiftedCard

/-- THE TIED CARD OF 'tellurionlaw04.CamRivals'. -/
def camRivalsCard : Claim7 := { stood := { row := camRivalsRow, standIns := [], harness := (true, "985ec80ef9f166c509f88728729dbb443cbd59a290a76d8409e815b6bbda0ad3"), looks := true }, kinds := [], alts := [], laidByText := true, laidKinds := [.data, .data, .data], laidTests := true, laidLooks := .later }
def CamRivalsCardSaid : Prop := Claim7.holds Tryz.pinned (.plain (OpenSpec.ofChange camRivalsSpec)) camRivalsCard

/-- THE TIED CARD OF 'tellurionlaw04.CamFitted'. -/
def camFittedCard : Claim7 := { stood := { row := camFittedRow, standIns := [], harness := (true, "985ec80ef9f166c509f88728729dbb443cbd59a290a76d8409e815b6bbda0ad3"), looks := true }, kinds := [], alts := [], laidByText := true, laidKinds := [.data, .data, .data], laidTests := true, laidLooks := .later }
def CamFittedCardSaid : Prop := Claim7.holds Tryz.pinned (.plain (OpenSpec.ofChange camFittedSpec)) camFittedCard

/-- THE TIED CARD OF 'tellurionlaw04.CamPrints'. -/
def camPrintsCard : Claim7 := { stood := { row := camPrintsRow, standIns := [], harness := (true, "985ec80ef9f166c509f88728729dbb443cbd59a290a76d8409e815b6bbda0ad3"), looks := true }, kinds := [], alts := [], laidByText := true, laidKinds := [.data, .data, .data, .data, .pinned], laidTests := true, laidLooks := .later }
def CamPrintsCardSaid : Prop := Claim7.holds Tryz.pinned (.plain (OpenSpec.ofChange camPrintsSpec)) camPrintsCard

/-- THE TIED CARD OF 'tellurionlaw04.CamReads'. -/
def camReadsCard : Claim7 := { stood := { row := camReadsRow, standIns := [], harness := (true, "985ec80ef9f166c509f88728729dbb443cbd59a290a76d8409e815b6bbda0ad3"), looks := true }, kinds := [], alts := [], laidByText := true, laidKinds := [.data, .data, .data, .data, .pinned], laidTests := true, laidLooks := .later }
def CamReadsCardSaid : Prop := Claim7.holds Tryz.pinned (.plain (OpenSpec.ofChange camReadsSpec)) camReadsCard

/-- THE TIED CARD OF 'tellurionlaw04.CamSpoilt'. -/
def camSpoiltCard : Claim7 := { stood := { row := camSpoiltRow, standIns := [], harness := (true, "985ec80ef9f166c509f88728729dbb443cbd59a290a76d8409e815b6bbda0ad3"), looks := true }, kinds := [], alts := [], laidByText := true, laidKinds := [.data, .data, .data, .data, .pinned], laidTests := true, laidLooks := .later }
def CamSpoiltCardSaid : Prop := Claim7.holds Tryz.pinned (.plain (OpenSpec.ofChange camSpoiltSpec)) camSpoiltCard

/-- THE SECOND FORM's CARD OF 'tellurionlaw04.CamNearests'. -/
def camNearestsUptoCard : Claim7 := { stood := { row := camNearestsUptoRow, standIns := [], harness := (true, "985ec80ef9f166c509f88728729dbb443cbd59a290a76d8409e815b6bbda0ad3"), looks := true }, kinds := [], alts := [], laidByText := true, laidKinds := [.data, .data, .data], laidTests := true, laidLooks := .later }
def CamNearestsUptoCardSaid : Prop := Claim7.holds Tryz.pinned (.plain (OpenSpec.upto camNearestsSpec)) camNearestsUptoCard

/-- THE SECOND FORM's CARD OF 'tellurionlaw04.CamKnowns'. -/
def camKnownsUptoCard : Claim7 := { stood := { row := camKnownsUptoRow, standIns := [], harness := (true, "985ec80ef9f166c509f88728729dbb443cbd59a290a76d8409e815b6bbda0ad3"), looks := true }, kinds := [], alts := [], laidByText := true, laidKinds := [.data, .data, .data], laidTests := true, laidLooks := .later }
def CamKnownsUptoCardSaid : Prop := Claim7.holds Tryz.pinned (.plain (OpenSpec.upto camKnownsSpec)) camKnownsUptoCard

/-- THE SECOND FORM's CARD OF 'tellurionlaw04.CamTrue'. -/
def camTrueUptoCard : Claim7 := { stood := { row := camTrueUptoRow, standIns := [], harness := (true, "985ec80ef9f166c509f88728729dbb443cbd59a290a76d8409e815b6bbda0ad3"), looks := true }, kinds := [], alts := [], laidByText := true, laidKinds := [.data, .data, .data], laidTests := true, laidLooks := .later }
def CamTrueUptoCardSaid : Prop := Claim7.holds Tryz.pinned (.plain (OpenSpec.upto camTrueSpec)) camTrueUptoCard

/-- THE SECOND FORM's CARD OF 'tellurionlaw04.CamEnds'. -/
def camEndsUptoCard : Claim7 := { stood := { row := camEndsUptoRow, standIns := [], harness := (true, "985ec80ef9f166c509f88728729dbb443cbd59a290a76d8409e815b6bbda0ad3"), looks := true }, kinds := [], alts := [], laidByText := true, laidKinds := [.data, .data, .data], laidTests := true, laidLooks := .later }
def CamEndsUptoCardSaid : Prop := Claim7.holds Tryz.pinned (.plain (OpenSpec.upto camEndsSpec)) camEndsUptoCard

/-- THE SECOND FORM's CARD OF 'tellurionlaw04.CamFollows'. -/
def camFollowsUptoCard : Claim7 := { stood := { row := camFollowsUptoRow, standIns := [], harness := (true, "985ec80ef9f166c509f88728729dbb443cbd59a290a76d8409e815b6bbda0ad3"), looks := true }, kinds := [], alts := [], laidByText := true, laidKinds := [.data, .data, .data], laidTests := true, laidLooks := .later }
def CamFollowsUptoCardSaid : Prop := Claim7.holds Tryz.pinned (.plain (OpenSpec.upto camFollowsSpec)) camFollowsUptoCard

/-- THE SECOND FORM's CARD OF 'tellurionlaw04.CamFoot'. -/
def camFootUptoCard : Claim7 := { stood := { row := camFootUptoRow, standIns := [], harness := (true, "985ec80ef9f166c509f88728729dbb443cbd59a290a76d8409e815b6bbda0ad3"), looks := true }, kinds := [], alts := [], laidByText := true, laidKinds := [.data, .data, .data], laidTests := true, laidLooks := .later }
def CamFootUptoCardSaid : Prop := Claim7.holds Tryz.pinned (.plain (OpenSpec.upto camFootSpec)) camFootUptoCard

/-- THE SECOND FORM's CARD OF 'tellurionlaw04.CamStations'. -/
def camStationsUptoCard : Claim7 := { stood := { row := camStationsUptoRow, standIns := [], harness := (true, "985ec80ef9f166c509f88728729dbb443cbd59a290a76d8409e815b6bbda0ad3"), looks := true }, kinds := [], alts := [], laidByText := true, laidKinds := [.data, .data, .data], laidTests := true, laidLooks := .later }
def CamStationsUptoCardSaid : Prop := Claim7.holds Tryz.pinned (.plain (OpenSpec.upto camStationsSpec)) camStationsUptoCard

/-- THE SECOND FORM's CARD OF 'tellurionlaw04.CamRetreats'. -/
def camRetreatsUptoCard : Claim7 := { stood := { row := camRetreatsUptoRow, standIns := [], harness := (true, "985ec80ef9f166c509f88728729dbb443cbd59a290a76d8409e815b6bbda0ad3"), looks := true }, kinds := [], alts := [], laidByText := true, laidKinds := [.data, .data, .data], laidTests := true, laidLooks := .later }
def CamRetreatsUptoCardSaid : Prop := Claim7.holds Tryz.pinned (.plain (OpenSpec.upto camRetreatsSpec)) camRetreatsUptoCard

/-- THE SECOND FORM's CARD OF 'tellurionlaw04.CamMore'. -/
def camMoreUptoCard : Claim7 := { stood := { row := camMoreUptoRow, standIns := [], harness := (true, "985ec80ef9f166c509f88728729dbb443cbd59a290a76d8409e815b6bbda0ad3"), looks := true }, kinds := [], alts := [], laidByText := true, laidKinds := [.data, .data, .data], laidTests := true, laidLooks := .later }
def CamMoreUptoCardSaid : Prop := Claim7.holds Tryz.pinned (.plain (OpenSpec.upto camMoreSpec)) camMoreUptoCard

/-- THE SECOND FORM's CARD OF 'tellurionlaw04.CamPlaces'. -/
def camPlacesUptoCard : Claim7 := { stood := { row := camPlacesUptoRow, standIns := [], harness := (true, "985ec80ef9f166c509f88728729dbb443cbd59a290a76d8409e815b6bbda0ad3"), looks := true }, kinds := [], alts := [], laidByText := true, laidKinds := [.data, .data, .data], laidTests := true, laidLooks := .later }
def CamPlacesUptoCardSaid : Prop := Claim7.holds Tryz.pinned (.plain (OpenSpec.upto camPlacesSpec)) camPlacesUptoCard

/-- THE SECOND FORM's CARD OF 'tellurionlaw04.CamTurns'. -/
def camTurnsUptoCard : Claim7 := { stood := { row := camTurnsUptoRow, standIns := [], harness := (true, "985ec80ef9f166c509f88728729dbb443cbd59a290a76d8409e815b6bbda0ad3"), looks := true }, kinds := [], alts := [], laidByText := true, laidKinds := [.data, .data, .data], laidTests := true, laidLooks := .later }
def CamTurnsUptoCardSaid : Prop := Claim7.holds Tryz.pinned (.plain (OpenSpec.upto camTurnsSpec)) camTurnsUptoCard

/-- THE SECOND FORM's CARD OF 'tellurionlaw04.CamStood'. -/
def camStoodUptoCard : Claim7 := { stood := { row := camStoodUptoRow, standIns := [], harness := (true, "985ec80ef9f166c509f88728729dbb443cbd59a290a76d8409e815b6bbda0ad3"), looks := true }, kinds := [], alts := [], laidByText := true, laidKinds := [.data, .data, .data], laidTests := true, laidLooks := .later }
def CamStoodUptoCardSaid : Prop := Claim7.holds Tryz.pinned (.plain (OpenSpec.upto camStoodSpec)) camStoodUptoCard

/-- THE SECOND FORM's CARD OF 'tellurionlaw04.CamBack'. -/
def camBackUptoCard : Claim7 := { stood := { row := camBackUptoRow, standIns := [], harness := (true, "985ec80ef9f166c509f88728729dbb443cbd59a290a76d8409e815b6bbda0ad3"), looks := true }, kinds := [], alts := [], laidByText := true, laidKinds := [.data, .data, .data], laidTests := true, laidLooks := .later }
def CamBackUptoCardSaid : Prop := Claim7.holds Tryz.pinned (.plain (OpenSpec.upto camBackSpec)) camBackUptoCard

/-- THE SECOND FORM's CARD OF 'tellurionlaw04.CamCarved'. -/
def camCarvedUptoCard : Claim7 := { stood := { row := camCarvedUptoRow, standIns := [], harness := (true, "985ec80ef9f166c509f88728729dbb443cbd59a290a76d8409e815b6bbda0ad3"), looks := true }, kinds := [], alts := [], laidByText := true, laidKinds := [.data, .data, .data], laidTests := true, laidLooks := .later }
def CamCarvedUptoCardSaid : Prop := Claim7.holds Tryz.pinned (.plain (OpenSpec.upto camCarvedSpec)) camCarvedUptoCard

/-- THE SECOND FORM's CARD OF 'tellurionlaw04.CamShifts'. -/
def camShiftsUptoCard : Claim7 := { stood := { row := camShiftsUptoRow, standIns := [], harness := (true, "985ec80ef9f166c509f88728729dbb443cbd59a290a76d8409e815b6bbda0ad3"), looks := true }, kinds := [], alts := [], laidByText := true, laidKinds := [.data, .data, .data], laidTests := true, laidLooks := .later }
def CamShiftsUptoCardSaid : Prop := Claim7.holds Tryz.pinned (.plain (OpenSpec.upto camShiftsSpec)) camShiftsUptoCard

/-- THE SECOND FORM's CARD OF 'tellurionlaw04.CamShifted'. -/
def camShiftedUptoCard : Claim7 := { stood := { row := camShiftedUptoRow, standIns := [], harness := (true, "985ec80ef9f166c509f88728729dbb443cbd59a290a76d8409e815b6bbda0ad3"), looks := true }, kinds := [], alts := [], laidByText := true, laidKinds := [.data, .data, .data], laidTests := true, laidLooks := .later }
def CamShiftedUptoCardSaid : Prop := Claim7.holds Tryz.pinned (.plain (OpenSpec.upto camShiftedSpec)) camShiftedUptoCard

/-- THE SECOND FORM's CARD OF 'tellurionlaw04.CamRivals'. -/
def camRivalsUptoCard : Claim7 := { stood := { row := camRivalsUptoRow, standIns := [], harness := (true, "985ec80ef9f166c509f88728729dbb443cbd59a290a76d8409e815b6bbda0ad3"), looks := true }, kinds := [], alts := [], laidByText := true, laidKinds := [.data, .data, .data], laidTests := true, laidLooks := .later }
def CamRivalsUptoCardSaid : Prop := Claim7.holds Tryz.pinned (.plain (OpenSpec.upto camRivalsSpec)) camRivalsUptoCard

/-- THE SECOND FORM's CARD OF 'tellurionlaw04.CamFitted'. -/
def camFittedUptoCard : Claim7 := { stood := { row := camFittedUptoRow, standIns := [], harness := (true, "985ec80ef9f166c509f88728729dbb443cbd59a290a76d8409e815b6bbda0ad3"), looks := true }, kinds := [], alts := [], laidByText := true, laidKinds := [.data, .data, .data], laidTests := true, laidLooks := .later }
def CamFittedUptoCardSaid : Prop := Claim7.holds Tryz.pinned (.plain (OpenSpec.upto camFittedSpec)) camFittedUptoCard

/-- THE SECOND FORM's CARD OF 'tellurionlaw04.CamPrints'. -/
def camPrintsUptoCard : Claim7 := { stood := { row := camPrintsUptoRow, standIns := [], harness := (true, "985ec80ef9f166c509f88728729dbb443cbd59a290a76d8409e815b6bbda0ad3"), looks := true }, kinds := [], alts := [], laidByText := true, laidKinds := [.data, .data, .data, .data, .pinned], laidTests := true, laidLooks := .later }
def CamPrintsUptoCardSaid : Prop := Claim7.holds Tryz.pinned (.plain (OpenSpec.upto camPrintsSpec)) camPrintsUptoCard

/-- THE SECOND FORM's CARD OF 'tellurionlaw04.CamReads'. -/
def camReadsUptoCard : Claim7 := { stood := { row := camReadsUptoRow, standIns := [], harness := (true, "985ec80ef9f166c509f88728729dbb443cbd59a290a76d8409e815b6bbda0ad3"), looks := true }, kinds := [], alts := [], laidByText := true, laidKinds := [.data, .data, .data, .data, .pinned], laidTests := true, laidLooks := .later }
def CamReadsUptoCardSaid : Prop := Claim7.holds Tryz.pinned (.plain (OpenSpec.upto camReadsSpec)) camReadsUptoCard

/-- THE SECOND FORM's CARD OF 'tellurionlaw04.CamSpoilt'. -/
def camSpoiltUptoCard : Claim7 := { stood := { row := camSpoiltUptoRow, standIns := [], harness := (true, "985ec80ef9f166c509f88728729dbb443cbd59a290a76d8409e815b6bbda0ad3"), looks := true }, kinds := [], alts := [], laidByText := true, laidKinds := [.data, .data, .data, .data, .pinned], laidTests := true, laidLooks := .later }
def CamSpoiltUptoCardSaid : Prop := Claim7.holds Tryz.pinned (.plain (OpenSpec.upto camSpoiltSpec)) camSpoiltUptoCard
end Rows
end Go.Proofs.YtncfgkhbenmpoaaGreatDoor
