/-
  DERIVED. GIVEN WITH THE SEED: THE CARDS: each row of YtbknfddaoolagaaGreatDoorRows.lean that lists a variable, with what it lists TIED to the program's text (the seventh form; the later family's looks); each row that meets fmt, with fmt's text TOLD by the authors' own Lean function (tested against real Go, not proved from fmt's source: count such statements apart). THE CARD IS WHAT COUNTS. Prove the row's statement (the work); the ties are given (YtbknfddaoolagaaGreatDoorTie.lean); close each card by the builder's one call (the guide's Derived/Test/ToyasCard.lean, 'card_holds'). Laid BY PROGRAM, IN A SANDBOX (cutbox-door.mjs). By AI agents, Wed Nov 11 2026. No macro, syntax, notation, axiom, sorry.
-/
import Derived.Test.YtbknfddaoolagaaGreatDoorRows
import GoSem.ClaimSeven
namespace Go.Proofs.YtbknfddaoolagaaGreatDoor
namespace Rows

/-- THE TIED CARD OF 'tellurionlaw03.SlackReads'. -/
def slackReadsCard : Claim7 := { stood := { row := slackReadsRow, standIns := [], harness := (true, "5bdd96df082b05ead8f499b068607ad6f70edb0fd0d8d9298370081f32bba95f"), looks := true }, kinds := [], alts := [], laidByText := true, laidKinds := [.data, .data, .data, .data, .pinned], laidTests := true, laidLooks := .later }
def SlackReadsCardSaid : Prop := Claim7.holds Tryz.pinned (.plain (OpenSpec.ofChange slackReadsSpec)) slackReadsCard

/-- THE TIED CARD OF 'tellurionlaw03.SlackShows'. -/
def slackShowsCard : Claim7 := { stood := { row := slackShowsRow, standIns := [], harness := (true, "5bdd96df082b05ead8f499b068607ad6f70edb0fd0d8d9298370081f32bba95f"), looks := true }, kinds := [], alts := [], laidByText := true, laidKinds := [.data, .data, .data, .data, .pinned], laidTests := true, laidLooks := .later }
def SlackShowsCardSaid : Prop := Claim7.holds Tryz.pinned (.plain (OpenSpec.ofChange slackShowsSpec)) slackShowsCard

/-- THE SECOND FORM's CARD OF 'tellurionlaw03.SlackReads'. -/
def slackReadsUptoCard : Claim7 := { stood := { row := slackReadsUptoRow, standIns := [], harness := (true, "5bdd96df082b05ead8f499b068607ad6f70edb0fd0d8d9298370081f32bba95f"), looks := true }, kinds := [], alts := [], laidByText := true, laidKinds := [.data, .data, .data, .data, .pinned], laidTests := true, laidLooks := .later }
def SlackReadsUptoCardSaid : Prop := Claim7.holds Tryz.pinned (.plain (OpenSpec.upto slackReadsSpec)) slackReadsUptoCard

/-- THE SECOND FORM's CARD OF 'tellurionlaw03.SlackShows'. -/
def slackShowsUptoCard : Claim7 := { stood := { row := slackShowsUptoRow, standIns := [], harness := (true, "5bdd96df082b05ead8f499b068607ad6f70edb0fd0d8d9298370081f32bba95f"), looks := true }, kinds := [], alts := [], laidByText := true, laidKinds := [.data, .data, .data, .data, .pinned], laidTests := true, laidLooks := .later }
def SlackShowsUptoCardSaid : Prop := Claim7.holds Tryz.pinned (.plain (OpenSpec.upto slackShowsSpec)) slackShowsUptoCard
end Rows
end Go.Proofs.YtbknfddaoolagaaGreatDoor
