/-
  DERIVED. GIVEN WITH THE SEED: THE CARDS: each row of YtppnbdbigebhaaaGreatDoorRows.lean that lists a variable, with what it lists TIED to the program's text (the seventh form; the later family's looks); each row that meets fmt, with fmt's text TOLD by the authors' own Lean function (tested against real Go, not proved from fmt's source: count such statements apart). THE CARD IS WHAT COUNTS. Prove the row's statement (the work); the ties are given (YtppnbdbigebhaaaGreatDoorTie.lean); close each card by the builder's one call (the guide's Derived/Test/ToyasCard.lean, 'card_holds'). Laid BY PROGRAM, IN A SANDBOX (cutbox-door.mjs). By AI agents, Wed Nov 11 2026. No macro, syntax, notation, axiom, sorry.
-/
import Derived.Test.YtppnbdbigebhaaaGreatDoorRows
import GoSem.ClaimSeven
namespace Go.Proofs.YtppnbdbigebhaaaGreatDoor
namespace Rows

/-- THE TIED CARD OF 'agoralaw14.KnownMerges'. -/
def knownMergesCard : Claim7 := { stood := { row := knownMergesRow, standIns := [], harness := (true, "e8b317da564e17ccb6fe026c55773983f5f2b1c851547f9777d8b7e5be583fb0"), looks := false }, kinds := [], alts := [], laidByText := true, laidKinds := [.data, .data], laidTests := true, laidLooks := .later }
def KnownMergesCardSaid : Prop := Claim7.holds Tryz.pinned (.plain (OpenSpec.ofChange knownMergesSpec)) knownMergesCard

/-- THE TIED CARD OF 'agoralaw18.BallotOverlaps'. -/
def ballotOverlapsCard : Claim7 := { stood := { row := ballotOverlapsRow, standIns := [], harness := (true, "e8b317da564e17ccb6fe026c55773983f5f2b1c851547f9777d8b7e5be583fb0"), looks := false }, kinds := [], alts := [], laidByText := true, laidKinds := [.data, .data], laidTests := true, laidLooks := .later }
def BallotOverlapsCardSaid : Prop := Claim7.holds Tryz.pinned (.plain (OpenSpec.ofChange ballotOverlapsSpec)) ballotOverlapsCard

/-- THE TIED CARD OF 'agoralaw18.BallotGrows'. -/
def ballotGrowsCard : Claim7 := { stood := { row := ballotGrowsRow, standIns := [], harness := (true, "e8b317da564e17ccb6fe026c55773983f5f2b1c851547f9777d8b7e5be583fb0"), looks := false }, kinds := [], alts := [], laidByText := true, laidKinds := [.data, .data], laidTests := true, laidLooks := .later }
def BallotGrowsCardSaid : Prop := Claim7.holds Tryz.pinned (.plain (OpenSpec.ofChange ballotGrowsSpec)) ballotGrowsCard

/-- THE TIED CARD OF 'agoralaw18.BallotTells'. -/
def ballotTellsCard : Claim7 := { stood := { row := ballotTellsRow, standIns := [], harness := (true, "e8b317da564e17ccb6fe026c55773983f5f2b1c851547f9777d8b7e5be583fb0"), looks := false }, kinds := [], alts := [], laidByText := true, laidKinds := [.data, .data], laidTests := true, laidLooks := .later }
def BallotTellsCardSaid : Prop := Claim7.holds Tryz.pinned (.plain (OpenSpec.ofChange ballotTellsSpec)) ballotTellsCard

/-- THE SECOND FORM's CARD OF 'agoralaw14.KnownMerges'. -/
def knownMergesUptoCard : Claim7 := { stood := { row := knownMergesUptoRow, standIns := [], harness := (true, "e8b317da564e17ccb6fe026c55773983f5f2b1c851547f9777d8b7e5be583fb0"), looks := false }, kinds := [], alts := [], laidByText := true, laidKinds := [.data, .data], laidTests := true, laidLooks := .later }
def KnownMergesUptoCardSaid : Prop := Claim7.holds Tryz.pinned (.plain (OpenSpec.upto knownMergesSpec)) knownMergesUptoCard

/-- THE SECOND FORM's CARD OF 'agoralaw18.BallotOverlaps'. -/
def ballotOverlapsUptoCard : Claim7 := { stood := { row := ballotOverlapsUptoRow, standIns := [], harness := (true, "e8b317da564e17ccb6fe026c55773983f5f2b1c851547f9777d8b7e5be583fb0"), looks := false }, kinds := [], alts := [], laidByText := true, laidKinds := [.data, .data], laidTests := true, laidLooks := .later }
def BallotOverlapsUptoCardSaid : Prop := Claim7.holds Tryz.pinned (.plain (OpenSpec.upto ballotOverlapsSpec)) ballotOverlapsUptoCard

/-- THE SECOND FORM's CARD OF 'agoralaw18.BallotGrows'. -/
def ballotGrowsUptoCard : Claim7 := { stood := { row := ballotGrowsUptoRow, standIns := [], harness := (true, "e8b317da564e17ccb6fe026c55773983f5f2b1c851547f9777d8b7e5be583fb0"), looks := false }, kinds := [], alts := [], laidByText := true, laidKinds := [.data, .data], laidTests := true, laidLooks := .later }
def BallotGrowsUptoCardSaid : Prop := Claim7.holds Tryz.pinned (.plain (OpenSpec.upto ballotGrowsSpec)) ballotGrowsUptoCard

/-- THE SECOND FORM's CARD OF 'agoralaw18.BallotTells'. -/
def ballotTellsUptoCard : Claim7 := { stood := { row := ballotTellsUptoRow, standIns := [], harness := (true, "e8b317da564e17ccb6fe026c55773983f5f2b1c851547f9777d8b7e5be583fb0"), looks := false }, kinds := [], alts := [], laidByText := true, laidKinds := [.data, .data], laidTests := true, laidLooks := .later }
def BallotTellsUptoCardSaid : Prop := Claim7.holds Tryz.pinned (.plain (OpenSpec.upto ballotTellsSpec)) ballotTellsUptoCard
end Rows
end Go.Proofs.YtppnbdbigebhaaaGreatDoor
