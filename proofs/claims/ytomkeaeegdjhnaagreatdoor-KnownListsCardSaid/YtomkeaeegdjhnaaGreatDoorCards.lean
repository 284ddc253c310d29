/-
  DERIVED. GIVEN WITH THE SEED: THE CARDS: each row of YtomkeaeegdjhnaaGreatDoorRows.lean that lists a variable, with what it lists TIED to the program's text (the seventh form; the later family's looks); each row that meets fmt, with fmt's text TOLD by the authors' own Lean function (tested against real Go, not proved from fmt's source: count such statements apart). THE CARD IS WHAT COUNTS. Prove the row's statement (the work); the ties are given (YtomkeaeegdjhnaaGreatDoorTie.lean); close each card by the builder's one call (the guide's Derived/Test/ToyasCard.lean, 'card_holds'). Laid BY PROGRAM, IN A SANDBOX (cutbox-door.mjs). By AI agents, Wed Nov 11 2026. No macro, syntax, notation, axiom, sorry.
-/
import Derived.Test.YtomkeaeegdjhnaaGreatDoorRows
import GoSem.ClaimSeven
namespace Go.Proofs.YtomkeaeegdjhnaaGreatDoor
namespace Rows

/-- THE TIED CARD OF 'agoralaw14.KnownEqual'. -/
def knownEqualCard : Claim7 := { stood := { row := knownEqualRow, standIns := [], harness := (true, "46bfbd982b7cf5368c851780b1a1ec686213b8913676330445773c27b9178326"), looks := false }, kinds := [], alts := [], laidByText := true, laidKinds := [.data, .data], laidTests := true, laidLooks := .later }
def KnownEqualCardSaid : Prop := Claim7.holds Tryz.pinned (.plain (OpenSpec.ofChange knownEqualSpec)) knownEqualCard

/-- THE TIED CARD OF 'agoralaw14.KnownLists'. -/
def knownListsCard : Claim7 := { stood := { row := knownListsRow, standIns := [], harness := (true, "46bfbd982b7cf5368c851780b1a1ec686213b8913676330445773c27b9178326"), looks := false }, kinds := [], alts := [], laidByText := true, laidKinds := [.data, .data], laidTests := true, laidLooks := .later }
def KnownListsCardSaid : Prop := Claim7.holds Tryz.pinned (.plain (OpenSpec.ofChange knownListsSpec)) knownListsCard

/-- THE TIED CARD OF 'agoralaw14.KnownMerges'. -/
def knownMergesCard : Claim7 := { stood := { row := knownMergesRow, standIns := [], harness := (true, "46bfbd982b7cf5368c851780b1a1ec686213b8913676330445773c27b9178326"), looks := false }, kinds := [], alts := [], laidByText := true, laidKinds := [.data, .data], laidTests := true, laidLooks := .later }
def KnownMergesCardSaid : Prop := Claim7.holds Tryz.pinned (.plain (OpenSpec.ofChange knownMergesSpec)) knownMergesCard

/-- THE TIED CARD OF 'agoralaw18.BallotOverlaps'. -/
def ballotOverlapsCard : Claim7 := { stood := { row := ballotOverlapsRow, standIns := [], harness := (true, "46bfbd982b7cf5368c851780b1a1ec686213b8913676330445773c27b9178326"), looks := false }, kinds := [], alts := [], laidByText := true, laidKinds := [.data, .data], laidTests := true, laidLooks := .later }
def BallotOverlapsCardSaid : Prop := Claim7.holds Tryz.pinned (.plain (OpenSpec.ofChange ballotOverlapsSpec)) ballotOverlapsCard

/-- THE TIED CARD OF 'agoralaw18.BallotGrows'. -/
def ballotGrowsCard : Claim7 := { stood := { row := ballotGrowsRow, standIns := [], harness := (true, "46bfbd982b7cf5368c851780b1a1ec686213b8913676330445773c27b9178326"), looks := false }, kinds := [], alts := [], laidByText := true, laidKinds := [.data, .data], laidTests := true, laidLooks := .later }
def BallotGrowsCardSaid : Prop := Claim7.holds Tryz.pinned (.plain (OpenSpec.ofChange ballotGrowsSpec)) ballotGrowsCard

/-- THE SECOND FORM's CARD OF 'agoralaw14.KnownEqual'. -/
def knownEqualUptoCard : Claim7 := { stood := { row := knownEqualUptoRow, standIns := [], harness := (true, "46bfbd982b7cf5368c851780b1a1ec686213b8913676330445773c27b9178326"), looks := false }, kinds := [], alts := [], laidByText := true, laidKinds := [.data, .data], laidTests := true, laidLooks := .later }
def KnownEqualUptoCardSaid : Prop := Claim7.holds Tryz.pinned (.plain (OpenSpec.upto knownEqualSpec)) knownEqualUptoCard

/-- THE SECOND FORM's CARD OF 'agoralaw14.KnownLists'. -/
def knownListsUptoCard : Claim7 := { stood := { row := knownListsUptoRow, standIns := [], harness := (true, "46bfbd982b7cf5368c851780b1a1ec686213b8913676330445773c27b9178326"), looks := false }, kinds := [], alts := [], laidByText := true, laidKinds := [.data, .data], laidTests := true, laidLooks := .later }
def KnownListsUptoCardSaid : Prop := Claim7.holds Tryz.pinned (.plain (OpenSpec.upto knownListsSpec)) knownListsUptoCard

/-- THE SECOND FORM's CARD OF 'agoralaw14.KnownMerges'. -/
def knownMergesUptoCard : Claim7 := { stood := { row := knownMergesUptoRow, standIns := [], harness := (true, "46bfbd982b7cf5368c851780b1a1ec686213b8913676330445773c27b9178326"), looks := false }, kinds := [], alts := [], laidByText := true, laidKinds := [.data, .data], laidTests := true, laidLooks := .later }
def KnownMergesUptoCardSaid : Prop := Claim7.holds Tryz.pinned (.plain (OpenSpec.upto knownMergesSpec)) knownMergesUptoCard

/-- THE SECOND FORM's CARD OF 'agoralaw18.BallotOverlaps'. -/
def ballotOverlapsUptoCard : Claim7 := { stood := { row := ballotOverlapsUptoRow, standIns := [], harness := (true, "46bfbd982b7cf5368c851780b1a1ec686213b8913676330445773c27b9178326"), looks := false }, kinds := [], alts := [], laidByText := true, laidKinds := [.data, .data], laidTests := true, laidLooks := .later }
def BallotOverlapsUptoCardSaid : Prop := Claim7.holds Tryz.pinned (.plain (OpenSpec.upto ballotOverlapsSpec)) ballotOverlapsUptoCard

/-- THE SECOND FORM's CARD OF 'agoralaw18.BallotGrows'. -/
def ballotGrowsUptoCard : Claim7 := { stood := { row := ballotGrowsUptoRow, standIns := [], harness := (true, "46bfbd982b7cf5368c851780b1a1ec686213b8913676330445773c27b9178326"), looks := false }, kinds := [], alts := [], laidByText := true, laidKinds := [.data, .data], laidTests := true, laidLooks := .later }
def BallotGrowsUptoCardSaid : Prop := Claim7.holds Tryz.pinned (.plain (OpenSpec.upto ballotGrowsSpec)) ballotGrowsUptoCard
end Rows
end Go.Proofs.YtomkeaeegdjhnaaGreatDoor
