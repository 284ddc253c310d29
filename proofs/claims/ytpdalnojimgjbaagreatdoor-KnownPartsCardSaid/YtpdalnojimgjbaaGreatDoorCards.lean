/-
  DERIVED. GIVEN WITH THE SEED: THE CARDS: each row of YtpdalnojimgjbaaGreatDoorRows.lean that lists a variable, with what it lists TIED to the program's text (the seventh form; the later family's looks); each row that meets fmt, with fmt's text TOLD by the authors' own Lean function (tested against real Go, not proved from fmt's source: count such statements apart). THE CARD IS WHAT COUNTS. Prove the row's statement (the work); the ties are given (YtpdalnojimgjbaaGreatDoorTie.lean); close each card by the builder's one call (the guide's Derived/Test/ToyasCard.lean, 'card_holds'). Laid BY PROGRAM, IN A SANDBOX (cutbox-door.mjs). By AI agents, Wed Nov 11 2026. No macro, syntax, notation, axiom, sorry.
-/
import Derived.Test.YtpdalnojimgjbaaGreatDoorRows
import GoSem.ClaimSeven
namespace Go.Proofs.YtpdalnojimgjbaaGreatDoor
namespace Rows

/-- THE TIED CARD OF 'agoralaw14.KnownOrder'. -/
def knownOrderCard : Claim7 := { stood := { row := knownOrderRow, standIns := [], harness := (true, "fef9b393334a2affc0792446e783937fe8d81017afae3df7bcb860c02eeae387"), looks := false }, kinds := [], alts := [], laidByText := true, laidKinds := [.data, .data], laidTests := true, laidLooks := .later }
def KnownOrderCardSaid : Prop := Claim7.holds Tryz.pinned (.plain (OpenSpec.ofChange knownOrderSpec)) knownOrderCard

/-- THE TIED CARD OF 'agoralaw14.KnownEqual'. -/
def knownEqualCard : Claim7 := { stood := { row := knownEqualRow, standIns := [], harness := (true, "fef9b393334a2affc0792446e783937fe8d81017afae3df7bcb860c02eeae387"), looks := false }, kinds := [], alts := [], laidByText := true, laidKinds := [.data, .data], laidTests := true, laidLooks := .later }
def KnownEqualCardSaid : Prop := Claim7.holds Tryz.pinned (.plain (OpenSpec.ofChange knownEqualSpec)) knownEqualCard

/-- THE TIED CARD OF 'agoralaw14.KnownLists'. -/
def knownListsCard : Claim7 := { stood := { row := knownListsRow, standIns := [], harness := (true, "fef9b393334a2affc0792446e783937fe8d81017afae3df7bcb860c02eeae387"), looks := false }, kinds := [], alts := [], laidByText := true, laidKinds := [.data, .data], laidTests := true, laidLooks := .later }
def KnownListsCardSaid : Prop := Claim7.holds Tryz.pinned (.plain (OpenSpec.ofChange knownListsSpec)) knownListsCard

/-- THE TIED CARD OF 'agoralaw14.KnownParts'. -/
def knownPartsCard : Claim7 := { stood := { row := knownPartsRow, standIns := [], harness := (true, "fef9b393334a2affc0792446e783937fe8d81017afae3df7bcb860c02eeae387"), looks := false }, kinds := [], alts := [], laidByText := true, laidKinds := [.data, .data], laidTests := true, laidLooks := .later }
def KnownPartsCardSaid : Prop := Claim7.holds Tryz.pinned (.plain (OpenSpec.ofChange knownPartsSpec)) knownPartsCard

/-- THE TIED CARD OF 'agoralaw14.KnownMerges'. -/
def knownMergesCard : Claim7 := { stood := { row := knownMergesRow, standIns := [], harness := (true, "fef9b393334a2affc0792446e783937fe8d81017afae3df7bcb860c02eeae387"), looks := false }, kinds := [], alts := [], laidByText := true, laidKinds := [.data, .data], laidTests := true, laidLooks := .later }
def KnownMergesCardSaid : Prop := Claim7.holds Tryz.pinned (.plain (OpenSpec.ofChange knownMergesSpec)) knownMergesCard

/-- THE TIED CARD OF 'agoralaw14.KnownJoins'. -/
def knownJoinsCard : Claim7 := { stood := { row := knownJoinsRow, standIns := [], harness := (true, "fef9b393334a2affc0792446e783937fe8d81017afae3df7bcb860c02eeae387"), looks := false }, kinds := [], alts := [], laidByText := true, laidKinds := [.data, .data], laidTests := true, laidLooks := .later }
def KnownJoinsCardSaid : Prop := Claim7.holds Tryz.pinned (.plain (OpenSpec.ofChange knownJoinsSpec)) knownJoinsCard

/-- THE TIED CARD OF 'agoralaw18.BallotOverlaps'. -/
def ballotOverlapsCard : Claim7 := { stood := { row := ballotOverlapsRow, standIns := [], harness := (true, "fef9b393334a2affc0792446e783937fe8d81017afae3df7bcb860c02eeae387"), looks := false }, kinds := [], alts := [], laidByText := true, laidKinds := [.data, .data], laidTests := true, laidLooks := .later }
def BallotOverlapsCardSaid : Prop := Claim7.holds Tryz.pinned (.plain (OpenSpec.ofChange ballotOverlapsSpec)) ballotOverlapsCard

/-- THE TIED CARD OF 'agoralaw18.BallotGrows'. -/
def ballotGrowsCard : Claim7 := { stood := { row := ballotGrowsRow, standIns := [], harness := (true, "fef9b393334a2affc0792446e783937fe8d81017afae3df7bcb860c02eeae387"), looks := false }, kinds := [], alts := [], laidByText := true, laidKinds := [.data, .data], laidTests := true, laidLooks := .later }
def BallotGrowsCardSaid : Prop := Claim7.holds Tryz.pinned (.plain (OpenSpec.ofChange ballotGrowsSpec)) ballotGrowsCard

/-- THE TIED CARD OF 'agoralaw35.DecideNumbers'. -/
def decideNumbersCard : Claim7 := { stood := { row := decideNumbersRow, standIns := [], harness := (true, "fef9b393334a2affc0792446e783937fe8d81017afae3df7bcb860c02eeae387"), looks := false }, kinds := [], alts := [], laidByText := true, laidKinds := [.data, .data], laidTests := true, laidLooks := .later }
def DecideNumbersCardSaid : Prop := Claim7.holds Tryz.pinned (.plain (OpenSpec.ofChange decideNumbersSpec)) decideNumbersCard

/-- THE TIED CARD OF 'agoralaw18.BallotTells'. -/
def ballotTellsCard : Claim7 := { stood := { row := ballotTellsRow, standIns := [], harness := (true, "fef9b393334a2affc0792446e783937fe8d81017afae3df7bcb860c02eeae387"), looks := false }, kinds := [], alts := [], laidByText := true, laidKinds := [.data, .data], laidTests := true, laidLooks := .later }
def BallotTellsCardSaid : Prop := Claim7.holds Tryz.pinned (.plain (OpenSpec.ofChange ballotTellsSpec)) ballotTellsCard

/-- THE TIED CARD OF 'agoralaw35.DecideBytes'. -/
def decideBytesCard : Claim7 := { stood := { row := decideBytesRow, standIns := [], harness := (true, "fef9b393334a2affc0792446e783937fe8d81017afae3df7bcb860c02eeae387"), looks := false }, kinds := [], alts := [], laidByText := true, laidKinds := [.data, .data], laidTests := true, laidLooks := .later }
def DecideBytesCardSaid : Prop := Claim7.holds Tryz.pinned (.plain (OpenSpec.ofChange decideBytesSpec)) decideBytesCard

/-- THE SECOND FORM's CARD OF 'agoralaw14.KnownOrder'. -/
def knownOrderUptoCard : Claim7 := { stood := { row := knownOrderUptoRow, standIns := [], harness := (true, "fef9b393334a2affc0792446e783937fe8d81017afae3df7bcb860c02eeae387"), looks := false }, kinds := [], alts := [], laidByText := true, laidKinds := [.data, .data], laidTests := true, laidLooks := .later }
def KnownOrderUptoCardSaid : Prop := Claim7.holds Tryz.pinned (.plain (OpenSpec.upto knownOrderSpec)) knownOrderUptoCard

/-- THE SECOND FORM's CARD OF 'agoralaw14.KnownEqual'. -/
def knownEqualUptoCard : Claim7 := { stood := { row := knownEqualUptoRow, standIns := [], harness := (true, "fef9b393334a2affc0792446e783937fe8d81017afae3df7bcb860c02eeae387"), looks := false }, kinds := [], alts := [], laidByText := true, laidKinds := [.data, .data], laidTests := true, laidLooks := .later }
def KnownEqualUptoCardSaid : Prop := Claim7.holds Tryz.pinned (.plain (OpenSpec.upto knownEqualSpec)) knownEqualUptoCard

/-- THE SECOND FORM's CARD OF 'agoralaw14.KnownLists'. -/
def knownListsUptoCard : Claim7 := { stood := { row := knownListsUptoRow, standIns := [], harness := (true, "fef9b393334a2affc0792446e783937fe8d81017afae3df7bcb860c02eeae387"), looks := false }, kinds := [], alts := [], laidByText := true, laidKinds := [.data, .data], laidTests := true, laidLooks := .later }
def KnownListsUptoCardSaid : Prop := Claim7.holds Tryz.pinned (.plain (OpenSpec.upto knownListsSpec)) knownListsUptoCard

/-- THE SECOND FORM's CARD OF 'agoralaw14.KnownParts'. -/
def knownPartsUptoCard : Claim7 := { stood := { row := knownPartsUptoRow, standIns := [], harness := (true, "fef9b393334a2affc0792446e783937fe8d81017afae3df7bcb860c02eeae387"), looks := false }, kinds := [], alts := [], laidByText := true, laidKinds := [.data, .data], laidTests := true, laidLooks := .later }
def KnownPartsUptoCardSaid : Prop := Claim7.holds Tryz.pinned (.plain (OpenSpec.upto knownPartsSpec)) knownPartsUptoCard

/-- THE SECOND FORM's CARD OF 'agoralaw14.KnownMerges'. -/
def knownMergesUptoCard : Claim7 := { stood := { row := knownMergesUptoRow, standIns := [], harness := (true, "fef9b393334a2affc0792446e783937fe8d81017afae3df7bcb860c02eeae387"), looks := false }, kinds := [], alts := [], laidByText := true, laidKinds := [.data, .data], laidTests := true, laidLooks := .later }
def KnownMergesUptoCardSaid : Prop := Claim7.holds Tryz.pinned (.plain (OpenSpec.upto knownMergesSpec)) knownMergesUptoCard

/-- THE SECOND FORM's CARD OF 'agoralaw14.KnownJoins'. -/
def knownJoinsUptoCard : Claim7 := { stood := { row := knownJoinsUptoRow, standIns := [], harness := (true, "fef9b393334a2affc0792446e783937fe8d81017afae3df7bcb860c02eeae387"), looks := false }, kinds := [], alts := [], laidByText := true, laidKinds := [.data, .data], laidTests := true, laidLooks := .later }
def KnownJoinsUptoCardSaid : Prop := Claim7.holds Tryz.pinned (.plain (OpenSpec.upto knownJoinsSpec)) knownJoinsUptoCard

/-- THE SECOND FORM's CARD OF 'agoralaw18.BallotOverlaps'. -/
def ballotOverlapsUptoCard : Claim7 := { stood := { row := ballotOverlapsUptoRow, standIns := [], harness := (true, "fef9b393334a2affc0792446e783937fe8d81017afae3df7bcb860c02eeae387"), looks := false }, kinds := [], alts := [], laidByText := true, laidKinds := [.data, .data], laidTests := true, laidLooks := .later }
def BallotOverlapsUptoCardSaid : Prop := Claim7.holds Tryz.pinned (.plain (OpenSpec.upto ballotOverlapsSpec)) ballotOverlapsUptoCard

/-- THE SECOND FORM's CARD OF 'agoralaw18.BallotGrows'. -/
def ballotGrowsUptoCard : Claim7 := { stood := { row := ballotGrowsUptoRow, standIns := [], harness := (true, "fef9b393334a2affc0792446e783937fe8d81017afae3df7bcb860c02eeae387"), looks := false }, kinds := [], alts := [], laidByText := true, laidKinds := [.data, .data], laidTests := true, laidLooks := .later }
def BallotGrowsUptoCardSaid : Prop := Claim7.holds Tryz.pinned (.plain (OpenSpec.upto ballotGrowsSpec)) ballotGrowsUptoCard

/-- THE SECOND FORM's CARD OF 'agoralaw35.DecideNumbers'. -/
def decideNumbersUptoCard : Claim7 := { stood := { row := decideNumbersUptoRow, standIns := [], harness := (true, "fef9b393334a2affc0792446e783937fe8d81017afae3df7bcb860c02eeae387"), looks := false }, kinds := [], alts := [], laidByText := true, laidKinds := [.data, .data], laidTests := true, laidLooks := .later }
def DecideNumbersUptoCardSaid : Prop := Claim7.holds Tryz.pinned (.plain (OpenSpec.upto decideNumbersSpec)) decideNumbersUptoCard

/-- THE SECOND FORM's CARD OF 'agoralaw18.BallotTells'. -/
def ballotTellsUptoCard : Claim7 := { stood := { row := ballotTellsUptoRow, standIns := [], harness := (true, "fef9b393334a2affc0792446e783937fe8d81017afae3df7bcb860c02eeae387"), looks := false }, kinds := [], alts := [], laidByText := true, laidKinds := [.data, .data], laidTests := true, laidLooks := .later }
def BallotTellsUptoCardSaid : Prop := Claim7.holds Tryz.pinned (.plain (OpenSpec.upto ballotTellsSpec)) ballotTellsUptoCard

/-- THE SECOND FORM's CARD OF 'agoralaw35.DecideBytes'. -/
def decideBytesUptoCard : Claim7 := { stood := { row := decideBytesUptoRow, standIns := [], harness := (true, "fef9b393334a2affc0792446e783937fe8d81017afae3df7bcb860c02eeae387"), looks := false }, kinds := [], alts := [], laidByText := true, laidKinds := [.data, .data], laidTests := true, laidLooks := .later }
def DecideBytesUptoCardSaid : Prop := Claim7.holds Tryz.pinned (.plain (OpenSpec.upto decideBytesSpec)) decideBytesUptoCard
end Rows
end Go.Proofs.YtpdalnojimgjbaaGreatDoor
