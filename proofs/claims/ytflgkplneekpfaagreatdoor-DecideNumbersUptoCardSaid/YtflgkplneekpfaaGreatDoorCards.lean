/-
  DERIVED. GIVEN WITH THE SEED: THE CARDS: each row of YtflgkplneekpfaaGreatDoorRows.lean that lists a variable, with what it lists TIED to the program's text (the seventh form; the later family's looks); each row that meets fmt, with fmt's text TOLD by the authors' own Lean function (tested against real Go, not proved from fmt's source: count such statements apart). THE CARD IS WHAT COUNTS. Prove the row's statement (the work); the ties are given (YtflgkplneekpfaaGreatDoorTie.lean); close each card by the builder's one call (the guide's Derived/Test/ToyasCard.lean, 'card_holds'). Laid BY PROGRAM, IN A SANDBOX (cutbox-door.mjs). By AI agents, Wed Nov 11 2026. No macro, syntax, notation, axiom, sorry.
-/
import Derived.Test.YtflgkplneekpfaaGreatDoorRows
import GoSem.ClaimSeven
namespace Go.Proofs.YtflgkplneekpfaaGreatDoor
namespace Rows

/-- THE TIED CARD OF 'agoralaw18.BallotOverlaps'. -/
def ballotOverlapsCard : Claim7 := { stood := { row := ballotOverlapsRow, standIns := [], harness := (true, "b10459ecc33c8681100ef07ef3e04d6dc87e71a212ba1555227e68e58a4f567e"), looks := false }, kinds := [], alts := [], laidByText := true, laidKinds := [.data, .data], laidTests := true, laidLooks := .later }
def BallotOverlapsCardSaid : Prop := Claim7.holds Tryz.pinned (.plain (OpenSpec.ofChange ballotOverlapsSpec)) ballotOverlapsCard

/-- THE TIED CARD OF 'agoralaw18.BallotGrows'. -/
def ballotGrowsCard : Claim7 := { stood := { row := ballotGrowsRow, standIns := [], harness := (true, "b10459ecc33c8681100ef07ef3e04d6dc87e71a212ba1555227e68e58a4f567e"), looks := false }, kinds := [], alts := [], laidByText := true, laidKinds := [.data, .data], laidTests := true, laidLooks := .later }
def BallotGrowsCardSaid : Prop := Claim7.holds Tryz.pinned (.plain (OpenSpec.ofChange ballotGrowsSpec)) ballotGrowsCard

/-- THE TIED CARD OF 'agoralaw35.DecideNumbers'. -/
def decideNumbersCard : Claim7 := { stood := { row := decideNumbersRow, standIns := [], harness := (true, "b10459ecc33c8681100ef07ef3e04d6dc87e71a212ba1555227e68e58a4f567e"), looks := false }, kinds := [], alts := [], laidByText := true, laidKinds := [.data, .data], laidTests := true, laidLooks := .later }
def DecideNumbersCardSaid : Prop := Claim7.holds Tryz.pinned (.plain (OpenSpec.ofChange decideNumbersSpec)) decideNumbersCard

/-- THE TIED CARD OF 'agoralaw18.BallotTells'. -/
def ballotTellsCard : Claim7 := { stood := { row := ballotTellsRow, standIns := [], harness := (true, "b10459ecc33c8681100ef07ef3e04d6dc87e71a212ba1555227e68e58a4f567e"), looks := false }, kinds := [], alts := [], laidByText := true, laidKinds := [.data, .data], laidTests := true, laidLooks := .later }
def BallotTellsCardSaid : Prop := Claim7.holds Tryz.pinned (.plain (OpenSpec.ofChange ballotTellsSpec)) ballotTellsCard

/-- THE TIED CARD OF 'agoralaw35.DecideBytes'. -/
def decideBytesCard : Claim7 := { stood := { row := decideBytesRow, standIns := [], harness := (true, "b10459ecc33c8681100ef07ef3e04d6dc87e71a212ba1555227e68e58a4f567e"), looks := false }, kinds := [], alts := [], laidByText := true, laidKinds := [.data, .data], laidTests := true, laidLooks := .later }
def DecideBytesCardSaid : Prop := Claim7.holds Tryz.pinned (.plain (OpenSpec.ofChange decideBytesSpec)) decideBytesCard

/-- THE SECOND FORM's CARD OF 'agoralaw18.BallotOverlaps'. -/
def ballotOverlapsUptoCard : Claim7 := { stood := { row := ballotOverlapsUptoRow, standIns := [], harness := (true, "b10459ecc33c8681100ef07ef3e04d6dc87e71a212ba1555227e68e58a4f567e"), looks := false }, kinds := [], alts := [], laidByText := true, laidKinds := [.data, .data], laidTests := true, laidLooks := .later }
def BallotOverlapsUptoCardSaid : Prop := Claim7.holds Tryz.pinned (.plain (OpenSpec.upto ballotOverlapsSpec)) ballotOverlapsUptoCard

/-- THE SECOND FORM's CARD OF 'agoralaw18.BallotGrows'. -/
def ballotGrowsUptoCard : Claim7 := { stood := { row := ballotGrowsUptoRow, standIns := [], harness := (true, "b10459ecc33c8681100ef07ef3e04d6dc87e71a212ba1555227e68e58a4f567e"), looks := false }, kinds := [], alts := [], laidByText := true, laidKinds := [.data, .data], laidTests := true, laidLooks := .later }
def BallotGrowsUptoCardSaid : Prop := Claim7.holds Tryz.pinned (.plain (OpenSpec.upto ballotGrowsSpec)) ballotGrowsUptoCard

/-- THE SECOND FORM's CARD OF 'agoralaw35.DecideNumbers'. -/
def decideNumbersUptoCard : Claim7 := { stood := { row := decideNumbersUptoRow, standIns := [], harness := (true, "b10459ecc33c8681100ef07ef3e04d6dc87e71a212ba1555227e68e58a4f567e"), looks := false }, kinds := [], alts := [], laidByText := true, laidKinds := [.data, .data], laidTests := true, laidLooks := .later }
def DecideNumbersUptoCardSaid : Prop := Claim7.holds Tryz.pinned (.plain (OpenSpec.upto decideNumbersSpec)) decideNumbersUptoCard

/-- THE SECOND FORM's CARD OF 'agoralaw18.BallotTells'. -/
def ballotTellsUptoCard : Claim7 := { stood := { row := ballotTellsUptoRow, standIns := [], harness := (true, "b10459ecc33c8681100ef07ef3e04d6dc87e71a212ba1555227e68e58a4f567e"), looks := false }, kinds := [], alts := [], laidByText := true, laidKinds := [.data, .data], laidTests := true, laidLooks := .later }
def BallotTellsUptoCardSaid : Prop := Claim7.holds Tryz.pinned (.plain (OpenSpec.upto ballotTellsSpec)) ballotTellsUptoCard

/-- THE SECOND FORM's CARD OF 'agoralaw35.DecideBytes'. -/
def decideBytesUptoCard : Claim7 := { stood := { row := decideBytesUptoRow, standIns := [], harness := (true, "b10459ecc33c8681100ef07ef3e04d6dc87e71a212ba1555227e68e58a4f567e"), looks := false }, kinds := [], alts := [], laidByText := true, laidKinds := [.data, .data], laidTests := true, laidLooks := .later }
def DecideBytesUptoCardSaid : Prop := Claim7.holds Tryz.pinned (.plain (OpenSpec.upto decideBytesSpec)) decideBytesUptoCard
end Rows
end Go.Proofs.YtflgkplneekpfaaGreatDoor
