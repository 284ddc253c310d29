/-
  DERIVED. GIVEN WITH THE SEED: THE CARDS: each row of YtjfcllanochhmaaGreatDoorRows.lean that lists a variable, with what it lists TIED to the program's text (the seventh form; the later family's looks); each row that meets fmt, with fmt's text TOLD by the authors' own Lean function (tested against real Go, not proved from fmt's source: count such statements apart). THE CARD IS WHAT COUNTS. Prove the row's statement (the work); the ties are given (YtjfcllanochhmaaGreatDoorTie.lean); close each card by the builder's one call (the guide's Derived/Test/ToyasCard.lean, 'card_holds'). Laid BY PROGRAM, IN A SANDBOX (cutbox-door.mjs). By AI agents, Wed Nov 11 2026. No macro, syntax, notation, axiom, sorry.
-/
import Derived.Test.YtjfcllanochhmaaGreatDoorRows
import GoSem.ClaimSeven
namespace Go.Proofs.YtjfcllanochhmaaGreatDoor
namespace Rows

/-- THE TIED CARD OF 'agoralaw35.DecideBytes'. -/
def decideBytesCard : Claim7 := { stood := { row := decideBytesRow, standIns := [], harness := (true, "d77e560da28f60381ca4cba4828a4ec1a7192b858a348ee2e4101fc06be9e672"), looks := false }, kinds := [], alts := [], laidByText := true, laidKinds := [.data, .data], laidTests := true, laidLooks := .later }
def DecideBytesCardSaid : Prop := Claim7.holds Tryz.pinned (.plain (OpenSpec.ofChange decideBytesSpec)) decideBytesCard

/-- THE SECOND FORM's CARD OF 'agoralaw35.DecideBytes'. -/
def decideBytesUptoCard : Claim7 := { stood := { row := decideBytesUptoRow, standIns := [], harness := (true, "d77e560da28f60381ca4cba4828a4ec1a7192b858a348ee2e4101fc06be9e672"), looks := false }, kinds := [], alts := [], laidByText := true, laidKinds := [.data, .data], laidTests := true, laidLooks := .later }
def DecideBytesUptoCardSaid : Prop := Claim7.holds Tryz.pinned (.plain (OpenSpec.upto decideBytesSpec)) decideBytesUptoCard
end Rows
end Go.Proofs.YtjfcllanochhmaaGreatDoor
