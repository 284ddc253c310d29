/-
  DERIVED. GIVEN WITH THE SEED: THE CARDS: each row of YtbemmjnjoabadaaGreatDoorRows.lean that lists a variable, with what it lists TIED to the program's text (the seventh form; the later family's looks); each row that meets fmt, with fmt's text TOLD by the authors' own Lean function (tested against real Go, not proved from fmt's source: count such statements apart). THE CARD IS WHAT COUNTS. Prove the row's statement (the work); the ties are given (YtbemmjnjoabadaaGreatDoorTie.lean); close each card by the builder's one call (the guide's Derived/Test/ToyasCard.lean, 'card_holds'). Laid BY PROGRAM, IN A SANDBOX (cutbox-door.mjs). By AI agents, Wed Nov 11 2026. No macro, syntax, notation, axiom, sorry.
-/
import Derived.Test.YtbemmjnjoabadaaGreatDoorRows
import GoSem.ClaimSeven
namespace Go.Proofs.YtbemmjnjoabadaaGreatDoor
namespace Rows

/-- THE TIED CARD OF 'agoralaw24.KnowReaders'. -/
def knowReadersCard : Claim7 := { stood := { row := knowReadersRow, standIns := [], harness := (true, "348f1396a4d9c70176be46d34d4cbdf5781c0819b8150f3338166d48f2d2c722"), looks := false }, kinds := [], alts := [], laidByText := true, laidKinds := [.data, .data], laidTests := true, laidLooks := .later }
def KnowReadersCardSaid : Prop := Claim7.holds Tryz.pinned (.plain (OpenSpec.ofChange knowReadersSpec)) knowReadersCard

/-- THE TIED CARD OF 'agoralaw24.KnowSound'. -/
def knowSoundCard : Claim7 := { stood := { row := knowSoundRow, standIns := [], harness := (true, "348f1396a4d9c70176be46d34d4cbdf5781c0819b8150f3338166d48f2d2c722"), looks := false }, kinds := [], alts := [], laidByText := true, laidKinds := [.data, .data], laidTests := true, laidLooks := .later }
def KnowSoundCardSaid : Prop := Claim7.holds Tryz.pinned (.plain (OpenSpec.ofChange knowSoundSpec)) knowSoundCard

/-- THE TIED CARD OF 'agoralaw24.KnowGrows'. -/
def knowGrowsCard : Claim7 := { stood := { row := knowGrowsRow, standIns := [], harness := (true, "348f1396a4d9c70176be46d34d4cbdf5781c0819b8150f3338166d48f2d2c722"), looks := false }, kinds := [], alts := [], laidByText := true, laidKinds := [.data, .data], laidTests := true, laidLooks := .later }
def KnowGrowsCardSaid : Prop := Claim7.holds Tryz.pinned (.plain (OpenSpec.ofChange knowGrowsSpec)) knowGrowsCard

/-- THE TIED CARD OF 'agoralaw24.KnowRecovers'. -/
def knowRecoversCard : Claim7 := { stood := { row := knowRecoversRow, standIns := [], harness := (true, "348f1396a4d9c70176be46d34d4cbdf5781c0819b8150f3338166d48f2d2c722"), looks := false }, kinds := [], alts := [], laidByText := true, laidKinds := [.data, .data], laidTests := true, laidLooks := .later }
def KnowRecoversCardSaid : Prop := Claim7.holds Tryz.pinned (.plain (OpenSpec.ofChange knowRecoversSpec)) knowRecoversCard

/-- THE SECOND FORM's CARD OF 'agoralaw24.KnowReaders'. -/
def knowReadersUptoCard : Claim7 := { stood := { row := knowReadersUptoRow, standIns := [], harness := (true, "348f1396a4d9c70176be46d34d4cbdf5781c0819b8150f3338166d48f2d2c722"), looks := false }, kinds := [], alts := [], laidByText := true, laidKinds := [.data, .data], laidTests := true, laidLooks := .later }
def KnowReadersUptoCardSaid : Prop := Claim7.holds Tryz.pinned (.plain (OpenSpec.upto knowReadersSpec)) knowReadersUptoCard

/-- THE SECOND FORM's CARD OF 'agoralaw24.KnowSound'. -/
def knowSoundUptoCard : Claim7 := { stood := { row := knowSoundUptoRow, standIns := [], harness := (true, "348f1396a4d9c70176be46d34d4cbdf5781c0819b8150f3338166d48f2d2c722"), looks := false }, kinds := [], alts := [], laidByText := true, laidKinds := [.data, .data], laidTests := true, laidLooks := .later }
def KnowSoundUptoCardSaid : Prop := Claim7.holds Tryz.pinned (.plain (OpenSpec.upto knowSoundSpec)) knowSoundUptoCard

/-- THE SECOND FORM's CARD OF 'agoralaw24.KnowGrows'. -/
def knowGrowsUptoCard : Claim7 := { stood := { row := knowGrowsUptoRow, standIns := [], harness := (true, "348f1396a4d9c70176be46d34d4cbdf5781c0819b8150f3338166d48f2d2c722"), looks := false }, kinds := [], alts := [], laidByText := true, laidKinds := [.data, .data], laidTests := true, laidLooks := .later }
def KnowGrowsUptoCardSaid : Prop := Claim7.holds Tryz.pinned (.plain (OpenSpec.upto knowGrowsSpec)) knowGrowsUptoCard

/-- THE SECOND FORM's CARD OF 'agoralaw24.KnowRecovers'. -/
def knowRecoversUptoCard : Claim7 := { stood := { row := knowRecoversUptoRow, standIns := [], harness := (true, "348f1396a4d9c70176be46d34d4cbdf5781c0819b8150f3338166d48f2d2c722"), looks := false }, kinds := [], alts := [], laidByText := true, laidKinds := [.data, .data], laidTests := true, laidLooks := .later }
def KnowRecoversUptoCardSaid : Prop := Claim7.holds Tryz.pinned (.plain (OpenSpec.upto knowRecoversSpec)) knowRecoversUptoCard
end Rows
end Go.Proofs.YtbemmjnjoabadaaGreatDoor
