/-
  DERIVED. GIVEN WITH THE SEED: THE CARDS: each row of YtppbplchdfhnkaaDoorRows.lean that lists a variable, with what it lists TIED to the program's text (the seventh form; the later family's looks); each row that meets fmt, with fmt's text TOLD by the authors' own Lean function (tested against real Go, not proved from fmt's source: count such statements apart). THE CARD IS WHAT COUNTS. Prove the row's statement (the work); the ties are given (YtppbplchdfhnkaaDoorTie.lean); close each card by the builder's one call (the guide's Derived/Test/ToyasCard.lean, 'card_holds'). Laid BY PROGRAM, IN A SANDBOX (cutbox-door.mjs). By AI agents, Wed Nov 11 2026. No macro, syntax, notation, axiom, sorry.
-/
import Derived.Test.YtppbplchdfhnkaaDoorRows
import GoSem.ClaimSeven
namespace Go.Proofs.YtppbplchdfhnkaaDoor
namespace Rows

/-- THE TIED CARD OF 'agoralaw06.SealTells'. -/
def sealTellsCard : Claim7 := { stood := { row := sealTellsRow, standIns := [], harness := (true, "1bacc745ea9c570602a1c356fb013927a8a32bca1a6a32cc896bc1f6f06a5cc1"), looks := false }, kinds := [], alts := [], laidByText := true, laidKinds := [.data, .data], laidTests := true, laidLooks := .later }
def SealTellsCardSaid : Prop := Claim7.holds Tryd.pinned (.plain (OpenSpec.ofChange sealTellsSpec)) sealTellsCard

/-- THE TIED CARD OF 'agoralaw06.SealOpens'. -/
def sealOpensCard : Claim7 := { stood := { row := sealOpensRow, standIns := [], harness := (true, "1bacc745ea9c570602a1c356fb013927a8a32bca1a6a32cc896bc1f6f06a5cc1"), looks := false }, kinds := [], alts := [], laidByText := true, laidKinds := [.data, .data], laidTests := true, laidLooks := .later }
def SealOpensCardSaid : Prop := Claim7.holds Tryd.pinned (.plain (OpenSpec.ofChange sealOpensSpec)) sealOpensCard

/-- THE TIED CARD OF 'agoralaw06.SealStreams'. -/
def sealStreamsCard : Claim7 := { stood := { row := sealStreamsRow, standIns := [], harness := (true, "1bacc745ea9c570602a1c356fb013927a8a32bca1a6a32cc896bc1f6f06a5cc1"), looks := false }, kinds := [], alts := [], laidByText := true, laidKinds := [.data, .data], laidTests := true, laidLooks := .later }
def SealStreamsCardSaid : Prop := Claim7.holds Tryd.pinned (.plain (OpenSpec.ofChange sealStreamsSpec)) sealStreamsCard

/-- THE TIED CARD OF 'agoralaw06.SealWraps'. -/
def sealWrapsCard : Claim7 := { stood := { row := sealWrapsRow, standIns := [], harness := (true, "1bacc745ea9c570602a1c356fb013927a8a32bca1a6a32cc896bc1f6f06a5cc1"), looks := false }, kinds := [], alts := [], laidByText := true, laidKinds := [.data, .data], laidTests := true, laidLooks := .later }
def SealWrapsCardSaid : Prop := Claim7.holds Tryd.pinned (.plain (OpenSpec.ofChange sealWrapsSpec)) sealWrapsCard

/-- THE TIED CARD OF 'agoralaw06.SealRefuses'. -/
def sealRefusesCard : Claim7 := { stood := { row := sealRefusesRow, standIns := [], harness := (true, "1bacc745ea9c570602a1c356fb013927a8a32bca1a6a32cc896bc1f6f06a5cc1"), looks := false }, kinds := [], alts := [], laidByText := true, laidKinds := [.data, .data], laidTests := true, laidLooks := .later }
def SealRefusesCardSaid : Prop := Claim7.holds Tryd.pinned (.plain (OpenSpec.ofChange sealRefusesSpec)) sealRefusesCard

/-- THE TIED CARD OF 'agoralaw07.ShareTells'. -/
def shareTellsCard : Claim7 := { stood := { row := shareTellsRow, standIns := [], harness := (true, "1bacc745ea9c570602a1c356fb013927a8a32bca1a6a32cc896bc1f6f06a5cc1"), looks := false }, kinds := [], alts := [], laidByText := true, laidKinds := [.data, .data], laidTests := true, laidLooks := .later }
def ShareTellsCardSaid : Prop := Claim7.holds Tryd.pinned (.plain (OpenSpec.ofChange shareTellsSpec)) shareTellsCard

/-- THE TIED CARD OF 'agoralaw07.ShareJoins'. -/
def shareJoinsCard : Claim7 := { stood := { row := shareJoinsRow, standIns := [], harness := (true, "1bacc745ea9c570602a1c356fb013927a8a32bca1a6a32cc896bc1f6f06a5cc1"), looks := false }, kinds := [], alts := [], laidByText := true, laidKinds := [.data, .data], laidTests := true, laidLooks := .later }
def ShareJoinsCardSaid : Prop := Claim7.holds Tryd.pinned (.plain (OpenSpec.ofChange shareJoinsSpec)) shareJoinsCard

/-- THE TIED CARD OF 'agoralaw07.ShareHides'. -/
def shareHidesCard : Claim7 := { stood := { row := shareHidesRow, standIns := [], harness := (true, "1bacc745ea9c570602a1c356fb013927a8a32bca1a6a32cc896bc1f6f06a5cc1"), looks := false }, kinds := [], alts := [], laidByText := true, laidKinds := [.data, .data], laidTests := true, laidLooks := .later }
def ShareHidesCardSaid : Prop := Claim7.holds Tryd.pinned (.plain (OpenSpec.ofChange shareHidesSpec)) shareHidesCard

/-- THE TIED CARD OF 'agoralaw07.ShareAdds'. -/
def shareAddsCard : Claim7 := { stood := { row := shareAddsRow, standIns := [], harness := (true, "1bacc745ea9c570602a1c356fb013927a8a32bca1a6a32cc896bc1f6f06a5cc1"), looks := false }, kinds := [], alts := [], laidByText := true, laidKinds := [.data, .data], laidTests := true, laidLooks := .later }
def ShareAddsCardSaid : Prop := Claim7.holds Tryd.pinned (.plain (OpenSpec.ofChange shareAddsSpec)) shareAddsCard

/-- THE TIED CARD OF 'agoralaw07.ShareDetects'. -/
def shareDetectsCard : Claim7 := { stood := { row := shareDetectsRow, standIns := [], harness := (true, "1bacc745ea9c570602a1c356fb013927a8a32bca1a6a32cc896bc1f6f06a5cc1"), looks := false }, kinds := [], alts := [], laidByText := true, laidKinds := [.data, .data], laidTests := true, laidLooks := .later }
def ShareDetectsCardSaid : Prop := Claim7.holds Tryd.pinned (.plain (OpenSpec.ofChange shareDetectsSpec)) shareDetectsCard

/-- THE TIED CARD OF 'agoralaw05.SignKeys'. -/
def signKeysCard : Claim7 := { stood := { row := signKeysRow, standIns := [], harness := (true, "1bacc745ea9c570602a1c356fb013927a8a32bca1a6a32cc896bc1f6f06a5cc1"), looks := false }, kinds := [], alts := [], laidByText := true, laidKinds := [.data, .data], laidTests := true, laidLooks := .later }
def SignKeysCardSaid : Prop := Claim7.holds Tryd.pinned (.plain (OpenSpec.ofChange signKeysSpec)) signKeysCard

/-- THE TIED CARD OF 'agoralaw05.SignTells'. -/
def signTellsCard : Claim7 := { stood := { row := signTellsRow, standIns := [], harness := (true, "1bacc745ea9c570602a1c356fb013927a8a32bca1a6a32cc896bc1f6f06a5cc1"), looks := false }, kinds := [], alts := [], laidByText := true, laidKinds := [.data, .data], laidTests := true, laidLooks := .later }
def SignTellsCardSaid : Prop := Claim7.holds Tryd.pinned (.plain (OpenSpec.ofChange signTellsSpec)) signTellsCard

/-- THE TIED CARD OF 'agoralaw05.SignVerifies'. -/
def signVerifiesCard : Claim7 := { stood := { row := signVerifiesRow, standIns := [], harness := (true, "1bacc745ea9c570602a1c356fb013927a8a32bca1a6a32cc896bc1f6f06a5cc1"), looks := false }, kinds := [], alts := [], laidByText := true, laidKinds := [.data, .data], laidTests := true, laidLooks := .later }
def SignVerifiesCardSaid : Prop := Claim7.holds Tryd.pinned (.plain (OpenSpec.ofChange signVerifiesSpec)) signVerifiesCard

/-- THE TIED CARD OF 'agoralaw05.SignHolds'. -/
def signHoldsCard : Claim7 := { stood := { row := signHoldsRow, standIns := [], harness := (true, "1bacc745ea9c570602a1c356fb013927a8a32bca1a6a32cc896bc1f6f06a5cc1"), looks := false }, kinds := [], alts := [], laidByText := true, laidKinds := [.data, .data], laidTests := true, laidLooks := .later }
def SignHoldsCardSaid : Prop := Claim7.holds Tryd.pinned (.plain (OpenSpec.ofChange signHoldsSpec)) signHoldsCard

/-- THE TIED CARD OF 'agoralaw05.SignBinds'. -/
def signBindsCard : Claim7 := { stood := { row := signBindsRow, standIns := [], harness := (true, "1bacc745ea9c570602a1c356fb013927a8a32bca1a6a32cc896bc1f6f06a5cc1"), looks := false }, kinds := [], alts := [], laidByText := true, laidKinds := [.data, .data], laidTests := true, laidLooks := .later }
def SignBindsCardSaid : Prop := Claim7.holds Tryd.pinned (.plain (OpenSpec.ofChange signBindsSpec)) signBindsCard

/-- THE TIED CARD OF 'agoralaw05.SignMoves'. -/
def signMovesCard : Claim7 := { stood := { row := signMovesRow, standIns := [], harness := (true, "1bacc745ea9c570602a1c356fb013927a8a32bca1a6a32cc896bc1f6f06a5cc1"), looks := false }, kinds := [], alts := [], laidByText := true, laidKinds := [.data, .data], laidTests := true, laidLooks := .later }
def SignMovesCardSaid : Prop := Claim7.holds Tryd.pinned (.plain (OpenSpec.ofChange signMovesSpec)) signMovesCard

/-- THE TIED CARD OF 'agoralaw05.SignSolves'. -/
def signSolvesCard : Claim7 := { stood := { row := signSolvesRow, standIns := [], harness := (true, "1bacc745ea9c570602a1c356fb013927a8a32bca1a6a32cc896bc1f6f06a5cc1"), looks := false }, kinds := [], alts := [], laidByText := true, laidKinds := [.data, .data], laidTests := true, laidLooks := .later }
def SignSolvesCardSaid : Prop := Claim7.holds Tryd.pinned (.plain (OpenSpec.ofChange signSolvesSpec)) signSolvesCard

/-- THE SECOND FORM's CARD OF 'agoralaw06.SealTells'. -/
def sealTellsUptoCard : Claim7 := { stood := { row := sealTellsUptoRow, standIns := [], harness := (true, "1bacc745ea9c570602a1c356fb013927a8a32bca1a6a32cc896bc1f6f06a5cc1"), looks := false }, kinds := [], alts := [], laidByText := true, laidKinds := [.data, .data], laidTests := true, laidLooks := .later }
def SealTellsUptoCardSaid : Prop := Claim7.holds Tryd.pinned (.plain (OpenSpec.upto sealTellsSpec)) sealTellsUptoCard

/-- THE SECOND FORM's CARD OF 'agoralaw06.SealOpens'. -/
def sealOpensUptoCard : Claim7 := { stood := { row := sealOpensUptoRow, standIns := [], harness := (true, "1bacc745ea9c570602a1c356fb013927a8a32bca1a6a32cc896bc1f6f06a5cc1"), looks := false }, kinds := [], alts := [], laidByText := true, laidKinds := [.data, .data], laidTests := true, laidLooks := .later }
def SealOpensUptoCardSaid : Prop := Claim7.holds Tryd.pinned (.plain (OpenSpec.upto sealOpensSpec)) sealOpensUptoCard

/-- THE SECOND FORM's CARD OF 'agoralaw06.SealStreams'. -/
def sealStreamsUptoCard : Claim7 := { stood := { row := sealStreamsUptoRow, standIns := [], harness := (true, "1bacc745ea9c570602a1c356fb013927a8a32bca1a6a32cc896bc1f6f06a5cc1"), looks := false }, kinds := [], alts := [], laidByText := true, laidKinds := [.data, .data], laidTests := true, laidLooks := .later }
def SealStreamsUptoCardSaid : Prop := Claim7.holds Tryd.pinned (.plain (OpenSpec.upto sealStreamsSpec)) sealStreamsUptoCard

/-- THE SECOND FORM's CARD OF 'agoralaw06.SealWraps'. -/
def sealWrapsUptoCard : Claim7 := { stood := { row := sealWrapsUptoRow, standIns := [], harness := (true, "1bacc745ea9c570602a1c356fb013927a8a32bca1a6a32cc896bc1f6f06a5cc1"), looks := false }, kinds := [], alts := [], laidByText := true, laidKinds := [.data, .data], laidTests := true, laidLooks := .later }
def SealWrapsUptoCardSaid : Prop := Claim7.holds Tryd.pinned (.plain (OpenSpec.upto sealWrapsSpec)) sealWrapsUptoCard

/-- THE SECOND FORM's CARD OF 'agoralaw06.SealRefuses'. -/
def sealRefusesUptoCard : Claim7 := { stood := { row := sealRefusesUptoRow, standIns := [], harness := (true, "1bacc745ea9c570602a1c356fb013927a8a32bca1a6a32cc896bc1f6f06a5cc1"), looks := false }, kinds := [], alts := [], laidByText := true, laidKinds := [.data, .data], laidTests := true, laidLooks := .later }
def SealRefusesUptoCardSaid : Prop := Claim7.holds Tryd.pinned (.plain (OpenSpec.upto sealRefusesSpec)) sealRefusesUptoCard

/-- THE SECOND FORM's CARD OF 'agoralaw07.ShareTells'. -/
def shareTellsUptoCard : Claim7 := { stood := { row := shareTellsUptoRow, standIns := [], harness := (true, "1bacc745ea9c570602a1c356fb013927a8a32bca1a6a32cc896bc1f6f06a5cc1"), looks := false }, kinds := [], alts := [], laidByText := true, laidKinds := [.data, .data], laidTests := true, laidLooks := .later }
def ShareTellsUptoCardSaid : Prop := Claim7.holds Tryd.pinned (.plain (OpenSpec.upto shareTellsSpec)) shareTellsUptoCard

/-- THE SECOND FORM's CARD OF 'agoralaw07.ShareJoins'. -/
def shareJoinsUptoCard : Claim7 := { stood := { row := shareJoinsUptoRow, standIns := [], harness := (true, "1bacc745ea9c570602a1c356fb013927a8a32bca1a6a32cc896bc1f6f06a5cc1"), looks := false }, kinds := [], alts := [], laidByText := true, laidKinds := [.data, .data], laidTests := true, laidLooks := .later }
def ShareJoinsUptoCardSaid : Prop := Claim7.holds Tryd.pinned (.plain (OpenSpec.upto shareJoinsSpec)) shareJoinsUptoCard

/-- THE SECOND FORM's CARD OF 'agoralaw07.ShareHides'. -/
def shareHidesUptoCard : Claim7 := { stood := { row := shareHidesUptoRow, standIns := [], harness := (true, "1bacc745ea9c570602a1c356fb013927a8a32bca1a6a32cc896bc1f6f06a5cc1"), looks := false }, kinds := [], alts := [], laidByText := true, laidKinds := [.data, .data], laidTests := true, laidLooks := .later }
def ShareHidesUptoCardSaid : Prop := Claim7.holds Tryd.pinned (.plain (OpenSpec.upto shareHidesSpec)) shareHidesUptoCard

/-- THE SECOND FORM's CARD OF 'agoralaw07.ShareAdds'. -/
def shareAddsUptoCard : Claim7 := { stood := { row := shareAddsUptoRow, standIns := [], harness := (true, "1bacc745ea9c570602a1c356fb013927a8a32bca1a6a32cc896bc1f6f06a5cc1"), looks := false }, kinds := [], alts := [], laidByText := true, laidKinds := [.data, .data], laidTests := true, laidLooks := .later }
def ShareAddsUptoCardSaid : Prop := Claim7.holds Tryd.pinned (.plain (OpenSpec.upto shareAddsSpec)) shareAddsUptoCard

/-- THE SECOND FORM's CARD OF 'agoralaw07.ShareDetects'. -/
def shareDetectsUptoCard : Claim7 := { stood := { row := shareDetectsUptoRow, standIns := [], harness := (true, "1bacc745ea9c570602a1c356fb013927a8a32bca1a6a32cc896bc1f6f06a5cc1"), looks := false }, kinds := [], alts := [], laidByText := true, laidKinds := [.data, .data], laidTests := true, laidLooks := .later }
def ShareDetectsUptoCardSaid : Prop := Claim7.holds Tryd.pinned (.plain (OpenSpec.upto shareDetectsSpec)) shareDetectsUptoCard

/-- THE SECOND FORM's CARD OF 'agoralaw05.SignKeys'. -/
def signKeysUptoCard : Claim7 := { stood := { row := signKeysUptoRow, standIns := [], harness := (true, "1bacc745ea9c570602a1c356fb013927a8a32bca1a6a32cc896bc1f6f06a5cc1"), looks := false }, kinds := [], alts := [], laidByText := true, laidKinds := [.data, .data], laidTests := true, laidLooks := .later }
def SignKeysUptoCardSaid : Prop := Claim7.holds Tryd.pinned (.plain (OpenSpec.upto signKeysSpec)) signKeysUptoCard

/-- THE SECOND FORM's CARD OF 'agoralaw05.SignTells'. -/
def signTellsUptoCard : Claim7 := { stood := { row := signTellsUptoRow, standIns := [], harness := (true, "1bacc745ea9c570602a1c356fb013927a8a32bca1a6a32cc896bc1f6f06a5cc1"), looks := false }, kinds := [], alts := [], laidByText := true, laidKinds := [.data, .data], laidTests := true, laidLooks := .later }
def SignTellsUptoCardSaid : Prop := Claim7.holds Tryd.pinned (.plain (OpenSpec.upto signTellsSpec)) signTellsUptoCard

/-- THE SECOND FORM's CARD OF 'agoralaw05.SignVerifies'. -/
def signVerifiesUptoCard : Claim7 := { stood := { row := signVerifiesUptoRow, standIns := [], harness := (true, "1bacc745ea9c570602a1c356fb013927a8a32bca1a6a32cc896bc1f6f06a5cc1"), looks := false }, kinds := [], alts := [], laidByText := true, laidKinds := [.data, .data], laidTests := true, laidLooks := .later }
def SignVerifiesUptoCardSaid : Prop := Claim7.holds Tryd.pinned (.plain (OpenSpec.upto signVerifiesSpec)) signVerifiesUptoCard

/-- THE SECOND FORM's CARD OF 'agoralaw05.SignHolds'. -/
def signHoldsUptoCard : Claim7 := { stood := { row := signHoldsUptoRow, standIns := [], harness := (true, "1bacc745ea9c570602a1c356fb013927a8a32bca1a6a32cc896bc1f6f06a5cc1"), looks := false }, kinds := [], alts := [], laidByText := true, laidKinds := [.data, .data], laidTests := true, laidLooks := .later }
def SignHoldsUptoCardSaid : Prop := Claim7.holds Tryd.pinned (.plain (OpenSpec.upto signHoldsSpec)) signHoldsUptoCard

/-- THE SECOND FORM's CARD OF 'agoralaw05.SignBinds'. -/
def signBindsUptoCard : Claim7 := { stood := { row := signBindsUptoRow, standIns := [], harness := (true, "1bacc745ea9c570602a1c356fb013927a8a32bca1a6a32cc896bc1f6f06a5cc1"), looks := false }, kinds := [], alts := [], laidByText := true, laidKinds := [.data, .data], laidTests := true, laidLooks := .later }
def SignBindsUptoCardSaid : Prop := Claim7.holds Tryd.pinned (.plain (OpenSpec.upto signBindsSpec)) signBindsUptoCard

/-- THE SECOND FORM's CARD OF 'agoralaw05.SignMoves'. -/
def signMovesUptoCard : Claim7 := { stood := { row := signMovesUptoRow, standIns := [], harness := (true, "1bacc745ea9c570602a1c356fb013927a8a32bca1a6a32cc896bc1f6f06a5cc1"), looks := false }, kinds := [], alts := [], laidByText := true, laidKinds := [.data, .data], laidTests := true, laidLooks := .later }
def SignMovesUptoCardSaid : Prop := Claim7.holds Tryd.pinned (.plain (OpenSpec.upto signMovesSpec)) signMovesUptoCard

/-- THE SECOND FORM's CARD OF 'agoralaw05.SignSolves'. -/
def signSolvesUptoCard : Claim7 := { stood := { row := signSolvesUptoRow, standIns := [], harness := (true, "1bacc745ea9c570602a1c356fb013927a8a32bca1a6a32cc896bc1f6f06a5cc1"), looks := false }, kinds := [], alts := [], laidByText := true, laidKinds := [.data, .data], laidTests := true, laidLooks := .later }
def SignSolvesUptoCardSaid : Prop := Claim7.holds Tryd.pinned (.plain (OpenSpec.upto signSolvesSpec)) signSolvesUptoCard
end Rows
end Go.Proofs.YtppbplchdfhnkaaDoor
