/-
  NARROWER THAN 'FOR EVERY INPUT', by the rows' own cells (each row's printed sentence says how): SealTells: laid · SealOpens: laid · SealStreams: laid · SealWraps: laid · SealRefuses: laid · ShareTells: laid · ShareJoins: laid · ShareHides: laid · ShareAdds: laid · ShareDetects: laid · SignKeys: laid · SignTells: laid · SignVerifies: laid · SignHolds: laid · SignBinds: laid · SignMoves: laid · SignSolves: laid.
  DERIVED. THE GIVEN ROWS OF THIS SEAT. 17 by the template 'for every input the law returns true; each argument reads behind the call as it read before'; 0 by the template 'total and deterministic' (their statements: YtppbplchdfhnkaaDoorTotals.lean).
  GIVEN WITH THE SEED: the statements are not yours to turn. If you find one false, say at which input.
  Laid BY PROGRAM, IN A SANDBOX (cutbox-rows.mjs): the forced cells as the released guide's own fill.sh prints them over the translation e583c4ec9844e359… (all of the seat's roots in one cut). By AI agents, Wed Nov 11 2026. No macro, syntax, notation, axiom, sorry.
-/
import Derived.Test.YtppbplchdfhnkaaDoorChecked
import GoSem.Claim
import GoSem.ClaimJoined
import GoSem.ClaimMapViews
import Derived.JoinedTies
import Derived.KernelRfl
namespace Go.Proofs.YtppbplchdfhnkaaDoor
/- THE CELL 'sum', in the pinned program and in every row, IS THE sha256 OF THE DUMP (.gsa) THAT YtppbplchdfhnkaaDoorProg.lean LOADS. Nothing in Lean hashes anything: it is a label: what it is worth is what the hold of that sum in a sandbox is worth. -/
noncomputable def Tryd.pinned : Pinned := { name := "ytppbplchdfhnkaadoor", sum := "e583c4ec9844e35958cbede41e9b5d53906c67d32adfffddae853728f4f1abe9", checked := Tryd.checked }
namespace Rows
def none {H : Type} : Left H := { results := [], args := [] }

/- WHAT THE LISTED PACKAGE-LEVEL VARIABLES READ AS WHEN THE CALL BEGINS. Each datum BY PROGRAM (the guide's laid-datum.mjs) off the statement by which the dump's own 'gosem.cut.vars' lays the variable. In a bare row this is a premise. The card (YtppbplchdfhnkaaDoorCards.lean) ties it to the program's text. -/
def laid_agora_sum_constants {H : Type} : DataW H := .agg [.lit (.int .u32 1116352408), .lit (.int .u32 1899447441), .lit (.int .u32 3049323471), .lit (.int .u32 3921009573), .lit (.int .u32 961987163), .lit (.int .u32 1508970993), .lit (.int .u32 2453635748), .lit (.int .u32 2870763221), .lit (.int .u32 3624381080), .lit (.int .u32 310598401), .lit (.int .u32 607225278), .lit (.int .u32 1426881987), .lit (.int .u32 1925078388), .lit (.int .u32 2162078206), .lit (.int .u32 2614888103), .lit (.int .u32 3248222580), .lit (.int .u32 3835390401), .lit (.int .u32 4022224774), .lit (.int .u32 264347078), .lit (.int .u32 604807628), .lit (.int .u32 770255983), .lit (.int .u32 1249150122), .lit (.int .u32 1555081692), .lit (.int .u32 1996064986), .lit (.int .u32 2554220882), .lit (.int .u32 2821834349), .lit (.int .u32 2952996808), .lit (.int .u32 3210313671), .lit (.int .u32 3336571891), .lit (.int .u32 3584528711), .lit (.int .u32 113926993), .lit (.int .u32 338241895), .lit (.int .u32 666307205), .lit (.int .u32 773529912), .lit (.int .u32 1294757372), .lit (.int .u32 1396182291), .lit (.int .u32 1695183700), .lit (.int .u32 1986661051), .lit (.int .u32 2177026350), .lit (.int .u32 2456956037), .lit (.int .u32 2730485921), .lit (.int .u32 2820302411), .lit (.int .u32 3259730800), .lit (.int .u32 3345764771), .lit (.int .u32 3516065817), .lit (.int .u32 3600352804), .lit (.int .u32 4094571909), .lit (.int .u32 275423344), .lit (.int .u32 430227734), .lit (.int .u32 506948616), .lit (.int .u32 659060556), .lit (.int .u32 883997877), .lit (.int .u32 958139571), .lit (.int .u32 1322822218), .lit (.int .u32 1537002063), .lit (.int .u32 1747873779), .lit (.int .u32 1955562222), .lit (.int .u32 2024104815), .lit (.int .u32 2227730452), .lit (.int .u32 2361852424), .lit (.int .u32 2428436474), .lit (.int .u32 2756734187), .lit (.int .u32 3204031479), .lit (.int .u32 3329325298)]
def laid_agora_sum_initial {H : Type} : DataW H := .agg [.lit (.int .u32 1779033703), .lit (.int .u32 3144134277), .lit (.int .u32 1013904242), .lit (.int .u32 2773480762), .lit (.int .u32 1359893119), .lit (.int .u32 2600822924), .lit (.int .u32 528734635), .lit (.int .u32 1541459225)]

/-- 'agoralaw06.SealTells': WHATEVER THE INPUT: true; the input reads as it did. -/
def sealTellsSpec : ChangeSpec := { name := "sealTells", fn := fun _ => fun
  | [d] => { results := [.lit (.bool true)], args := [d] }
  | _ => none }
def sealTellsRow : OpenClaim := { program := "ytppbplchdfhnkaadoor", sum := "e583c4ec9844e35958cbede41e9b5d53906c67d32adfffddae853728f4f1abe9", func := "agora/agoralaw06.SealTells", spec := "sealTells", unfollowed := true, recurses := true, named := ["agora/sum.initial", "agora/sum.constants", "math/bits.divideError", "math/bits.overflowError"], apart := false, laid := [("agora/sum.constants", laid_agora_sum_constants), ("agora/sum.initial", laid_agora_sum_initial)] }
def SealTellsSaid : Prop := sealTellsRow.holds Tryd.pinned (OpenSpec.ofChange sealTellsSpec)

/-- ITS FALSE NEIGHBOUR: 'it returns false'. Refute it at one input. -/
def sealTellsWrong : ChangeSpec := { name := "sealTells", fn := fun _ => fun
  | [d] => { results := [.lit (.bool false)], args := [d] }
  | _ => none }
def SealTellsWrongFalsely : Prop := sealTellsRow.holds Tryd.pinned (OpenSpec.ofChange sealTellsWrong)

/-- 'agoralaw06.SealOpens': WHATEVER THE INPUT: true; the input reads as it did. -/
def sealOpensSpec : ChangeSpec := { name := "sealOpens", fn := fun _ => fun
  | [d1, d2, d3, d4] => { results := [.lit (.bool true)], args := [d1, d2, d3, d4] }
  | _ => none }
def sealOpensRow : OpenClaim := { program := "ytppbplchdfhnkaadoor", sum := "e583c4ec9844e35958cbede41e9b5d53906c67d32adfffddae853728f4f1abe9", func := "agora/agoralaw06.SealOpens", spec := "sealOpens", unfollowed := true, recurses := true, named := ["agora/sum.initial", "agora/sum.constants", "math/bits.divideError", "math/bits.overflowError"], apart := false, laid := [("agora/sum.constants", laid_agora_sum_constants), ("agora/sum.initial", laid_agora_sum_initial)] }
def SealOpensSaid : Prop := sealOpensRow.holds Tryd.pinned (OpenSpec.ofChange sealOpensSpec)

/-- ITS FALSE NEIGHBOUR: 'it returns false'. Refute it at one input. -/
def sealOpensWrong : ChangeSpec := { name := "sealOpens", fn := fun _ => fun
  | [d1, d2, d3, d4] => { results := [.lit (.bool false)], args := [d1, d2, d3, d4] }
  | _ => none }
def SealOpensWrongFalsely : Prop := sealOpensRow.holds Tryd.pinned (OpenSpec.ofChange sealOpensWrong)

/-- 'agoralaw06.SealStreams': WHATEVER THE INPUT: true; the input reads as it did. -/
def sealStreamsSpec : ChangeSpec := { name := "sealStreams", fn := fun _ => fun
  | [d1, d2, d3, d4] => { results := [.lit (.bool true)], args := [d1, d2, d3, d4] }
  | _ => none }
def sealStreamsRow : OpenClaim := { program := "ytppbplchdfhnkaadoor", sum := "e583c4ec9844e35958cbede41e9b5d53906c67d32adfffddae853728f4f1abe9", func := "agora/agoralaw06.SealStreams", spec := "sealStreams", unfollowed := true, recurses := true, named := ["agora/sum.initial", "agora/sum.constants", "math/bits.divideError", "math/bits.overflowError"], apart := false, laid := [("agora/sum.constants", laid_agora_sum_constants), ("agora/sum.initial", laid_agora_sum_initial)] }
def SealStreamsSaid : Prop := sealStreamsRow.holds Tryd.pinned (OpenSpec.ofChange sealStreamsSpec)

/-- ITS FALSE NEIGHBOUR: 'it returns false'. Refute it at one input. -/
def sealStreamsWrong : ChangeSpec := { name := "sealStreams", fn := fun _ => fun
  | [d1, d2, d3, d4] => { results := [.lit (.bool false)], args := [d1, d2, d3, d4] }
  | _ => none }
def SealStreamsWrongFalsely : Prop := sealStreamsRow.holds Tryd.pinned (OpenSpec.ofChange sealStreamsWrong)

/-- 'agoralaw06.SealWraps': WHATEVER THE INPUT: true; the input reads as it did. -/
def sealWrapsSpec : ChangeSpec := { name := "sealWraps", fn := fun _ => fun
  | [d1, d2, d3] => { results := [.lit (.bool true)], args := [d1, d2, d3] }
  | _ => none }
def sealWrapsRow : OpenClaim := { program := "ytppbplchdfhnkaadoor", sum := "e583c4ec9844e35958cbede41e9b5d53906c67d32adfffddae853728f4f1abe9", func := "agora/agoralaw06.SealWraps", spec := "sealWraps", unfollowed := true, recurses := true, named := ["agora/sum.initial", "agora/sum.constants", "math/bits.divideError", "math/bits.overflowError"], apart := false, laid := [("agora/sum.constants", laid_agora_sum_constants), ("agora/sum.initial", laid_agora_sum_initial)] }
def SealWrapsSaid : Prop := sealWrapsRow.holds Tryd.pinned (OpenSpec.ofChange sealWrapsSpec)

/-- ITS FALSE NEIGHBOUR: 'it returns false'. Refute it at one input. -/
def sealWrapsWrong : ChangeSpec := { name := "sealWraps", fn := fun _ => fun
  | [d1, d2, d3] => { results := [.lit (.bool false)], args := [d1, d2, d3] }
  | _ => none }
def SealWrapsWrongFalsely : Prop := sealWrapsRow.holds Tryd.pinned (OpenSpec.ofChange sealWrapsWrong)

/-- 'agoralaw06.SealRefuses': WHATEVER THE INPUT: true; the input reads as it did. -/
def sealRefusesSpec : ChangeSpec := { name := "sealRefuses", fn := fun _ => fun
  | [d1, d2, d3, d4] => { results := [.lit (.bool true)], args := [d1, d2, d3, d4] }
  | _ => none }
def sealRefusesRow : OpenClaim := { program := "ytppbplchdfhnkaadoor", sum := "e583c4ec9844e35958cbede41e9b5d53906c67d32adfffddae853728f4f1abe9", func := "agora/agoralaw06.SealRefuses", spec := "sealRefuses", unfollowed := true, recurses := true, named := ["agora/sum.initial", "agora/sum.constants", "math/bits.divideError", "math/bits.overflowError"], apart := false, laid := [("agora/sum.constants", laid_agora_sum_constants), ("agora/sum.initial", laid_agora_sum_initial)] }
def SealRefusesSaid : Prop := sealRefusesRow.holds Tryd.pinned (OpenSpec.ofChange sealRefusesSpec)

/-- ITS FALSE NEIGHBOUR: 'it returns false'. Refute it at one input. -/
def sealRefusesWrong : ChangeSpec := { name := "sealRefuses", fn := fun _ => fun
  | [d1, d2, d3, d4] => { results := [.lit (.bool false)], args := [d1, d2, d3, d4] }
  | _ => none }
def SealRefusesWrongFalsely : Prop := sealRefusesRow.holds Tryd.pinned (OpenSpec.ofChange sealRefusesWrong)

/-- 'agoralaw07.ShareTells': WHATEVER THE INPUT: true; the input reads as it did. -/
def shareTellsSpec : ChangeSpec := { name := "shareTells", fn := fun _ => fun
  | [d1, d2, d3, d4, d5] => { results := [.lit (.bool true)], args := [d1, d2, d3, d4, d5] }
  | _ => none }
def shareTellsRow : OpenClaim := { program := "ytppbplchdfhnkaadoor", sum := "e583c4ec9844e35958cbede41e9b5d53906c67d32adfffddae853728f4f1abe9", func := "agora/agoralaw07.ShareTells", spec := "shareTells", recurses := true, named := ["agora/sum.initial", "agora/sum.constants", "math/bits.divideError", "math/bits.overflowError"], apart := false, laid := [("agora/sum.constants", laid_agora_sum_constants), ("agora/sum.initial", laid_agora_sum_initial)] }
def ShareTellsSaid : Prop := shareTellsRow.holds Tryd.pinned (OpenSpec.ofChange shareTellsSpec)

/-- ITS FALSE NEIGHBOUR: 'it returns false'. Refute it at one input. -/
def shareTellsWrong : ChangeSpec := { name := "shareTells", fn := fun _ => fun
  | [d1, d2, d3, d4, d5] => { results := [.lit (.bool false)], args := [d1, d2, d3, d4, d5] }
  | _ => none }
def ShareTellsWrongFalsely : Prop := shareTellsRow.holds Tryd.pinned (OpenSpec.ofChange shareTellsWrong)

/-- 'agoralaw07.ShareJoins': WHATEVER THE INPUT: true; the input reads as it did. -/
def shareJoinsSpec : ChangeSpec := { name := "shareJoins", fn := fun _ => fun
  | [d1, d2, d3, d4, d5, d6] => { results := [.lit (.bool true)], args := [d1, d2, d3, d4, d5, d6] }
  | _ => none }
def shareJoinsRow : OpenClaim := { program := "ytppbplchdfhnkaadoor", sum := "e583c4ec9844e35958cbede41e9b5d53906c67d32adfffddae853728f4f1abe9", func := "agora/agoralaw07.ShareJoins", spec := "shareJoins", named := ["agora/sum.initial", "agora/sum.constants", "math/bits.divideError", "math/bits.overflowError"], apart := false, laid := [("agora/sum.constants", laid_agora_sum_constants), ("agora/sum.initial", laid_agora_sum_initial)] }
def ShareJoinsSaid : Prop := shareJoinsRow.holds Tryd.pinned (OpenSpec.ofChange shareJoinsSpec)

/-- ITS FALSE NEIGHBOUR: 'it returns false'. Refute it at one input. -/
def shareJoinsWrong : ChangeSpec := { name := "shareJoins", fn := fun _ => fun
  | [d1, d2, d3, d4, d5, d6] => { results := [.lit (.bool false)], args := [d1, d2, d3, d4, d5, d6] }
  | _ => none }
def ShareJoinsWrongFalsely : Prop := shareJoinsRow.holds Tryd.pinned (OpenSpec.ofChange shareJoinsWrong)

/-- 'agoralaw07.ShareHides': WHATEVER THE INPUT: true; the input reads as it did. -/
def shareHidesSpec : ChangeSpec := { name := "shareHides", fn := fun _ => fun
  | [d1, d2] => { results := [.lit (.bool true)], args := [d1, d2] }
  | _ => none }
def shareHidesRow : OpenClaim := { program := "ytppbplchdfhnkaadoor", sum := "e583c4ec9844e35958cbede41e9b5d53906c67d32adfffddae853728f4f1abe9", func := "agora/agoralaw07.ShareHides", spec := "shareHides", named := ["agora/sum.initial", "agora/sum.constants", "math/bits.divideError", "math/bits.overflowError"], apart := false, laid := [("agora/sum.constants", laid_agora_sum_constants), ("agora/sum.initial", laid_agora_sum_initial)] }
def ShareHidesSaid : Prop := shareHidesRow.holds Tryd.pinned (OpenSpec.ofChange shareHidesSpec)

/-- ITS FALSE NEIGHBOUR: 'it returns false'. Refute it at one input. -/
def shareHidesWrong : ChangeSpec := { name := "shareHides", fn := fun _ => fun
  | [d1, d2] => { results := [.lit (.bool false)], args := [d1, d2] }
  | _ => none }
def ShareHidesWrongFalsely : Prop := shareHidesRow.holds Tryd.pinned (OpenSpec.ofChange shareHidesWrong)

/-- 'agoralaw07.ShareAdds': WHATEVER THE INPUT: true; the input reads as it did. -/
def shareAddsSpec : ChangeSpec := { name := "shareAdds", fn := fun _ => fun
  | [d1, d2, d3] => { results := [.lit (.bool true)], args := [d1, d2, d3] }
  | _ => none }
def shareAddsRow : OpenClaim := { program := "ytppbplchdfhnkaadoor", sum := "e583c4ec9844e35958cbede41e9b5d53906c67d32adfffddae853728f4f1abe9", func := "agora/agoralaw07.ShareAdds", spec := "shareAdds", named := ["agora/sum.initial", "agora/sum.constants", "math/bits.divideError", "math/bits.overflowError"], apart := false, laid := [("agora/sum.constants", laid_agora_sum_constants), ("agora/sum.initial", laid_agora_sum_initial)] }
def ShareAddsSaid : Prop := shareAddsRow.holds Tryd.pinned (OpenSpec.ofChange shareAddsSpec)

/-- ITS FALSE NEIGHBOUR: 'it returns false'. Refute it at one input. -/
def shareAddsWrong : ChangeSpec := { name := "shareAdds", fn := fun _ => fun
  | [d1, d2, d3] => { results := [.lit (.bool false)], args := [d1, d2, d3] }
  | _ => none }
def ShareAddsWrongFalsely : Prop := shareAddsRow.holds Tryd.pinned (OpenSpec.ofChange shareAddsWrong)

/-- 'agoralaw07.ShareDetects': WHATEVER THE INPUT: true; the input reads as it did. -/
def shareDetectsSpec : ChangeSpec := { name := "shareDetects", fn := fun _ => fun
  | [d1, d2, d3, d4, d5, d6] => { results := [.lit (.bool true)], args := [d1, d2, d3, d4, d5, d6] }
  | _ => none }
def shareDetectsRow : OpenClaim := { program := "ytppbplchdfhnkaadoor", sum := "e583c4ec9844e35958cbede41e9b5d53906c67d32adfffddae853728f4f1abe9", func := "agora/agoralaw07.ShareDetects", spec := "shareDetects", named := ["agora/sum.initial", "agora/sum.constants", "math/bits.divideError", "math/bits.overflowError"], apart := false, laid := [("agora/sum.constants", laid_agora_sum_constants), ("agora/sum.initial", laid_agora_sum_initial)] }
def ShareDetectsSaid : Prop := shareDetectsRow.holds Tryd.pinned (OpenSpec.ofChange shareDetectsSpec)

/-- ITS FALSE NEIGHBOUR: 'it returns false'. Refute it at one input. -/
def shareDetectsWrong : ChangeSpec := { name := "shareDetects", fn := fun _ => fun
  | [d1, d2, d3, d4, d5, d6] => { results := [.lit (.bool false)], args := [d1, d2, d3, d4, d5, d6] }
  | _ => none }
def ShareDetectsWrongFalsely : Prop := shareDetectsRow.holds Tryd.pinned (OpenSpec.ofChange shareDetectsWrong)

/-- 'agoralaw05.SignKeys': WHATEVER THE INPUT: true; the input reads as it did. -/
def signKeysSpec : ChangeSpec := { name := "signKeys", fn := fun _ => fun
  | [d1, d2, d3] => { results := [.lit (.bool true)], args := [d1, d2, d3] }
  | _ => none }
def signKeysRow : OpenClaim := { program := "ytppbplchdfhnkaadoor", sum := "e583c4ec9844e35958cbede41e9b5d53906c67d32adfffddae853728f4f1abe9", func := "agora/agoralaw05.SignKeys", spec := "signKeys", inPlace := ["internal/abi.NoEscape", "internal/bytealg.MakeNoZero"], recurses := true, named := ["agora/sum.initial", "agora/sum.constants", "math/bits.divideError", "math/bits.overflowError"], apart := false, laid := [("agora/sum.constants", laid_agora_sum_constants), ("agora/sum.initial", laid_agora_sum_initial)] }
def SignKeysSaid : Prop := signKeysRow.holds Tryd.pinned (OpenSpec.ofChange signKeysSpec)

/-- ITS FALSE NEIGHBOUR: 'it returns false'. Refute it at one input. -/
def signKeysWrong : ChangeSpec := { name := "signKeys", fn := fun _ => fun
  | [d1, d2, d3] => { results := [.lit (.bool false)], args := [d1, d2, d3] }
  | _ => none }
def SignKeysWrongFalsely : Prop := signKeysRow.holds Tryd.pinned (OpenSpec.ofChange signKeysWrong)

/-- 'agoralaw05.SignTells': WHATEVER THE INPUT: true; the input reads as it did. -/
def signTellsSpec : ChangeSpec := { name := "signTells", fn := fun _ => fun
  | [d1, d2, d3] => { results := [.lit (.bool true)], args := [d1, d2, d3] }
  | _ => none }
def signTellsRow : OpenClaim := { program := "ytppbplchdfhnkaadoor", sum := "e583c4ec9844e35958cbede41e9b5d53906c67d32adfffddae853728f4f1abe9", func := "agora/agoralaw05.SignTells", spec := "signTells", inPlace := ["internal/abi.NoEscape", "internal/bytealg.MakeNoZero"], recurses := true, named := ["agora/sum.initial", "agora/sum.constants", "math/bits.divideError", "math/bits.overflowError"], apart := false, laid := [("agora/sum.constants", laid_agora_sum_constants), ("agora/sum.initial", laid_agora_sum_initial)] }
def SignTellsSaid : Prop := signTellsRow.holds Tryd.pinned (OpenSpec.ofChange signTellsSpec)

/-- ITS FALSE NEIGHBOUR: 'it returns false'. Refute it at one input. -/
def signTellsWrong : ChangeSpec := { name := "signTells", fn := fun _ => fun
  | [d1, d2, d3] => { results := [.lit (.bool false)], args := [d1, d2, d3] }
  | _ => none }
def SignTellsWrongFalsely : Prop := signTellsRow.holds Tryd.pinned (OpenSpec.ofChange signTellsWrong)

/-- 'agoralaw05.SignVerifies': WHATEVER THE INPUT: true; the input reads as it did. -/
def signVerifiesSpec : ChangeSpec := { name := "signVerifies", fn := fun _ => fun
  | [d1, d2, d3, d4, d5] => { results := [.lit (.bool true)], args := [d1, d2, d3, d4, d5] }
  | _ => none }
def signVerifiesRow : OpenClaim := { program := "ytppbplchdfhnkaadoor", sum := "e583c4ec9844e35958cbede41e9b5d53906c67d32adfffddae853728f4f1abe9", func := "agora/agoralaw05.SignVerifies", spec := "signVerifies", inPlace := ["internal/abi.NoEscape", "internal/bytealg.MakeNoZero"], recurses := true, named := ["agora/sum.initial", "agora/sum.constants", "math/bits.divideError", "math/bits.overflowError"], apart := false, laid := [("agora/sum.constants", laid_agora_sum_constants), ("agora/sum.initial", laid_agora_sum_initial)] }
def SignVerifiesSaid : Prop := signVerifiesRow.holds Tryd.pinned (OpenSpec.ofChange signVerifiesSpec)

/-- ITS FALSE NEIGHBOUR: 'it returns false'. Refute it at one input. -/
def signVerifiesWrong : ChangeSpec := { name := "signVerifies", fn := fun _ => fun
  | [d1, d2, d3, d4, d5] => { results := [.lit (.bool false)], args := [d1, d2, d3, d4, d5] }
  | _ => none }
def SignVerifiesWrongFalsely : Prop := signVerifiesRow.holds Tryd.pinned (OpenSpec.ofChange signVerifiesWrong)

/-- 'agoralaw05.SignHolds': WHATEVER THE INPUT: true; the input reads as it did. -/
def signHoldsSpec : ChangeSpec := { name := "signHolds", fn := fun _ => fun
  | [d1, d2, d3] => { results := [.lit (.bool true)], args := [d1, d2, d3] }
  | _ => none }
def signHoldsRow : OpenClaim := { program := "ytppbplchdfhnkaadoor", sum := "e583c4ec9844e35958cbede41e9b5d53906c67d32adfffddae853728f4f1abe9", func := "agora/agoralaw05.SignHolds", spec := "signHolds", inPlace := ["internal/abi.NoEscape", "internal/bytealg.MakeNoZero"], named := ["agora/sum.initial", "agora/sum.constants", "math/bits.divideError", "math/bits.overflowError"], apart := false, laid := [("agora/sum.constants", laid_agora_sum_constants), ("agora/sum.initial", laid_agora_sum_initial)] }
def SignHoldsSaid : Prop := signHoldsRow.holds Tryd.pinned (OpenSpec.ofChange signHoldsSpec)

/-- ITS FALSE NEIGHBOUR: 'it returns false'. Refute it at one input. -/
def signHoldsWrong : ChangeSpec := { name := "signHolds", fn := fun _ => fun
  | [d1, d2, d3] => { results := [.lit (.bool false)], args := [d1, d2, d3] }
  | _ => none }
def SignHoldsWrongFalsely : Prop := signHoldsRow.holds Tryd.pinned (OpenSpec.ofChange signHoldsWrong)

/-- 'agoralaw05.SignBinds': WHATEVER THE INPUT: true; the input reads as it did. -/
def signBindsSpec : ChangeSpec := { name := "signBinds", fn := fun _ => fun
  | [d1, d2, d3] => { results := [.lit (.bool true)], args := [d1, d2, d3] }
  | _ => none }
def signBindsRow : OpenClaim := { program := "ytppbplchdfhnkaadoor", sum := "e583c4ec9844e35958cbede41e9b5d53906c67d32adfffddae853728f4f1abe9", func := "agora/agoralaw05.SignBinds", spec := "signBinds", inPlace := ["internal/abi.NoEscape", "internal/bytealg.MakeNoZero"], recurses := true, named := ["agora/sum.initial", "agora/sum.constants", "math/bits.divideError", "math/bits.overflowError"], apart := false, laid := [("agora/sum.constants", laid_agora_sum_constants), ("agora/sum.initial", laid_agora_sum_initial)] }
def SignBindsSaid : Prop := signBindsRow.holds Tryd.pinned (OpenSpec.ofChange signBindsSpec)

/-- ITS FALSE NEIGHBOUR: 'it returns false'. Refute it at one input. -/
def signBindsWrong : ChangeSpec := { name := "signBinds", fn := fun _ => fun
  | [d1, d2, d3] => { results := [.lit (.bool false)], args := [d1, d2, d3] }
  | _ => none }
def SignBindsWrongFalsely : Prop := signBindsRow.holds Tryd.pinned (OpenSpec.ofChange signBindsWrong)

/-- 'agoralaw05.SignMoves': WHATEVER THE INPUT: true; the input reads as it did. -/
def signMovesSpec : ChangeSpec := { name := "signMoves", fn := fun _ => fun
  | [d1, d2, d3] => { results := [.lit (.bool true)], args := [d1, d2, d3] }
  | _ => none }
def signMovesRow : OpenClaim := { program := "ytppbplchdfhnkaadoor", sum := "e583c4ec9844e35958cbede41e9b5d53906c67d32adfffddae853728f4f1abe9", func := "agora/agoralaw05.SignMoves", spec := "signMoves", inPlace := ["internal/abi.NoEscape", "internal/bytealg.MakeNoZero"], recurses := true, named := ["agora/sum.initial", "agora/sum.constants", "math/bits.divideError", "math/bits.overflowError"], apart := false, laid := [("agora/sum.constants", laid_agora_sum_constants), ("agora/sum.initial", laid_agora_sum_initial)] }
def SignMovesSaid : Prop := signMovesRow.holds Tryd.pinned (OpenSpec.ofChange signMovesSpec)

/-- ITS FALSE NEIGHBOUR: 'it returns false'. Refute it at one input. -/
def signMovesWrong : ChangeSpec := { name := "signMoves", fn := fun _ => fun
  | [d1, d2, d3] => { results := [.lit (.bool false)], args := [d1, d2, d3] }
  | _ => none }
def SignMovesWrongFalsely : Prop := signMovesRow.holds Tryd.pinned (OpenSpec.ofChange signMovesWrong)

/-- 'agoralaw05.SignSolves': WHATEVER THE INPUT: true; the input reads as it did. -/
def signSolvesSpec : ChangeSpec := { name := "signSolves", fn := fun _ => fun
  | [d1, d2, d3, d4] => { results := [.lit (.bool true)], args := [d1, d2, d3, d4] }
  | _ => none }
def signSolvesRow : OpenClaim := { program := "ytppbplchdfhnkaadoor", sum := "e583c4ec9844e35958cbede41e9b5d53906c67d32adfffddae853728f4f1abe9", func := "agora/agoralaw05.SignSolves", spec := "signSolves", inPlace := ["internal/abi.NoEscape", "internal/bytealg.MakeNoZero"], recurses := true, named := ["agora/sum.initial", "agora/sum.constants", "math/bits.divideError", "math/bits.overflowError"], apart := false, laid := [("agora/sum.constants", laid_agora_sum_constants), ("agora/sum.initial", laid_agora_sum_initial)] }
def SignSolvesSaid : Prop := signSolvesRow.holds Tryd.pinned (OpenSpec.ofChange signSolvesSpec)

/-- ITS FALSE NEIGHBOUR: 'it returns false'. Refute it at one input. -/
def signSolvesWrong : ChangeSpec := { name := "signSolves", fn := fun _ => fun
  | [d1, d2, d3, d4] => { results := [.lit (.bool false)], args := [d1, d2, d3, d4] }
  | _ => none }
def SignSolvesWrongFalsely : Prop := signSolvesRow.holds Tryd.pinned (OpenSpec.ofChange signSolvesWrong)

/- THE SECOND FORM. 'bulk': how many values and letters a reading holds, each counted each time it is reached (what is shared counts as often as it is met; a slice's spare places count too). A statement '..UptoSaid' is the law's where the arguments, and the package variables that the reading takes, are together of bulk at most 1048576: NARROWER than '..Said'. Prove '..Said' where nothing that the law and all that it calls make is longer than what came in: it says more and counts as full. Else prove '..UptoSaid'. A law counts once. -/
mutual
def uptoBulk {H : Type} : DataW H → Nat
  | .lit (.string bytes) => bytes.length + 1
  | .lit _ => 1
  | .nil => 1
  | .ptr d => uptoBulk d + 1
  | .slice elems spare => uptoBulkAll elems + uptoBulkAll spare + 1
  | .agg parts => uptoBulkAll parts + 1
  | .iface _ d => uptoBulk d + 1
  | .map entries => uptoBulkEntries entries + 1
  | .held _ => 1
def uptoBulkAll {H : Type} : List (DataW H) → Nat
  | [] => 0
  | d :: r => uptoBulk d + uptoBulkAll r
def uptoBulkEntries {H : Type} : List (Lit × DataW H) → Nat
  | [] => 0
  | x :: r => uptoBulkEntry x + uptoBulkEntries r
def uptoBulkEntry {H : Type} : Lit × DataW H → Nat
  | (.string bytes, d) => bytes.length + uptoBulk d + 1
  | (_, d) => uptoBulk d + 1
 end
def uptoSmall : (H : Type) → List (DataW H) → Bool := fun _ ds => decide (uptoBulkAll ds ≤ 1048576)
def OpenSpec.upto (s : _root_.Go.ChangeSpec) : _root_.Go.OpenSpec := { _root_.Go.OpenSpec.ofChange s with cond := some uptoSmall }

/-- 'agoralaw06.SealTells', WHERE WHAT IT READS IS OF BULK AT MOST 1048576: true; the input reads as it did. -/
def sealTellsUptoRow : OpenClaim := { program := "ytppbplchdfhnkaadoor", sum := "e583c4ec9844e35958cbede41e9b5d53906c67d32adfffddae853728f4f1abe9", func := "agora/agoralaw06.SealTells", spec := "sealTells", unfollowed := true, recurses := true, named := ["agora/sum.initial", "agora/sum.constants", "math/bits.divideError", "math/bits.overflowError"], apart := false, laid := [("agora/sum.constants", laid_agora_sum_constants), ("agora/sum.initial", laid_agora_sum_initial)], narrowed := true }
def SealTellsUptoSaid : Prop := sealTellsUptoRow.holds Tryd.pinned (OpenSpec.upto sealTellsSpec)

/-- 'agoralaw06.SealOpens', WHERE WHAT IT READS IS OF BULK AT MOST 1048576: true; the input reads as it did. -/
def sealOpensUptoRow : OpenClaim := { program := "ytppbplchdfhnkaadoor", sum := "e583c4ec9844e35958cbede41e9b5d53906c67d32adfffddae853728f4f1abe9", func := "agora/agoralaw06.SealOpens", spec := "sealOpens", unfollowed := true, recurses := true, named := ["agora/sum.initial", "agora/sum.constants", "math/bits.divideError", "math/bits.overflowError"], apart := false, laid := [("agora/sum.constants", laid_agora_sum_constants), ("agora/sum.initial", laid_agora_sum_initial)], narrowed := true }
def SealOpensUptoSaid : Prop := sealOpensUptoRow.holds Tryd.pinned (OpenSpec.upto sealOpensSpec)

/-- 'agoralaw06.SealStreams', WHERE WHAT IT READS IS OF BULK AT MOST 1048576: true; the input reads as it did. -/
def sealStreamsUptoRow : OpenClaim := { program := "ytppbplchdfhnkaadoor", sum := "e583c4ec9844e35958cbede41e9b5d53906c67d32adfffddae853728f4f1abe9", func := "agora/agoralaw06.SealStreams", spec := "sealStreams", unfollowed := true, recurses := true, named := ["agora/sum.initial", "agora/sum.constants", "math/bits.divideError", "math/bits.overflowError"], apart := false, laid := [("agora/sum.constants", laid_agora_sum_constants), ("agora/sum.initial", laid_agora_sum_initial)], narrowed := true }
def SealStreamsUptoSaid : Prop := sealStreamsUptoRow.holds Tryd.pinned (OpenSpec.upto sealStreamsSpec)

/-- 'agoralaw06.SealWraps', WHERE WHAT IT READS IS OF BULK AT MOST 1048576: true; the input reads as it did. -/
def sealWrapsUptoRow : OpenClaim := { program := "ytppbplchdfhnkaadoor", sum := "e583c4ec9844e35958cbede41e9b5d53906c67d32adfffddae853728f4f1abe9", func := "agora/agoralaw06.SealWraps", spec := "sealWraps", unfollowed := true, recurses := true, named := ["agora/sum.initial", "agora/sum.constants", "math/bits.divideError", "math/bits.overflowError"], apart := false, laid := [("agora/sum.constants", laid_agora_sum_constants), ("agora/sum.initial", laid_agora_sum_initial)], narrowed := true }
def SealWrapsUptoSaid : Prop := sealWrapsUptoRow.holds Tryd.pinned (OpenSpec.upto sealWrapsSpec)

/-- 'agoralaw06.SealRefuses', WHERE WHAT IT READS IS OF BULK AT MOST 1048576: true; the input reads as it did. -/
def sealRefusesUptoRow : OpenClaim := { program := "ytppbplchdfhnkaadoor", sum := "e583c4ec9844e35958cbede41e9b5d53906c67d32adfffddae853728f4f1abe9", func := "agora/agoralaw06.SealRefuses", spec := "sealRefuses", unfollowed := true, recurses := true, named := ["agora/sum.initial", "agora/sum.constants", "math/bits.divideError", "math/bits.overflowError"], apart := false, laid := [("agora/sum.constants", laid_agora_sum_constants), ("agora/sum.initial", laid_agora_sum_initial)], narrowed := true }
def SealRefusesUptoSaid : Prop := sealRefusesUptoRow.holds Tryd.pinned (OpenSpec.upto sealRefusesSpec)

/-- 'agoralaw07.ShareTells', WHERE WHAT IT READS IS OF BULK AT MOST 1048576: true; the input reads as it did. -/
def shareTellsUptoRow : OpenClaim := { program := "ytppbplchdfhnkaadoor", sum := "e583c4ec9844e35958cbede41e9b5d53906c67d32adfffddae853728f4f1abe9", func := "agora/agoralaw07.ShareTells", spec := "shareTells", recurses := true, named := ["agora/sum.initial", "agora/sum.constants", "math/bits.divideError", "math/bits.overflowError"], apart := false, laid := [("agora/sum.constants", laid_agora_sum_constants), ("agora/sum.initial", laid_agora_sum_initial)], narrowed := true }
def ShareTellsUptoSaid : Prop := shareTellsUptoRow.holds Tryd.pinned (OpenSpec.upto shareTellsSpec)

/-- 'agoralaw07.ShareJoins', WHERE WHAT IT READS IS OF BULK AT MOST 1048576: true; the input reads as it did. -/
def shareJoinsUptoRow : OpenClaim := { program := "ytppbplchdfhnkaadoor", sum := "e583c4ec9844e35958cbede41e9b5d53906c67d32adfffddae853728f4f1abe9", func := "agora/agoralaw07.ShareJoins", spec := "shareJoins", named := ["agora/sum.initial", "agora/sum.constants", "math/bits.divideError", "math/bits.overflowError"], apart := false, laid := [("agora/sum.constants", laid_agora_sum_constants), ("agora/sum.initial", laid_agora_sum_initial)], narrowed := true }
def ShareJoinsUptoSaid : Prop := shareJoinsUptoRow.holds Tryd.pinned (OpenSpec.upto shareJoinsSpec)

/-- 'agoralaw07.ShareHides', WHERE WHAT IT READS IS OF BULK AT MOST 1048576: true; the input reads as it did. -/
def shareHidesUptoRow : OpenClaim := { program := "ytppbplchdfhnkaadoor", sum := "e583c4ec9844e35958cbede41e9b5d53906c67d32adfffddae853728f4f1abe9", func := "agora/agoralaw07.ShareHides", spec := "shareHides", named := ["agora/sum.initial", "agora/sum.constants", "math/bits.divideError", "math/bits.overflowError"], apart := false, laid := [("agora/sum.constants", laid_agora_sum_constants), ("agora/sum.initial", laid_agora_sum_initial)], narrowed := true }
def ShareHidesUptoSaid : Prop := shareHidesUptoRow.holds Tryd.pinned (OpenSpec.upto shareHidesSpec)

/-- 'agoralaw07.ShareAdds', WHERE WHAT IT READS IS OF BULK AT MOST 1048576: true; the input reads as it did. -/
def shareAddsUptoRow : OpenClaim := { program := "ytppbplchdfhnkaadoor", sum := "e583c4ec9844e35958cbede41e9b5d53906c67d32adfffddae853728f4f1abe9", func := "agora/agoralaw07.ShareAdds", spec := "shareAdds", named := ["agora/sum.initial", "agora/sum.constants", "math/bits.divideError", "math/bits.overflowError"], apart := false, laid := [("agora/sum.constants", laid_agora_sum_constants), ("agora/sum.initial", laid_agora_sum_initial)], narrowed := true }
def ShareAddsUptoSaid : Prop := shareAddsUptoRow.holds Tryd.pinned (OpenSpec.upto shareAddsSpec)

/-- 'agoralaw07.ShareDetects', WHERE WHAT IT READS IS OF BULK AT MOST 1048576: true; the input reads as it did. -/
def shareDetectsUptoRow : OpenClaim := { program := "ytppbplchdfhnkaadoor", sum := "e583c4ec9844e35958cbede41e9b5d53906c67d32adfffddae853728f4f1abe9", func := "agora/agoralaw07.ShareDetects", spec := "shareDetects", named := ["agora/sum.initial", "agora/sum.constants", "math/bits.divideError", "math/bits.overflowError"], apart := false, laid := [("agora/sum.constants", laid_agora_sum_constants), ("agora/sum.initial", laid_agora_sum_initial)], narrowed := true }
def ShareDetectsUptoSaid : Prop := shareDetectsUptoRow.holds Tryd.pinned (OpenSpec.upto shareDetectsSpec)

/-- 'agoralaw05.SignKeys', WHERE WHAT IT READS IS OF BULK AT MOST 1048576: true; the input reads as it did. -/
def signKeysUptoRow : OpenClaim := { program := "ytppbplchdfhnkaadoor", sum := "e583c4ec9844e35958cbede41e9b5d53906c67d32adfffddae853728f4f1abe9", func := "agora/agoralaw05.SignKeys", spec := "signKeys", inPlace := ["internal/abi.NoEscape", "internal/bytealg.MakeNoZero"], recurses := true, named := ["agora/sum.initial", "agora/sum.constants", "math/bits.divideError", "math/bits.overflowError"], apart := false, laid := [("agora/sum.constants", laid_agora_sum_constants), ("agora/sum.initial", laid_agora_sum_initial)], narrowed := true }
def SignKeysUptoSaid : Prop := signKeysUptoRow.holds Tryd.pinned (OpenSpec.upto signKeysSpec)

/-- 'agoralaw05.SignTells', WHERE WHAT IT READS IS OF BULK AT MOST 1048576: true; the input reads as it did. -/
def signTellsUptoRow : OpenClaim := { program := "ytppbplchdfhnkaadoor", sum := "e583c4ec9844e35958cbede41e9b5d53906c67d32adfffddae853728f4f1abe9", func := "agora/agoralaw05.SignTells", spec := "signTells", inPlace := ["internal/abi.NoEscape", "internal/bytealg.MakeNoZero"], recurses := true, named := ["agora/sum.initial", "agora/sum.constants", "math/bits.divideError", "math/bits.overflowError"], apart := false, laid := [("agora/sum.constants", laid_agora_sum_constants), ("agora/sum.initial", laid_agora_sum_initial)], narrowed := true }
def SignTellsUptoSaid : Prop := signTellsUptoRow.holds Tryd.pinned (OpenSpec.upto signTellsSpec)

/-- 'agoralaw05.SignVerifies', WHERE WHAT IT READS IS OF BULK AT MOST 1048576: true; the input reads as it did. -/
def signVerifiesUptoRow : OpenClaim := { program := "ytppbplchdfhnkaadoor", sum := "e583c4ec9844e35958cbede41e9b5d53906c67d32adfffddae853728f4f1abe9", func := "agora/agoralaw05.SignVerifies", spec := "signVerifies", inPlace := ["internal/abi.NoEscape", "internal/bytealg.MakeNoZero"], recurses := true, named := ["agora/sum.initial", "agora/sum.constants", "math/bits.divideError", "math/bits.overflowError"], apart := false, laid := [("agora/sum.constants", laid_agora_sum_constants), ("agora/sum.initial", laid_agora_sum_initial)], narrowed := true }
def SignVerifiesUptoSaid : Prop := signVerifiesUptoRow.holds Tryd.pinned (OpenSpec.upto signVerifiesSpec)

/-- 'agoralaw05.SignHolds', WHERE WHAT IT READS IS OF BULK AT MOST 1048576: true; the input reads as it did. -/
def signHoldsUptoRow : OpenClaim := { program := "ytppbplchdfhnkaadoor", sum := "e583c4ec9844e35958cbede41e9b5d53906c67d32adfffddae853728f4f1abe9", func := "agora/agoralaw05.SignHolds", spec := "signHolds", inPlace := ["internal/abi.NoEscape", "internal/bytealg.MakeNoZero"], named := ["agora/sum.initial", "agora/sum.constants", "math/bits.divideError", "math/bits.overflowError"], apart := false, laid := [("agora/sum.constants", laid_agora_sum_constants), ("agora/sum.initial", laid_agora_sum_initial)], narrowed := true }
def SignHoldsUptoSaid : Prop := signHoldsUptoRow.holds Tryd.pinned (OpenSpec.upto signHoldsSpec)

/-- 'agoralaw05.SignBinds', WHERE WHAT IT READS IS OF BULK AT MOST 1048576: true; the input reads as it did. -/
def signBindsUptoRow : OpenClaim := { program := "ytppbplchdfhnkaadoor", sum := "e583c4ec9844e35958cbede41e9b5d53906c67d32adfffddae853728f4f1abe9", func := "agora/agoralaw05.SignBinds", spec := "signBinds", inPlace := ["internal/abi.NoEscape", "internal/bytealg.MakeNoZero"], recurses := true, named := ["agora/sum.initial", "agora/sum.constants", "math/bits.divideError", "math/bits.overflowError"], apart := false, laid := [("agora/sum.constants", laid_agora_sum_constants), ("agora/sum.initial", laid_agora_sum_initial)], narrowed := true }
def SignBindsUptoSaid : Prop := signBindsUptoRow.holds Tryd.pinned (OpenSpec.upto signBindsSpec)

/-- 'agoralaw05.SignMoves', WHERE WHAT IT READS IS OF BULK AT MOST 1048576: true; the input reads as it did. -/
def signMovesUptoRow : OpenClaim := { program := "ytppbplchdfhnkaadoor", sum := "e583c4ec9844e35958cbede41e9b5d53906c67d32adfffddae853728f4f1abe9", func := "agora/agoralaw05.SignMoves", spec := "signMoves", inPlace := ["internal/abi.NoEscape", "internal/bytealg.MakeNoZero"], recurses := true, named := ["agora/sum.initial", "agora/sum.constants", "math/bits.divideError", "math/bits.overflowError"], apart := false, laid := [("agora/sum.constants", laid_agora_sum_constants), ("agora/sum.initial", laid_agora_sum_initial)], narrowed := true }
def SignMovesUptoSaid : Prop := signMovesUptoRow.holds Tryd.pinned (OpenSpec.upto signMovesSpec)

/-- 'agoralaw05.SignSolves', WHERE WHAT IT READS IS OF BULK AT MOST 1048576: true; the input reads as it did. -/
def signSolvesUptoRow : OpenClaim := { program := "ytppbplchdfhnkaadoor", sum := "e583c4ec9844e35958cbede41e9b5d53906c67d32adfffddae853728f4f1abe9", func := "agora/agoralaw05.SignSolves", spec := "signSolves", inPlace := ["internal/abi.NoEscape", "internal/bytealg.MakeNoZero"], recurses := true, named := ["agora/sum.initial", "agora/sum.constants", "math/bits.divideError", "math/bits.overflowError"], apart := false, laid := [("agora/sum.constants", laid_agora_sum_constants), ("agora/sum.initial", laid_agora_sum_initial)], narrowed := true }
def SignSolvesUptoSaid : Prop := signSolvesUptoRow.holds Tryd.pinned (OpenSpec.upto signSolvesSpec)

end Rows
end Go.Proofs.YtppbplchdfhnkaaDoor
