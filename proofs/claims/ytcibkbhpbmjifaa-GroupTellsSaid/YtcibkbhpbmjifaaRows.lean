/-
  No cell of these rows narrows 'for every input' (looked for: loops, veiled, ifaces, maps, wideKeys, modest, calm, conditions, laid).
  DERIVED. THE GIVEN ROWS OF THIS SEAT. 5 by the template 'for every input the law returns true; each argument reads behind the call as it read before'; 0 by the template 'total and deterministic' (their statements: YtcibkbhpbmjifaaTotals.lean).
  GIVEN WITH THE SEED: the statements are not yours to turn. If you find one false, say at which input.
  Laid BY PROGRAM, IN A SANDBOX (cutbox-rows.mjs): the forced cells as the released guide's own fill.sh prints them over the translation 8d9f9a8d3fa83131… (all of the seat's roots in one cut). By AI agents, Wed Nov 11 2026. No macro, syntax, notation, axiom, sorry.
-/
import Derived.Test.YtcibkbhpbmjifaaChecked
import GoSem.Claim
import GoSem.ClaimJoined
import GoSem.ClaimMapViews
import Derived.JoinedTies
import Derived.KernelRfl
namespace Go.Proofs.Ytcibkbhpbmjifaa
/- THE CELL 'sum', in the pinned program and in every row, IS THE sha256 OF THE DUMP (.gsa) THAT YtcibkbhpbmjifaaProg.lean LOADS. Nothing in Lean hashes anything: it is a label: what it is worth is what the hold of that sum in a sandbox is worth. -/
noncomputable def Try.pinned : Pinned := { name := "ytcibkbhpbmjifaa", sum := "8d9f9a8d3fa83131bcc12c0ea3cc85e6aaa69a1293db8a9a79359f7889029320", checked := Try.checked }
namespace Rows
def none {H : Type} : Left H := { results := [], args := [] }

/-- 'agoralaw04.GroupTells': WHATEVER THE INPUT: true; the input reads as it did. -/
def groupTellsSpec : ChangeSpec := { name := "groupTells", fn := fun _ => fun
  | [d1, d2] => { results := [.lit (.bool true)], args := [d1, d2] }
  | _ => none }
def groupTellsRow : OpenClaim := { program := "ytcibkbhpbmjifaa", sum := "8d9f9a8d3fa83131bcc12c0ea3cc85e6aaa69a1293db8a9a79359f7889029320", func := "agora/agoralaw04.GroupTells", spec := "groupTells", named := ["math/bits.divideError", "math/bits.overflowError"], apart := false }
def GroupTellsSaid : Prop := groupTellsRow.holds Try.pinned (OpenSpec.ofChange groupTellsSpec)

/-- ITS FALSE NEIGHBOUR: 'it returns false'. Refute it at one input. -/
def groupTellsWrong : ChangeSpec := { name := "groupTells", fn := fun _ => fun
  | [d1, d2] => { results := [.lit (.bool false)], args := [d1, d2] }
  | _ => none }
def GroupTellsWrongFalsely : Prop := groupTellsRow.holds Try.pinned (OpenSpec.ofChange groupTellsWrong)

/-- 'agoralaw04.GroupField': WHATEVER THE INPUT: true; the input reads as it did. -/
def groupFieldSpec : ChangeSpec := { name := "groupField", fn := fun _ => fun
  | [d1, d2, d3] => { results := [.lit (.bool true)], args := [d1, d2, d3] }
  | _ => none }
def groupFieldRow : OpenClaim := { program := "ytcibkbhpbmjifaa", sum := "8d9f9a8d3fa83131bcc12c0ea3cc85e6aaa69a1293db8a9a79359f7889029320", func := "agora/agoralaw04.GroupField", spec := "groupField", named := ["math/bits.divideError", "math/bits.overflowError"], apart := false }
def GroupFieldSaid : Prop := groupFieldRow.holds Try.pinned (OpenSpec.ofChange groupFieldSpec)

/-- ITS FALSE NEIGHBOUR: 'it returns false'. Refute it at one input. -/
def groupFieldWrong : ChangeSpec := { name := "groupField", fn := fun _ => fun
  | [d1, d2, d3] => { results := [.lit (.bool false)], args := [d1, d2, d3] }
  | _ => none }
def GroupFieldWrongFalsely : Prop := groupFieldRow.holds Try.pinned (OpenSpec.ofChange groupFieldWrong)

/-- 'agoralaw04.GroupPowers': WHATEVER THE INPUT: true; the input reads as it did. -/
def groupPowersSpec : ChangeSpec := { name := "groupPowers", fn := fun _ => fun
  | [d1, d2, d3, d4] => { results := [.lit (.bool true)], args := [d1, d2, d3, d4] }
  | _ => none }
def groupPowersRow : OpenClaim := { program := "ytcibkbhpbmjifaa", sum := "8d9f9a8d3fa83131bcc12c0ea3cc85e6aaa69a1293db8a9a79359f7889029320", func := "agora/agoralaw04.GroupPowers", spec := "groupPowers", named := ["math/bits.divideError", "math/bits.overflowError"], apart := false }
def GroupPowersSaid : Prop := groupPowersRow.holds Try.pinned (OpenSpec.ofChange groupPowersSpec)

/-- ITS FALSE NEIGHBOUR: 'it returns false'. Refute it at one input. -/
def groupPowersWrong : ChangeSpec := { name := "groupPowers", fn := fun _ => fun
  | [d1, d2, d3, d4] => { results := [.lit (.bool false)], args := [d1, d2, d3, d4] }
  | _ => none }
def GroupPowersWrongFalsely : Prop := groupPowersRow.holds Try.pinned (OpenSpec.ofChange groupPowersWrong)

/-- 'agoralaw04.GroupRing': WHATEVER THE INPUT: true; the input reads as it did. -/
def groupRingSpec : ChangeSpec := { name := "groupRing", fn := fun _ => fun
  | [d1, d2, d3] => { results := [.lit (.bool true)], args := [d1, d2, d3] }
  | _ => none }
def groupRingRow : OpenClaim := { program := "ytcibkbhpbmjifaa", sum := "8d9f9a8d3fa83131bcc12c0ea3cc85e6aaa69a1293db8a9a79359f7889029320", func := "agora/agoralaw04.GroupRing", spec := "groupRing", named := ["math/bits.divideError", "math/bits.overflowError"], apart := false }
def GroupRingSaid : Prop := groupRingRow.holds Try.pinned (OpenSpec.ofChange groupRingSpec)

/-- ITS FALSE NEIGHBOUR: 'it returns false'. Refute it at one input. -/
def groupRingWrong : ChangeSpec := { name := "groupRing", fn := fun _ => fun
  | [d1, d2, d3] => { results := [.lit (.bool false)], args := [d1, d2, d3] }
  | _ => none }
def GroupRingWrongFalsely : Prop := groupRingRow.holds Try.pinned (OpenSpec.ofChange groupRingWrong)

/-- 'agoralaw04.GroupGenerates': WHATEVER THE INPUT: true; the input reads as it did. -/
def groupGeneratesSpec : ChangeSpec := { name := "groupGenerates", fn := fun _ => fun
  | [d1, d2] => { results := [.lit (.bool true)], args := [d1, d2] }
  | _ => none }
def groupGeneratesRow : OpenClaim := { program := "ytcibkbhpbmjifaa", sum := "8d9f9a8d3fa83131bcc12c0ea3cc85e6aaa69a1293db8a9a79359f7889029320", func := "agora/agoralaw04.GroupGenerates", spec := "groupGenerates", named := ["math/bits.divideError", "math/bits.overflowError"], apart := false }
def GroupGeneratesSaid : Prop := groupGeneratesRow.holds Try.pinned (OpenSpec.ofChange groupGeneratesSpec)

/-- ITS FALSE NEIGHBOUR: 'it returns false'. Refute it at one input. -/
def groupGeneratesWrong : ChangeSpec := { name := "groupGenerates", fn := fun _ => fun
  | [d1, d2] => { results := [.lit (.bool false)], args := [d1, d2] }
  | _ => none }
def GroupGeneratesWrongFalsely : Prop := groupGeneratesRow.holds Try.pinned (OpenSpec.ofChange groupGeneratesWrong)

/- THE SECOND FORM. 'bulk': how many values and letters a reading holds, each counted each time it is reached (what is shared counts as often as it is met; a slice's spare places count too). A statement '..UptoSaid' is the law's where the arguments, and the package variables that the reading takes, are together of bulk at most 1048576: NARROWER than '..Said'. Prove '..Said' where nothing that the law and all that it calls make is longer than what came in: it says more and counts as full. Else prove '..UptoSaid'. A law counts once. -/
mutual
def uptoBulk {H : Type} : DataW H → Nat
  | .lit (.string bytes) => bytes.length + 1
  | .lit _ => 1
  | .nil => 1
  | .ptr d => uptoBulk d + 1
  | .slice elems spare => uptoBulkAll elems + uptoBulkAll spare + 1
  | .agg parts => uptoBulkAll parts + 1
  | .iface _ d => uptoBulk d + 1
  | .map entries => uptoBulkEntries entries + 1
  | .held _ => 1
def uptoBulkAll {H : Type} : List (DataW H) → Nat
  | [] => 0
  | d :: r => uptoBulk d + uptoBulkAll r
def uptoBulkEntries {H : Type} : List (Lit × DataW H) → Nat
  | [] => 0
  | x :: r => uptoBulkEntry x + uptoBulkEntries r
def uptoBulkEntry {H : Type} : Lit × DataW H → Nat
  | (.string bytes, d) => bytes.length + uptoBulk d + 1
  | (_, d) => uptoBulk d + 1
 end
def uptoSmall : (H : Type) → List (DataW H) → Bool := fun _ ds => decide (uptoBulkAll ds ≤ 1048576)
def OpenSpec.upto (s : _root_.Go.ChangeSpec) : _root_.Go.OpenSpec := { _root_.Go.OpenSpec.ofChange s with cond := some uptoSmall }

/-- 'agoralaw04.GroupTells', WHERE WHAT IT READS IS OF BULK AT MOST 1048576: true; the input reads as it did. -/
def groupTellsUptoRow : OpenClaim := { program := "ytcibkbhpbmjifaa", sum := "8d9f9a8d3fa83131bcc12c0ea3cc85e6aaa69a1293db8a9a79359f7889029320", func := "agora/agoralaw04.GroupTells", spec := "groupTells", named := ["math/bits.divideError", "math/bits.overflowError"], apart := false, narrowed := true }
def GroupTellsUptoSaid : Prop := groupTellsUptoRow.holds Try.pinned (OpenSpec.upto groupTellsSpec)

/-- 'agoralaw04.GroupField', WHERE WHAT IT READS IS OF BULK AT MOST 1048576: true; the input reads as it did. -/
def groupFieldUptoRow : OpenClaim := { program := "ytcibkbhpbmjifaa", sum := "8d9f9a8d3fa83131bcc12c0ea3cc85e6aaa69a1293db8a9a79359f7889029320", func := "agora/agoralaw04.GroupField", spec := "groupField", named := ["math/bits.divideError", "math/bits.overflowError"], apart := false, narrowed := true }
def GroupFieldUptoSaid : Prop := groupFieldUptoRow.holds Try.pinned (OpenSpec.upto groupFieldSpec)

/-- 'agoralaw04.GroupPowers', WHERE WHAT IT READS IS OF BULK AT MOST 1048576: true; the input reads as it did. -/
def groupPowersUptoRow : OpenClaim := { program := "ytcibkbhpbmjifaa", sum := "8d9f9a8d3fa83131bcc12c0ea3cc85e6aaa69a1293db8a9a79359f7889029320", func := "agora/agoralaw04.GroupPowers", spec := "groupPowers", named := ["math/bits.divideError", "math/bits.overflowError"], apart := false, narrowed := true }
def GroupPowersUptoSaid : Prop := groupPowersUptoRow.holds Try.pinned (OpenSpec.upto groupPowersSpec)

/-- 'agoralaw04.GroupRing', WHERE WHAT IT READS IS OF BULK AT MOST 1048576: true; the input reads as it did. -/
def groupRingUptoRow : OpenClaim := { program := "ytcibkbhpbmjifaa", sum := "8d9f9a8d3fa83131bcc12c0ea3cc85e6aaa69a1293db8a9a79359f7889029320", func := "agora/agoralaw04.GroupRing", spec := "groupRing", named := ["math/bits.divideError", "math/bits.overflowError"], apart := false, narrowed := true }
def GroupRingUptoSaid : Prop := groupRingUptoRow.holds Try.pinned (OpenSpec.upto groupRingSpec)

/-- 'agoralaw04.GroupGenerates', WHERE WHAT IT READS IS OF BULK AT MOST 1048576: true; the input reads as it did. -/
def groupGeneratesUptoRow : OpenClaim := { program := "ytcibkbhpbmjifaa", sum := "8d9f9a8d3fa83131bcc12c0ea3cc85e6aaa69a1293db8a9a79359f7889029320", func := "agora/agoralaw04.GroupGenerates", spec := "groupGenerates", named := ["math/bits.divideError", "math/bits.overflowError"], apart := false, narrowed := true }
def GroupGeneratesUptoSaid : Prop := groupGeneratesUptoRow.holds Try.pinned (OpenSpec.upto groupGeneratesSpec)

end Rows
end Go.Proofs.Ytcibkbhpbmjifaa
