/-
  An item in memory: its parts, loaded whole.
-/
import Derived.Test.YtjfcllanochhmaaGreatDoorItemA
import Derived.Test.YtjfcllanochhmaaGreatDoorActE
import Derived.Test.YtjfcllanochhmaaGreatDoorStore
set_option linter.unusedVariables false
set_option linter.unusedSimpArgs false
namespace Go.Proofs.YtjfcllanochhmaaGreatDoor.Item
open Go.RowKit Grp Mem _root_.Go.Proofs.YtjfcllanochhmaaGreatDoor.Code Sha Sign

def itA (i : ItemR) : Array Value := i.cells.toArray
theorem ItemIn.q {w w' : World} {i : ItemR} (h : ItemIn w i) (hq : Q w w') : ItemIn w' i := ⟨h.act.q hq, h.dec.q hq⟩
theorem item_act {w1 : World} {g : Nat} {i : ItemR} (hl : g < w1.heap.size) (hr : w1.rangeAt g 0 i.cells) : ∀ y : Wd w1, (Instr.loadAt 39 (.pointer (some ⟨g, 1, none⟩))).run Tryz.prog y.w = .ok (.agg (actA i.act)) y.w := by
  have h : w1.rangeAt g 1 i.act.cells := by
    have := range_sub hr 1 20
    rw [Nat.zero_add] at this
    exact this
  exact Wd.load hl h Tryz.underlying39 rfl (by kernel_rfl)
theorem item_claim {w1 : World} {g : Nat} {i : ItemR} (hl : g < w1.heap.size) (hr : w1.rangeAt g 0 i.cells) : ∀ y : Wd w1, (Instr.loadAt 41 (.pointer (some ⟨g, 21, none⟩))).run Tryz.prog y.w = .ok (.agg (claimA i.claim)) y.w := by
  have h : w1.rangeAt g 21 i.claim.cells := by
    have := range_sub hr 21 9
    rw [Nat.zero_add] at this
    exact this
  exact Wd.load hl h Tryz.underlying41 rfl (by kernel_rfl)
theorem item_ballot {w1 : World} {g : Nat} {i : ItemR} (hl : g < w1.heap.size) (hr : w1.rangeAt g 0 i.cells) : ∀ y : Wd w1, (Instr.loadAt 43 (.pointer (some ⟨g, 30, none⟩))).run Tryz.prog y.w = .ok (.agg (ballotA i.ballot)) y.w := by
  have h : w1.rangeAt g 30 i.ballot.cells := by
    have := range_sub hr 30 7
    rw [Nat.zero_add] at this
    exact this
  exact Wd.load hl h Tryz.underlying43 rfl (by kernel_rfl)
theorem item_dec {w1 : World} {g : Nat} {i : ItemR} (hl : g < w1.heap.size) (hr : w1.rangeAt g 0 i.cells) : ∀ y : Wd w1, (Instr.loadAt 45 (.pointer (some ⟨g, 37, none⟩))).run Tryz.prog y.w = .ok (.agg (decA i.dec)) y.w := by
  have h : w1.rangeAt g 37 i.dec.cells := by
    have := range_sub hr 37 12
    rw [Nat.zero_add] at this
    exact this
  exact Wd.load hl h Tryz.underlying45 rfl (by kernel_rfl)
theorem it_all (i : ItemR) : (itA i).all (·.oneCell') = true := by
  simp [itA, ItemR.cells, ActR.cells, ClaimV.cells, BallotV.cells, DecR.cells, Value.oneCell']
theorem claim_all (c : ClaimV) : c.cells.toArray.all (·.oneCell') = true := by simp [ClaimV.cells, Value.oneCell']
theorem ballot_all (c : BallotV) : c.cells.toArray.all (·.oneCell') = true := by simp [BallotV.cells, Value.oneCell']
theorem dec_all (c : DecR) : c.cells.toArray.all (·.oneCell') = true := by simp [DecR.cells, Value.oneCell']
theorem act_all (c : ActR) : c.cells.toArray.all (·.oneCell') = true := by simp [ActR.cells, Value.oneCell']
theorem splice_all (cs vs : List Value) (h : cs.length = vs.length) : splice cs 0 vs = vs := by
  unfold splice
  rw [Nat.zero_add, List.drop_eq_nil_of_le (by omega)]
  simp
end Go.Proofs.YtjfcllanochhmaaGreatDoor.Item
