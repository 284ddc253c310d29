/-
  What all walks use: small lemmas, and the relation of two worlds of which the second has only new blocks.
-/
import Derived.Test.YtjfcllanochhmaaGreatDoorRows
import Derived.Test.YtjfcllanochhmaaGreatDoorGrpNum
import Derived.Test.YtjfcllanochhmaaGreatDoorShelf
import Derived.WalkKit
import Derived.WalkSpells
import Derived.WalkLawsBesides
import Derived.Lib.Hide
import Derived.Lib.Mul64
import Derived.Laws.Bits64b
import Derived.Deep.QuietTactic
import Derived.BigQuiet
set_option linter.unusedVariables false
set_option linter.unusedSimpArgs false
namespace Go.Proofs.YtjfcllanochhmaaGreatDoor.Grp
open Go.RowKit

/-- Nothing that existed has changed; new blocks and draws are allowed. -/
def Q (w w' : World) : Prop := Below w.heap.size w w'
theorem Q.refl (w : World) : Q w w := Below.refl _ _
theorem Q.trans {a b c : World} (h : Q a b) (k : Q b c) : Q a c := Below.trans h (Below.mono k h.size)
theorem Q.drew {a b : World} (h : Q a b) : Q a b.drew := Below.drew h
theorem Q.drewN {a b : World} (h : Q a b) (n : Nat) : Q a (b.drewN n) := below_drewN h n

theorem tmod_res (a : Int) {m : Int} : a % m = a.tmod m % m := by
  conv => lhs; rw [← Int.tmod_add_mul_tdiv a m]
  rw [Int.add_mul_emod_self_left]
theorem tmod_pos (a : Int) {m : Int} (hm : 0 < m) (h : 0 ≤ a.tmod m) : a.tmod m = a % m := by
  rw [tmod_res a, Int.emod_eq_of_lt h (Int.tmod_lt_of_pos a hm)]
theorem tmod_neg (a : Int) {m : Int} (hm : 0 < m) (hm' : m ≤ 9223372036854775807) (h : a.tmod m < 0) : wrap64 (a.tmod m + m) = a % m := by
  have h1 := Int.lt_tmod_of_pos a hm
  rw [IntWalk.wrap64_in _ ⟨by omega, by omega⟩, tmod_res a, ← Int.add_emod_right, Int.emod_eq_of_lt (by omega) (by omega)]
theorem emod_bd (a : Int) {m : Int} (hm : 0 < m) : 0 ≤ a % m ∧ a % m < m := ⟨Int.emod_nonneg a (by omega), Int.emod_lt_of_pos a hm⟩
theorem ret_int {k : IntKind} {a b : Int} (h : a = b) : Ending.returned (.int k a) = .returned (.int k b) := by rw [h]

set_option maxHeartbeats 400000 in
theorem residue_any (a m : Int) (w : World) (hm : 0 < m) (hm' : m ≤ 9223372036854775807) :
    Calls Tryz.prog 143 #[.int .i64 a, .int .i64 m] w fun e w' => e = .returned (.int .i64 (a % m)) ∧ w = w' := by
  go_enter Tryz.func143, Tryz.ntmps143
  go_wp2
  · go_ret
    exact ⟨ret_int (tmod_neg a hm hm' (by assumption)), rfl⟩
  · go_ret
    exact ⟨ret_int (tmod_pos a hm (by assumption)), rfl⟩

set_option maxHeartbeats 400000 in
theorem add_any (a b m : Int) (w : World) (hm : 0 < m) (hm' : m ≤ 4611686018427387904) :
    Calls Tryz.prog 145 #[.int .i64 a, .int .i64 b, .int .i64 m] w fun e w' => e = .returned (.int .i64 ((a + b) % m)) ∧ w = w' := by
  obtain ⟨a0, a1⟩ := emod_bd a hm
  obtain ⟨b0, b1⟩ := emod_bd b hm
  go_enter Tryz.func145, Tryz.ntmps145
  go_wp2_with (go_at_call 143; refine (residue_any _ _ _ hm (by omega)).mono ?_; rintro e w' ⟨rfl, rfl⟩)
  go_ret
  exact ⟨rfl, rfl⟩

end Go.Proofs.YtjfcllanochhmaaGreatDoor.Grp
