/-
  The walk of agoralaw04.GroupRing.
-/
import Derived.Test.YtcibkbhpbmjifaaGrpSmall
set_option linter.unusedVariables false
set_option linter.unusedSimpArgs false
namespace Go.Proofs.Ytcibkbhpbmjifaa.Grp
open Go.RowKit

theorem gmulN_assoc (a b c : Int) : gmulN (gmulN a b) c = gmulN a (gmulN b c) := by
  unfold gmulN
  rw [Int.mul_emod, Int.emod_emod, ← Int.mul_emod, Int.mul_assoc, Int.mul_emod a (b * c % _), Int.emod_emod, ← Int.mul_emod]
theorem gmulN_add (a b c : Int) : gmulN a (gaddN b c) = gaddN (gmulN a b) (gmulN a c) := by
  unfold gmulN gaddN
  rw [Int.mul_emod, Int.emod_emod, ← Int.mul_emod, Int.mul_add, ← Int.add_emod]

set_option maxRecDepth 100000 in
set_option maxHeartbeats 1000000 in
theorem ring_any (a b c : Int) (w : World) :
    Calls Try.prog 6 #[.int .i64 a, .int .i64 b, .int .i64 c] w fun e w' => e = .returned (.bool true) ∧ Q w w' := by
  obtain ⟨x0, x1⟩ := gaddN_bd a 0
  have e1 : (gmulN a 1 == gaddN a 0) = true := beq_t (by unfold gmulN gaddN; rw [Int.mul_one, Int.add_zero])
  have e3 : (gaddN (gaddN a 0) 2305843009213693950 == gaddN a 0) = true := beq_t (by unfold gaddN; omega)
  have e4 : (gsubN a a == 0) = true := beq_t (by unfold gsubN; omega)
  have e5 : (gaddN a b == gaddN b a) = true := beq_t (by unfold gaddN; omega)
  have e6 : (gmulN a b == gmulN b a) = true := beq_t (by unfold gmulN; rw [Int.mul_comm])
  have e7 : (gsubN (gaddN a b) b == gaddN a 0) = true := beq_t (by unfold gsubN gaddN; omega)
  have e8 : (gaddN (gaddN a b) c == gaddN a (gaddN b c)) = true := beq_t (by unfold gaddN; omega)
  have e9 : (gmulN (gmulN a b) c == gmulN a (gmulN b c)) = true := beq_t (gmulN_assoc a b c)
  have e10 : (gmulN a (gaddN b c) == gaddN (gmulN a b) (gmulN a c)) = true := beq_t (gmulN_add a b c)
  have e11 : (gmulN (gaddN a 0) (gaddN b 0) == gmulN a b) = true := beq_t (by unfold gmulN gaddN; rw [Int.add_zero, Int.add_zero, ← Int.mul_emod])
  have e12 : (gaddN (gaddN a 0) (gaddN b 0) == gaddN a b) = true := beq_t (by unfold gaddN; omega)
  have e13 : (gsubN (gaddN a 0) (gaddN b 0) == gsubN a b) = true := beq_t (by unfold gaddN gsubN; omega)
  go_enter Try.func6, Try.ntmps6
  go_wp2_with (first | (go_at_call 8; refine (small_any _).mono ?_; rintro e w' ⟨rfl, hq⟩) | (go_at_call 25; refine (in_yes _ _ _ (by with_reducible assumption) (by with_reducible assumption)).mono ?_; rintro e w' ⟨rfl, rfl⟩) | (go_at_call 11; refine (Add_any _ _ _).mono ?_; rintro e w' ⟨rfl, rfl⟩) | (go_at_call 19; refine (AddN_any _ _ _).mono ?_; rintro e w' ⟨rfl, rfl⟩) | (go_at_call 13; refine (Sub_any _ _ _).mono ?_; rintro e w' ⟨rfl, rfl⟩) | (go_at_call 21; refine (SubN_any _ _ _).mono ?_; rintro e w' ⟨rfl, rfl⟩) | (go_at_call 15; refine (Mul_any _ _ _).mono ?_; rintro e w' ⟨rfl, hq⟩) | (go_at_call 23; refine (MulN_any _ _ _).mono ?_; rintro e w' ⟨rfl, hq⟩))
  go_ret
  exact ⟨rfl, by repeat (first | exact Q.refl _ | assumption | refine Q.trans ?_ (by assumption))⟩

end Go.Proofs.Ytcibkbhpbmjifaa.Grp
