/-
  The walk of agoralaw04.GroupTells.
-/
import Derived.Test.YtcibkbhpbmjifaaGrpSmall
import Derived.Test.YtcibkbhpbmjifaaGrpRef
set_option linter.unusedVariables false
set_option linter.unusedSimpArgs false
namespace Go.Proofs.Ytcibkbhpbmjifaa.Grp
open Go.RowKit

set_option maxRecDepth 100000 in
set_option maxHeartbeats 1000000 in
theorem tells_y (a b : Int) (w : World) (b0 : -9223372036854775808 ≤ b) (b1 : b ≤ 9223372036854775807) (h : Hid (a % 2305843009213693951 ≠ 0)) :
    Calls Try.prog 3 #[.int .i64 a, .int .i64 b] w fun e w' => e = .returned (.bool true) ∧ Q w w' := by
  go_enter Try.func3, Try.ntmps3
  go_wp2_with (first | (go_at_call 8; refine (small_any _).mono ?_; rintro e w' ⟨rfl, hq⟩) | (go_at_call 11; refine (Add_any _ _ _).mono ?_; rintro e w' ⟨rfl, rfl⟩) | (go_at_call 19; refine (AddN_any _ _ _).mono ?_; rintro e w' ⟨rfl, rfl⟩) | (go_at_call 13; refine (Sub_any _ _ _).mono ?_; rintro e w' ⟨rfl, rfl⟩) | (go_at_call 21; refine (SubN_any _ _ _).mono ?_; rintro e w' ⟨rfl, rfl⟩) | (go_at_call 15; refine (Mul_any _ _ _).mono ?_; rintro e w' ⟨rfl, hq⟩) | (go_at_call 23; refine (MulN_any _ _ _).mono ?_; rintro e w' ⟨rfl, hq⟩) | (go_at_call 17; refine (Exp_any _ _ _ (by omega) (by omega)).mono ?_; rintro e w' ⟨rfl, hq⟩) | (go_at_call 9; refine (Inv_yes _ _ h.out).mono ?_; rintro e w' ⟨rfl, hq⟩) | (go_at_call 12; refine (RAdd_any _ _ _).mono ?_; rintro e w' ⟨rfl, rfl⟩) | (go_at_call 20; refine (RAddN_any _ _ _).mono ?_; rintro e w' ⟨rfl, rfl⟩) | (go_at_call 14; refine (RSub_any _ _ _).mono ?_; rintro e w' ⟨rfl, rfl⟩) | (go_at_call 22; refine (RSubN_any _ _ _).mono ?_; rintro e w' ⟨rfl, rfl⟩) | (go_at_call 16; refine (RMul_any _ _ _).mono ?_; rintro e w' ⟨rfl, hq⟩) | (go_at_call 24; refine (RMulN_any _ _ _).mono ?_; rintro e w' ⟨rfl, hq⟩) | (go_at_call 18; refine (RExp_any _ _ _ (by omega) (by omega)).mono ?_; rintro e w' ⟨rfl, hq⟩) | (go_at_call 10; refine (RInv_yes _ _ h.out).mono ?_; rintro e w' ⟨rfl, hq⟩))
  go_ret
  exact ⟨rfl, by repeat (first | exact Q.refl _ | assumption | refine Q.trans ?_ (by assumption))⟩
set_option maxRecDepth 100000 in
set_option maxHeartbeats 1000000 in
theorem tells_n (a b : Int) (w : World) (b0 : -9223372036854775808 ≤ b) (b1 : b ≤ 9223372036854775807) (h : Hid (a % 2305843009213693951 = 0)) :
    Calls Try.prog 3 #[.int .i64 a, .int .i64 b] w fun e w' => e = .returned (.bool true) ∧ Q w w' := by
  go_enter Try.func3, Try.ntmps3
  go_wp2_with (first | (go_at_call 8; refine (small_any _).mono ?_; rintro e w' ⟨rfl, hq⟩) | (go_at_call 11; refine (Add_any _ _ _).mono ?_; rintro e w' ⟨rfl, rfl⟩) | (go_at_call 19; refine (AddN_any _ _ _).mono ?_; rintro e w' ⟨rfl, rfl⟩) | (go_at_call 13; refine (Sub_any _ _ _).mono ?_; rintro e w' ⟨rfl, rfl⟩) | (go_at_call 21; refine (SubN_any _ _ _).mono ?_; rintro e w' ⟨rfl, rfl⟩) | (go_at_call 15; refine (Mul_any _ _ _).mono ?_; rintro e w' ⟨rfl, hq⟩) | (go_at_call 23; refine (MulN_any _ _ _).mono ?_; rintro e w' ⟨rfl, hq⟩) | (go_at_call 17; refine (Exp_any _ _ _ (by omega) (by omega)).mono ?_; rintro e w' ⟨rfl, hq⟩) | (go_at_call 9; refine (Inv_no _ _ h.out).mono ?_; rintro e w' ⟨rfl, rfl⟩) | (go_at_call 12; refine (RAdd_any _ _ _).mono ?_; rintro e w' ⟨rfl, rfl⟩) | (go_at_call 20; refine (RAddN_any _ _ _).mono ?_; rintro e w' ⟨rfl, rfl⟩) | (go_at_call 14; refine (RSub_any _ _ _).mono ?_; rintro e w' ⟨rfl, rfl⟩) | (go_at_call 22; refine (RSubN_any _ _ _).mono ?_; rintro e w' ⟨rfl, rfl⟩) | (go_at_call 16; refine (RMul_any _ _ _).mono ?_; rintro e w' ⟨rfl, hq⟩) | (go_at_call 24; refine (RMulN_any _ _ _).mono ?_; rintro e w' ⟨rfl, hq⟩) | (go_at_call 18; refine (RExp_any _ _ _ (by omega) (by omega)).mono ?_; rintro e w' ⟨rfl, hq⟩) | (go_at_call 10; refine (RInv_no _ _ h.out).mono ?_; rintro e w' ⟨rfl, rfl⟩))
  go_ret
  exact ⟨rfl, by repeat (first | exact Q.refl _ | assumption | refine Q.trans ?_ (by assumption))⟩

theorem tells_any (a b : Int) (w : World) (a0 : -9223372036854775808 ≤ a) (a1 : a ≤ 9223372036854775807) (b0 : -9223372036854775808 ≤ b) (b1 : b ≤ 9223372036854775807) :
    Calls Try.prog 3 #[.int .i64 a, .int .i64 b] w fun e w' => e = .returned (.bool true) ∧ Q w w' := by
  by_cases h : a % 2305843009213693951 = 0
  · exact tells_n a b w b0 b1 (Lib.hid h)
  · exact tells_y a b w b0 b1 (Lib.hid h)

end Go.Proofs.Ytcibkbhpbmjifaa.Grp
