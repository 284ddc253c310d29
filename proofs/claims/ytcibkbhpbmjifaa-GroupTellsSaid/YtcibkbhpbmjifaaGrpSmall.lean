/-
  The contracts of agoralaw04.small and agoralaw04.in.
-/
import Derived.Test.YtcibkbhpbmjifaaGrpLaw
set_option linter.unusedVariables false
set_option linter.unusedSimpArgs false
namespace Go.Proofs.Ytcibkbhpbmjifaa.Grp
open Go.RowKit

theorem beq_t {a b : Int} (h : a = b) : (a == b) = true := by simpa using h
theorem beq_f {a b : Int} (h : a ≠ b) : (a == b) = false := by simpa using h
theorem bne_t {a b : Int} (h : a ≠ b) : (a != b) = true := by simpa using h
theorem bne_f {a b : Int} (h : a = b) : (a != b) = false := by simpa using h
theorem ginv_bd (a : Int) : 0 ≤ ginv a ∧ ginv a < 2305843009213693951 := gexp_bd _ _
theorem gadd_bd (a b : Int) : 0 ≤ gadd a b ∧ gadd a b < 2305843009213693951 := emod_bd _ (by decide)
theorem gaddN_bd (a b : Int) : 0 ≤ gaddN a b ∧ gaddN a b < 2305843009213693950 := emod_bd _ (by decide)
theorem gmulN_bd (a b : Int) : 0 ≤ gmulN a b ∧ gmulN a b < 2305843009213693950 := emod_bd _ (by decide)
theorem gsubN_bd (a b : Int) : 0 ≤ gsubN a b ∧ gsubN a b < 2305843009213693950 := emod_bd _ (by decide)

set_option maxHeartbeats 400000 in
theorem in_yes (n m : Int) (w : World) (h0 : 0 ≤ n) (h1 : n < m) :
    Calls Try.prog 25 #[.int .i64 n, .int .i64 m] w fun e w' => e = .returned (.bool true) ∧ w = w' := by
  go_enter Try.func25, Try.ntmps25
  go_wp2
  go_ret
  exact ⟨by simp [h0, h1], rfl⟩

set_option maxRecDepth 100000 in
set_option maxHeartbeats 1000000 in
theorem small_any (w : World) :
    Calls Try.prog 8 #[] w fun e w' => e = .returned (.bool true) ∧ Q w w' := by
  have e0 : (gadd 2305843009213693950 2 == 1) = true := by decide +kernel
  have e1 : (gsub 0 1 == 2305843009213693950) = true := by decide +kernel
  have e2 : (gmul 2305843009213693950 2305843009213693950 == 1) = true := by decide +kernel
  have e3 : (ginv 2 == 1152921504606846976) = true := by decide +kernel
  have e4 : (gexp 3 (-1) == ginv 3) = true := by decide +kernel
  have e5 : (gexp 2 61 == 1) = true := by decide +kernel
  have e6 : (gexp 0 0 == 1) = true := by decide +kernel
  have e7 : (gexp 0 2305843009213693950 == 0) = true := by decide +kernel
  have e8 : (gmulN 2305843009213693949 2305843009213693949 == 1) = true := by decide +kernel
  have e9 : (gaddN 2305843009213693949 2 == 1) = true := by decide +kernel
  have e10 : (gsubN 0 1 == 2305843009213693949) = true := by decide +kernel
  go_enter Try.func8, Try.ntmps8
  go_wp2_with fail
  refine (Inv_yes _ _ (by decide)).mono ?_
  rintro e w1 ⟨rfl, q1⟩
  go_wp2_with fail
  refine (Inv_no _ _ (by decide)).mono ?_
  rintro e w' ⟨rfl, rfl⟩
  go_wp2_with fail
  refine (Inv_yes _ _ (by decide)).mono ?_
  rintro e w2 ⟨rfl, q2⟩
  go_wp2_with (first | (go_at_call 11; refine (Add_any _ _ _).mono ?_; rintro e w' ⟨rfl, rfl⟩) | (go_at_call 19; refine (AddN_any _ _ _).mono ?_; rintro e w' ⟨rfl, rfl⟩) | (go_at_call 13; refine (Sub_any _ _ _).mono ?_; rintro e w' ⟨rfl, rfl⟩) | (go_at_call 21; refine (SubN_any _ _ _).mono ?_; rintro e w' ⟨rfl, rfl⟩) | (go_at_call 15; refine (Mul_any _ _ _).mono ?_; rintro e w' ⟨rfl, hq⟩) | (go_at_call 23; refine (MulN_any _ _ _).mono ?_; rintro e w' ⟨rfl, hq⟩) | (go_at_call 17; refine (Exp_any _ _ _ (by decide) (by decide)).mono ?_; rintro e w' ⟨rfl, hq⟩))
  go_ret
  exact ⟨rfl, by repeat (first | exact Q.refl _ | assumption | refine Q.trans ?_ (by assumption))⟩

end Go.Proofs.Ytcibkbhpbmjifaa.Grp
