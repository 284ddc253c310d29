/-
  The walk of agoralaw04.GroupPowers.
-/
import Derived.Test.YtcibkbhpbmjifaaGrpField
set_option linter.unusedVariables false
set_option linter.unusedSimpArgs false
namespace Go.Proofs.Ytcibkbhpbmjifaa.Grp
open Go.RowKit

theorem ginv_gexp (a d : Int) (hd : d ≤ 9223372036854775807) (ha : a % 2305843009213693951 ≠ 0) : ginv (gexp a d) = gexp a (gsubN 0 d) := by
  unfold ginv
  rw [gexp_gexp a d _ hd (by decide) ha]
  apply gexp_mod _ _ _ (by omega) (by unfold gsubN; omega) ha
  unfold gsubN
  omega

set_option maxRecDepth 100000 in
set_option maxHeartbeats 1000000 in
theorem powers_a (a b d e : Int) (w : World) (d0 : -9223372036854775808 ≤ d) (d1 : d ≤ 9223372036854775807) (k0 : -9223372036854775808 ≤ e) (k1 : e ≤ 9223372036854775807) (h : Hid (a % 2305843009213693951 = 0)) :
    Calls Try.prog 5 #[.int .i64 a, .int .i64 b, .int .i64 d, .int .i64 e] w fun e w' => e = .returned (.bool true) ∧ Q w w' := by
  have e1 : (gexp a 0 != 1) = false := bne_f (gexp_zero a)
  have e2 : (gexp a 1 != gadd a 0) = false := bne_f (by rw [gexp_one]; unfold gadd; rw [Int.add_zero])
  have e3 : (gexp a 2 != gmul a a) = false := bne_f (gexp_two a)
  have f1 : (gadd a 0 == 0) = true := beq_t (by unfold gadd; rw [Int.add_zero]; exact h.out)
  go_enter Try.func5, Try.ntmps5
  go_wp2_with (first | (go_at_call 8; refine (small_any _).mono ?_; rintro e w' ⟨rfl, hq⟩) | (go_at_call 11; refine (Add_any _ _ _).mono ?_; rintro e w' ⟨rfl, rfl⟩) | (go_at_call 19; refine (AddN_any _ _ _).mono ?_; rintro e w' ⟨rfl, rfl⟩) | (go_at_call 13; refine (Sub_any _ _ _).mono ?_; rintro e w' ⟨rfl, rfl⟩) | (go_at_call 21; refine (SubN_any _ _ _).mono ?_; rintro e w' ⟨rfl, rfl⟩) | (go_at_call 15; refine (Mul_any _ _ _).mono ?_; rintro e w' ⟨rfl, hq⟩) | (go_at_call 23; refine (MulN_any _ _ _).mono ?_; rintro e w' ⟨rfl, hq⟩) | (go_at_call 17; refine (Exp_any _ _ _ (by omega) (by omega)).mono ?_; rintro e w' ⟨rfl, hq⟩))
  go_ret
  exact ⟨rfl, by repeat (first | exact Q.refl _ | assumption | refine Q.trans ?_ (by assumption))⟩
set_option maxRecDepth 100000 in
set_option maxHeartbeats 1000000 in
theorem powers_b (a b d e : Int) (w : World) (d0 : -9223372036854775808 ≤ d) (d1 : d ≤ 9223372036854775807) (k0 : -9223372036854775808 ≤ e) (k1 : e ≤ 9223372036854775807) (h : Hid (a % 2305843009213693951 ≠ 0)) (hb : Hid (b % 2305843009213693951 = 0)) :
    Calls Try.prog 5 #[.int .i64 a, .int .i64 b, .int .i64 d, .int .i64 e] w fun e w' => e = .returned (.bool true) ∧ Q w w' := by
  have e1 : (gexp a 0 != 1) = false := bne_f (gexp_zero a)
  have e2 : (gexp a 1 != gadd a 0) = false := bne_f (by rw [gexp_one]; unfold gadd; rw [Int.add_zero])
  have e3 : (gexp a 2 != gmul a a) = false := bne_f (gexp_two a)
  have f1 : (gadd a 0 == 0) = false := beq_f (by unfold gadd; rw [Int.add_zero]; exact h.out)
  have f2 : (gadd b 0 == 0) = true := beq_t (by unfold gadd; rw [Int.add_zero]; exact hb.out)
  go_enter Try.func5, Try.ntmps5
  go_wp2_with (first | (go_at_call 8; refine (small_any _).mono ?_; rintro e w' ⟨rfl, hq⟩) | (go_at_call 11; refine (Add_any _ _ _).mono ?_; rintro e w' ⟨rfl, rfl⟩) | (go_at_call 19; refine (AddN_any _ _ _).mono ?_; rintro e w' ⟨rfl, rfl⟩) | (go_at_call 13; refine (Sub_any _ _ _).mono ?_; rintro e w' ⟨rfl, rfl⟩) | (go_at_call 21; refine (SubN_any _ _ _).mono ?_; rintro e w' ⟨rfl, rfl⟩) | (go_at_call 15; refine (Mul_any _ _ _).mono ?_; rintro e w' ⟨rfl, hq⟩) | (go_at_call 23; refine (MulN_any _ _ _).mono ?_; rintro e w' ⟨rfl, hq⟩) | (go_at_call 17; refine (Exp_any _ _ _ (by omega) (by omega)).mono ?_; rintro e w' ⟨rfl, hq⟩))
  go_ret
  exact ⟨rfl, by repeat (first | exact Q.refl _ | assumption | refine Q.trans ?_ (by assumption))⟩
set_option maxRecDepth 100000 in
set_option maxHeartbeats 1000000 in
theorem powers_n (a b d e : Int) (w : World) (d0 : -9223372036854775808 ≤ d) (d1 : d ≤ 9223372036854775807) (k0 : -9223372036854775808 ≤ e) (k1 : e ≤ 9223372036854775807) (h : Hid (a % 2305843009213693951 ≠ 0)) (hb : Hid (b % 2305843009213693951 ≠ 0)) :
    Calls Try.prog 5 #[.int .i64 a, .int .i64 b, .int .i64 d, .int .i64 e] w fun e w' => e = .returned (.bool true) ∧ Q w w' := by
  have e1 : (gexp a 0 != 1) = false := bne_f (gexp_zero a)
  have e2 : (gexp a 1 != gadd a 0) = false := bne_f (by rw [gexp_one]; unfold gadd; rw [Int.add_zero])
  have e3 : (gexp a 2 != gmul a a) = false := bne_f (gexp_two a)
  have f1 : (gadd a 0 == 0) = false := beq_f (by unfold gadd; rw [Int.add_zero]; exact h.out)
  have f2 : (gadd b 0 == 0) = false := beq_f (by unfold gadd; rw [Int.add_zero]; exact hb.out)
  obtain ⟨s0, s1⟩ := gaddN_bd d e
  obtain ⟨t0, t1⟩ := gmulN_bd d e
  obtain ⟨u0, u1⟩ := gsubN_bd 0 d
  obtain ⟨v0, v1⟩ := gaddN_bd d 0
  have e4 : (gmul (gexp a d) (gexp a e) == gexp a (gaddN d e)) = true := beq_t (gexp_add a d e d1 k1 h.out)
  have e5 : (gexp (gexp a d) e == gexp a (gmulN d e)) = true := beq_t (gexp_gexp a d e d1 k1 h.out)
  have e6 : (gmul (gexp a d) (gexp b d) == gexp (gmul a b) d) = true := beq_t (gexp_mul a b d d1 h.out hb.out)
  have HI := Lib.hid (gexp_ne a d d1 h.out)
  have e7 : (ginv (gexp a d) == gexp a (gsubN 0 d)) = true := beq_t (ginv_gexp a d d1 h.out)
  have e8 : (gexp a d == gexp a (gaddN d 0)) = true := beq_t (gexp_mod a _ _ d1 (by omega) h.out (by unfold gaddN; omega))
  go_enter Try.func5, Try.ntmps5
  go_wp2_with (first | (go_at_call 8; refine (small_any _).mono ?_; rintro e w' ⟨rfl, hq⟩) | (go_at_call 11; refine (Add_any _ _ _).mono ?_; rintro e w' ⟨rfl, rfl⟩) | (go_at_call 19; refine (AddN_any _ _ _).mono ?_; rintro e w' ⟨rfl, rfl⟩) | (go_at_call 13; refine (Sub_any _ _ _).mono ?_; rintro e w' ⟨rfl, rfl⟩) | (go_at_call 21; refine (SubN_any _ _ _).mono ?_; rintro e w' ⟨rfl, rfl⟩) | (go_at_call 15; refine (Mul_any _ _ _).mono ?_; rintro e w' ⟨rfl, hq⟩) | (go_at_call 23; refine (MulN_any _ _ _).mono ?_; rintro e w' ⟨rfl, hq⟩) | (go_at_call 17; refine (Exp_any _ _ _ (by omega) (by omega)).mono ?_; rintro e w' ⟨rfl, hq⟩) | (go_at_call 9; refine (Inv_yes _ _ HI.out).mono ?_; rintro e w' ⟨rfl, hq⟩))
  go_ret
  exact ⟨rfl, by repeat (first | exact Q.refl _ | assumption | refine Q.trans ?_ (by assumption))⟩

theorem powers_any (a b d e : Int) (w : World) (d0 : -9223372036854775808 ≤ d) (d1 : d ≤ 9223372036854775807) (k0 : -9223372036854775808 ≤ e) (k1 : e ≤ 9223372036854775807) :
    Calls Try.prog 5 #[.int .i64 a, .int .i64 b, .int .i64 d, .int .i64 e] w fun e w' => e = .returned (.bool true) ∧ Q w w' := by
  by_cases h : a % 2305843009213693951 = 0
  · exact powers_a a b d e w d0 d1 k0 k1 (Lib.hid h)
  · by_cases hb : b % 2305843009213693951 = 0
    · exact powers_b a b d e w d0 d1 k0 k1 (Lib.hid h) (Lib.hid hb)
    · exact powers_n a b d e w d0 d1 k0 k1 (Lib.hid h) (Lib.hid hb)

end Go.Proofs.Ytcibkbhpbmjifaa.Grp
