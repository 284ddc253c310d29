/-
  The walk of agoralaw04.GroupField.
-/
import Derived.Test.YtcibkbhpbmjifaaGrpSmall
set_option linter.unusedVariables false
set_option linter.unusedSimpArgs false
namespace Go.Proofs.Ytcibkbhpbmjifaa.Grp
open Go.RowKit

theorem gmul_assoc (a b c : Int) : gmul (gmul a b) c = gmul a (gmul b c) := by
  unfold gmul
  rw [Int.mul_emod, Int.emod_emod, ← Int.mul_emod, Int.mul_assoc, Int.mul_emod a (b * c % _), Int.emod_emod, ← Int.mul_emod]
theorem gmul_add (a b c : Int) : gmul a (gadd b c) = gadd (gmul a b) (gmul a c) := by
  unfold gmul gadd
  rw [Int.mul_emod, Int.emod_emod, ← Int.mul_emod, Int.mul_add, ← Int.add_emod]
theorem gmul_comm (a b : Int) : gmul a b = gmul b a := by unfold gmul; rw [Int.mul_comm]
theorem gmul_zero (a b : Int) (h : b % 2305843009213693951 = 0) : gmul a b = 0 := by
  unfold gmul
  rw [Int.mul_emod, h, Int.mul_zero]; rfl
theorem gmul_inv (a : Int) (h : a % 2305843009213693951 ≠ 0) : gmul a (ginv a) = 1 := ginv_mul a h
theorem gmul_one (a : Int) : gmul a 1 = a % 2305843009213693951 := by unfold gmul; rw [Int.mul_one]
theorem gmul_div (a b : Int) (h : a % 2305843009213693951 ≠ 0) : gmul (gmul b a) (ginv a) = gadd b 0 := by
  rw [gmul_assoc, gmul_inv a h, gmul_one]; unfold gadd; rw [Int.add_zero]

set_option maxRecDepth 100000 in
set_option maxHeartbeats 1000000 in
theorem field_yy (a b c : Int) (w : World) (h : Hid (a % 2305843009213693951 ≠ 0)) (hb : Hid (b % 2305843009213693951 ≠ 0)) :
    Calls Try.prog 4 #[.int .i64 a, .int .i64 b, .int .i64 c] w fun e w' => e = .returned (.bool true) ∧ Q w w' := by
  obtain ⟨x0, x1⟩ := gadd_bd a 0
  have e1 : (gmul a 1 == gadd a 0) = true := beq_t (by unfold gmul gadd; rw [Int.mul_one, Int.add_zero])
  have e2 : (gsub a 0 == gadd a 0) = true := beq_t (by unfold gsub gadd; rw [Int.sub_zero, Int.add_zero])
  have e3 : (gadd (gadd a 0) 2305843009213693951 == gadd a 0) = true := beq_t (by unfold gadd; omega)
  have e4 : (gsub a a == 0) = true := beq_t (by unfold gsub; omega)
  have e5 : (gadd a b == gadd b a) = true := beq_t (by unfold gadd; omega)
  have e6 : (gmul a b == gmul b a) = true := beq_t (by unfold gmul; rw [Int.mul_comm])
  have e7 : (gsub (gadd a b) b == gadd a 0) = true := beq_t (by unfold gsub gadd; omega)
  have e8 : (gadd (gadd a b) c == gadd a (gadd b c)) = true := beq_t (by unfold gadd; omega)
  have e9 : (gmul (gmul a b) c == gmul a (gmul b c)) = true := beq_t (gmul_assoc a b c)
  have e10 : (gmul a (gadd b c) == gadd (gmul a b) (gmul a c)) = true := beq_t (gmul_add a b c)
  have f1 : (gadd a 0 == 0) = false := beq_f (by unfold gadd; rw [Int.add_zero]; exact h.out)
  have f2 : (gadd a 0 != 0) = true := bne_t (by unfold gadd; rw [Int.add_zero]; exact h.out)
  obtain ⟨g0, g1⟩ := ginv_bd a
  have e11 : (gmul a (ginv a) == 1) = true := beq_t (gmul_inv a h.out)
  have e12 : (gmul (gmul b a) (ginv a) == gadd b 0) = true := beq_t (gmul_div a b h.out)
  have f3 : (gmul a b == 0) = false := beq_f (gmul_ne a b h.out hb.out)
  have f4 : (gadd b 0 == 0) = false := beq_f (by unfold gadd; rw [Int.add_zero]; exact hb.out)
  go_enter Try.func4, Try.ntmps4
  go_wp2_with (first | (go_at_call 8; refine (small_any _).mono ?_; rintro e w' ⟨rfl, hq⟩) | (go_at_call 25; refine (in_yes _ _ _ (by with_reducible assumption) (by with_reducible assumption)).mono ?_; rintro e w' ⟨rfl, rfl⟩) | (go_at_call 11; refine (Add_any _ _ _).mono ?_; rintro e w' ⟨rfl, rfl⟩) | (go_at_call 19; refine (AddN_any _ _ _).mono ?_; rintro e w' ⟨rfl, rfl⟩) | (go_at_call 13; refine (Sub_any _ _ _).mono ?_; rintro e w' ⟨rfl, rfl⟩) | (go_at_call 21; refine (SubN_any _ _ _).mono ?_; rintro e w' ⟨rfl, rfl⟩) | (go_at_call 15; refine (Mul_any _ _ _).mono ?_; rintro e w' ⟨rfl, hq⟩) | (go_at_call 23; refine (MulN_any _ _ _).mono ?_; rintro e w' ⟨rfl, hq⟩) | (go_at_call 9; refine (Inv_yes _ _ h.out).mono ?_; rintro e w' ⟨rfl, hq⟩))
  go_ret
  exact ⟨rfl, by repeat (first | exact Q.refl _ | assumption | refine Q.trans ?_ (by assumption))⟩
set_option maxRecDepth 100000 in
set_option maxHeartbeats 1000000 in
theorem field_yn (a b c : Int) (w : World) (h : Hid (a % 2305843009213693951 ≠ 0)) (hb : Hid (b % 2305843009213693951 = 0)) :
    Calls Try.prog 4 #[.int .i64 a, .int .i64 b, .int .i64 c] w fun e w' => e = .returned (.bool true) ∧ Q w w' := by
  obtain ⟨x0, x1⟩ := gadd_bd a 0
  have e1 : (gmul a 1 == gadd a 0) = true := beq_t (by unfold gmul gadd; rw [Int.mul_one, Int.add_zero])
  have e2 : (gsub a 0 == gadd a 0) = true := beq_t (by unfold gsub gadd; rw [Int.sub_zero, Int.add_zero])
  have e3 : (gadd (gadd a 0) 2305843009213693951 == gadd a 0) = true := beq_t (by unfold gadd; omega)
  have e4 : (gsub a a == 0) = true := beq_t (by unfold gsub; omega)
  have e5 : (gadd a b == gadd b a) = true := beq_t (by unfold gadd; omega)
  have e6 : (gmul a b == gmul b a) = true := beq_t (by unfold gmul; rw [Int.mul_comm])
  have e7 : (gsub (gadd a b) b == gadd a 0) = true := beq_t (by unfold gsub gadd; omega)
  have e8 : (gadd (gadd a b) c == gadd a (gadd b c)) = true := beq_t (by unfold gadd; omega)
  have e9 : (gmul (gmul a b) c == gmul a (gmul b c)) = true := beq_t (gmul_assoc a b c)
  have e10 : (gmul a (gadd b c) == gadd (gmul a b) (gmul a c)) = true := beq_t (gmul_add a b c)
  have f1 : (gadd a 0 == 0) = false := beq_f (by unfold gadd; rw [Int.add_zero]; exact h.out)
  have f2 : (gadd a 0 != 0) = true := bne_t (by unfold gadd; rw [Int.add_zero]; exact h.out)
  obtain ⟨g0, g1⟩ := ginv_bd a
  have e11 : (gmul a (ginv a) == 1) = true := beq_t (gmul_inv a h.out)
  have e12 : (gmul (gmul b a) (ginv a) == gadd b 0) = true := beq_t (gmul_div a b h.out)
  have f3 : (gmul a b == 0) = true := beq_t (gmul_zero a b hb.out)
  have f4 : (gadd b 0 == 0) = true := beq_t (by unfold gadd; rw [Int.add_zero]; exact hb.out)
  go_enter Try.func4, Try.ntmps4
  go_wp2_with (first | (go_at_call 8; refine (small_any _).mono ?_; rintro e w' ⟨rfl, hq⟩) | (go_at_call 25; refine (in_yes _ _ _ (by with_reducible assumption) (by with_reducible assumption)).mono ?_; rintro e w' ⟨rfl, rfl⟩) | (go_at_call 11; refine (Add_any _ _ _).mono ?_; rintro e w' ⟨rfl, rfl⟩) | (go_at_call 19; refine (AddN_any _ _ _).mono ?_; rintro e w' ⟨rfl, rfl⟩) | (go_at_call 13; refine (Sub_any _ _ _).mono ?_; rintro e w' ⟨rfl, rfl⟩) | (go_at_call 21; refine (SubN_any _ _ _).mono ?_; rintro e w' ⟨rfl, rfl⟩) | (go_at_call 15; refine (Mul_any _ _ _).mono ?_; rintro e w' ⟨rfl, hq⟩) | (go_at_call 23; refine (MulN_any _ _ _).mono ?_; rintro e w' ⟨rfl, hq⟩) | (go_at_call 9; refine (Inv_yes _ _ h.out).mono ?_; rintro e w' ⟨rfl, hq⟩))
  go_ret
  exact ⟨rfl, by repeat (first | exact Q.refl _ | assumption | refine Q.trans ?_ (by assumption))⟩
set_option maxRecDepth 100000 in
set_option maxHeartbeats 1000000 in
theorem field_n (a b c : Int) (w : World) (h : Hid (a % 2305843009213693951 = 0)) :
    Calls Try.prog 4 #[.int .i64 a, .int .i64 b, .int .i64 c] w fun e w' => e = .returned (.bool true) ∧ Q w w' := by
  obtain ⟨x0, x1⟩ := gadd_bd a 0
  have e1 : (gmul a 1 == gadd a 0) = true := beq_t (by unfold gmul gadd; rw [Int.mul_one, Int.add_zero])
  have e2 : (gsub a 0 == gadd a 0) = true := beq_t (by unfold gsub gadd; rw [Int.sub_zero, Int.add_zero])
  have e3 : (gadd (gadd a 0) 2305843009213693951 == gadd a 0) = true := beq_t (by unfold gadd; omega)
  have e4 : (gsub a a == 0) = true := beq_t (by unfold gsub; omega)
  have e5 : (gadd a b == gadd b a) = true := beq_t (by unfold gadd; omega)
  have e6 : (gmul a b == gmul b a) = true := beq_t (by unfold gmul; rw [Int.mul_comm])
  have e7 : (gsub (gadd a b) b == gadd a 0) = true := beq_t (by unfold gsub gadd; omega)
  have e8 : (gadd (gadd a b) c == gadd a (gadd b c)) = true := beq_t (by unfold gadd; omega)
  have e9 : (gmul (gmul a b) c == gmul a (gmul b c)) = true := beq_t (gmul_assoc a b c)
  have e10 : (gmul a (gadd b c) == gadd (gmul a b) (gmul a c)) = true := beq_t (gmul_add a b c)
  have f1 : (gadd a 0 == 0) = true := beq_t (by unfold gadd; rw [Int.add_zero]; exact h.out)
  have f2 : (gadd a 0 != 0) = false := bne_f (by unfold gadd; rw [Int.add_zero]; exact h.out)
  have f3 : (gmul a b == 0) = true := beq_t (by rw [gmul_comm]; exact gmul_zero b a h.out)
  go_enter Try.func4, Try.ntmps4
  go_wp2_with (first | (go_at_call 8; refine (small_any _).mono ?_; rintro e w' ⟨rfl, hq⟩) | (go_at_call 25; refine (in_yes _ _ _ (by with_reducible assumption) (by with_reducible assumption)).mono ?_; rintro e w' ⟨rfl, rfl⟩) | (go_at_call 11; refine (Add_any _ _ _).mono ?_; rintro e w' ⟨rfl, rfl⟩) | (go_at_call 19; refine (AddN_any _ _ _).mono ?_; rintro e w' ⟨rfl, rfl⟩) | (go_at_call 13; refine (Sub_any _ _ _).mono ?_; rintro e w' ⟨rfl, rfl⟩) | (go_at_call 21; refine (SubN_any _ _ _).mono ?_; rintro e w' ⟨rfl, rfl⟩) | (go_at_call 15; refine (Mul_any _ _ _).mono ?_; rintro e w' ⟨rfl, hq⟩) | (go_at_call 23; refine (MulN_any _ _ _).mono ?_; rintro e w' ⟨rfl, hq⟩) | (go_at_call 9; refine (Inv_no _ _ h.out).mono ?_; rintro e w' ⟨rfl, rfl⟩))
  go_ret
  exact ⟨rfl, by repeat (first | exact Q.refl _ | assumption | refine Q.trans ?_ (by assumption))⟩

theorem field_any (a b c : Int) (w : World) :
    Calls Try.prog 4 #[.int .i64 a, .int .i64 b, .int .i64 c] w fun e w' => e = .returned (.bool true) ∧ Q w w' := by
  by_cases h : a % 2305843009213693951 = 0
  · exact field_n a b c w (Lib.hid h)
  · by_cases hb : b % 2305843009213693951 = 0
    · exact field_yn a b c w (Lib.hid h) (Lib.hid hb)
    · exact field_yy a b c w (Lib.hid h) (Lib.hid hb)

end Go.Proofs.Ytcibkbhpbmjifaa.Grp
