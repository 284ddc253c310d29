/-
  The walk of agoralaw04.GroupGenerates.
-/
import Derived.Test.YtcibkbhpbmjifaaGrpSmall
set_option linter.unusedVariables false
set_option linter.unusedSimpArgs false
namespace Go.Proofs.Ytcibkbhpbmjifaa.Grp
open Go.RowKit

set_option maxRecDepth 100000 in
set_option maxHeartbeats 1000000 in
theorem gen_y (d e : Int) (w : World) (d0 : -9223372036854775808 ≤ d) (d1 : d ≤ 9223372036854775807) (k0 : -9223372036854775808 ≤ e) (k1 : e ≤ 9223372036854775807) (h : Hid (d % 2305843009213693950 = e % 2305843009213693950)) :
    Calls Try.prog 7 #[.int .i64 d, .int .i64 e] w fun e w' => e = .returned (.bool true) ∧ Q w w' := by
  have hx := gexp_ne 37 d d1 (by decide)
  have x0 : 1 ≤ gexp 37 d := by have := gexp_bd 37 d; omega
  have x1 : gexp 37 d < 2305843009213693951 := (gexp_bd 37 d).2
  clear hx
  have e1 : (gexp 37 d == gexp 37 e) = true := beq_t (gexp_mod 37 d e d1 k1 (by decide) h.out)
  have e2 : (gsubN d e == 0) = true := beq_t (by have := h.out; unfold gsubN; omega)
  go_enter Try.func7, Try.ntmps7
  go_wp2_with (first | (go_at_call 8; refine (small_any _).mono ?_; rintro e w' ⟨rfl, hq⟩) | (go_at_call 11; refine (Add_any _ _ _).mono ?_; rintro e w' ⟨rfl, rfl⟩) | (go_at_call 19; refine (AddN_any _ _ _).mono ?_; rintro e w' ⟨rfl, rfl⟩) | (go_at_call 13; refine (Sub_any _ _ _).mono ?_; rintro e w' ⟨rfl, rfl⟩) | (go_at_call 21; refine (SubN_any _ _ _).mono ?_; rintro e w' ⟨rfl, rfl⟩) | (go_at_call 15; refine (Mul_any _ _ _).mono ?_; rintro e w' ⟨rfl, hq⟩) | (go_at_call 23; refine (MulN_any _ _ _).mono ?_; rintro e w' ⟨rfl, hq⟩) | (go_at_call 17; refine (Exp_any _ _ _ (by omega) (by omega)).mono ?_; rintro e w' ⟨rfl, hq⟩))
  go_ret
  exact ⟨rfl, by repeat (first | exact Q.refl _ | assumption | refine Q.trans ?_ (by assumption))⟩
set_option maxRecDepth 100000 in
set_option maxHeartbeats 1000000 in
theorem gen_n (d e : Int) (w : World) (d0 : -9223372036854775808 ≤ d) (d1 : d ≤ 9223372036854775807) (k0 : -9223372036854775808 ≤ e) (k1 : e ≤ 9223372036854775807) (h : Hid (d % 2305843009213693950 ≠ e % 2305843009213693950)) :
    Calls Try.prog 7 #[.int .i64 d, .int .i64 e] w fun e w' => e = .returned (.bool true) ∧ Q w w' := by
  have hx := gexp_ne 37 d d1 (by decide)
  have x0 : 1 ≤ gexp 37 d := by have := gexp_bd 37 d; omega
  have x1 : gexp 37 d < 2305843009213693951 := (gexp_bd 37 d).2
  clear hx
  have e1 : (gexp 37 d == gexp 37 e) = false := beq_f (fun q => h.out (gexp_g d e d1 k1 q))
  have e2 : (gsubN d e == 0) = false := beq_f (by have := h.out; unfold gsubN; omega)
  go_enter Try.func7, Try.ntmps7
  go_wp2_with (first | (go_at_call 8; refine (small_any _).mono ?_; rintro e w' ⟨rfl, hq⟩) | (go_at_call 11; refine (Add_any _ _ _).mono ?_; rintro e w' ⟨rfl, rfl⟩) | (go_at_call 19; refine (AddN_any _ _ _).mono ?_; rintro e w' ⟨rfl, rfl⟩) | (go_at_call 13; refine (Sub_any _ _ _).mono ?_; rintro e w' ⟨rfl, rfl⟩) | (go_at_call 21; refine (SubN_any _ _ _).mono ?_; rintro e w' ⟨rfl, rfl⟩) | (go_at_call 15; refine (Mul_any _ _ _).mono ?_; rintro e w' ⟨rfl, hq⟩) | (go_at_call 23; refine (MulN_any _ _ _).mono ?_; rintro e w' ⟨rfl, hq⟩) | (go_at_call 17; refine (Exp_any _ _ _ (by omega) (by omega)).mono ?_; rintro e w' ⟨rfl, hq⟩))
  go_ret
  exact ⟨rfl, by repeat (first | exact Q.refl _ | assumption | refine Q.trans ?_ (by assumption))⟩

theorem gen_any (d e : Int) (w : World) (d0 : -9223372036854775808 ≤ d) (d1 : d ≤ 9223372036854775807) (k0 : -9223372036854775808 ≤ e) (k1 : e ≤ 9223372036854775807) :
    Calls Try.prog 7 #[.int .i64 d, .int .i64 e] w fun e w' => e = .returned (.bool true) ∧ Q w w' := by
  by_cases h : d % 2305843009213693950 = e % 2305843009213693950
  · exact gen_y d e w d0 d1 k0 k1 (Lib.hid h)
  · exact gen_n d e w d0 d1 k0 k1 (Lib.hid h)

end Go.Proofs.Ytcibkbhpbmjifaa.Grp
