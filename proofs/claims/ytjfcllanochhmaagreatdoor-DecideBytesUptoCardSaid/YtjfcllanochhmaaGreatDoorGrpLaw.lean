/-
  Plain laws of what package group computes: the residues modulo P = 2^61 - 1 are a field, those modulo N = P - 1 a ring, powers. No program in this text.
-/
import Derived.Test.YtjfcllanochhmaaGreatDoorGrpWalk
set_option linter.unusedVariables false
set_option linter.unusedSimpArgs false
namespace Go.Proofs.YtjfcllanochhmaaGreatDoor.Grp
open Go.RowKit

theorem gexp_bd (a e : Int) : 0 ≤ gexp a e ∧ gexp a e < 2305843009213693951 := by
  have h := mpw_lt 2305843009213693951 (by decide) 64 1 (a % 2305843009213693951).toNat (expo e) (by decide)
  unfold gexp pow
  omega

theorem expo_lt (e : Int) (h : e ≤ 9223372036854775807) : expo e < 18446744073709551616 := by
  unfold expo
  split <;> omega

theorem gexp_nat (a e : Int) (h : e ≤ 9223372036854775807) : gexp a e = (((a % 2305843009213693951).toNat ^ expo e % 2305843009213693951 : Nat) : Int) := by
  unfold gexp
  rw [pow_eq _ _ (expo_lt e h)]

/-- The residue of a number as a natural number. -/
def res (a : Int) : Nat := (a % 2305843009213693951).toNat
theorem res_cast (a : Int) : ((res a : Nat) : Int) = a % 2305843009213693951 := by unfold res; omega
theorem res_lt (a : Int) : res a < 2305843009213693951 := by unfold res; omega
theorem res_ne {a : Int} (h : a % 2305843009213693951 ≠ 0) : res a % 2305843009213693951 ≠ 0 := by unfold res; omega
theorem res_of_lt {x : Nat} (h : x < 2305843009213693951) : res (x : Int) = x := by unfold res; omega
theorem res_mod (x : Nat) : res ((x % 2305843009213693951 : Nat) : Int) = x % 2305843009213693951 := res_of_lt (Nat.mod_lt _ (by decide))

/-- With a nonzero base, exponents count modulo N. -/
theorem gexp_res (a e : Int) (h : e ≤ 9223372036854775807) (ha : a % 2305843009213693951 ≠ 0) : gexp a e = ((res a ^ (e % 2305843009213693950).toNat % 2305843009213693951 : Nat) : Int) := by
  rw [gexp_nat a e h]
  by_cases hn : e < 0
  · unfold expo; rw [if_pos hn]; rfl
  · have h1 : expo e = e.toNat := by unfold expo; rw [if_neg hn]
    have h2 : (e % 2305843009213693950).toNat = e.toNat % NN := by unfold NN; omega
    rw [h1, h2, exp_mod _ (res_ne ha)]
    rfl

theorem gexp_ne (a e : Int) (h : e ≤ 9223372036854775807) (ha : a % 2305843009213693951 ≠ 0) : gexp a e % 2305843009213693951 ≠ 0 := by
  have h1 := pow_ne (res a) (res_ne ha) (e % 2305843009213693950).toNat
  rw [gexp_res a e h ha]
  omega

theorem gexp_mod (a e f : Int) (he : e ≤ 9223372036854775807) (hf : f ≤ 9223372036854775807) (ha : a % 2305843009213693951 ≠ 0) (h : e % 2305843009213693950 = f % 2305843009213693950) : gexp a e = gexp a f := by
  rw [gexp_res a e he ha, gexp_res a f hf ha, h]

theorem gmul_nat (x y : Nat) : ((x : Int) * (y : Int)) % 2305843009213693951 = ((x * y % 2305843009213693951 : Nat) : Int) := by
  rw [← Int.natCast_mul]; omega

theorem gexp_add (a d e : Int) (hd : d ≤ 9223372036854775807) (he : e ≤ 9223372036854775807) (ha : a % 2305843009213693951 ≠ 0) : gexp a d * gexp a e % 2305843009213693951 = gexp a ((d + e) % 2305843009213693950) := by
  rw [gexp_res a d hd ha, gexp_res a e he ha, gexp_res a _ (by omega) ha, gmul_nat, ← Nat.mul_mod, ← Nat.pow_add]
  have h : ((d + e) % 2305843009213693950 % 2305843009213693950).toNat = ((d % 2305843009213693950).toNat + (e % 2305843009213693950).toNat) % NN := by unfold NN; omega
  rw [h, exp_mod _ (res_ne ha)]

theorem gexp_gexp (a d e : Int) (hd : d ≤ 9223372036854775807) (he : e ≤ 9223372036854775807) (ha : a % 2305843009213693951 ≠ 0) : gexp (gexp a d) e = gexp a (d * e % 2305843009213693950) := by
  rw [gexp_res (gexp a d) e he (gexp_ne a d hd ha), gexp_res a d hd ha, gexp_res a _ (by omega) ha, res_mod, ← Nat.pow_mod, ← Nat.pow_mul]
  have h : (d * e % 2305843009213693950 % 2305843009213693950).toNat = ((d % 2305843009213693950).toNat * (e % 2305843009213693950).toNat) % NN := by
    have h1 : d * e % 2305843009213693950 = (d % 2305843009213693950) * (e % 2305843009213693950) % 2305843009213693950 := Int.mul_emod _ _ _
    rw [Int.emod_emod, h1]
    obtain ⟨x, hx⟩ := Int.eq_ofNat_of_zero_le (show 0 ≤ d % 2305843009213693950 by omega)
    obtain ⟨y, hy⟩ := Int.eq_ofNat_of_zero_le (show 0 ≤ e % 2305843009213693950 by omega)
    rw [hx, hy, ← Int.natCast_mul]
    unfold NN
    simp only [Int.toNat_natCast]
    omega
  rw [h, exp_mod _ (res_ne ha)]

theorem gexp_mul (a b d : Int) (hd : d ≤ 9223372036854775807) (ha : a % 2305843009213693951 ≠ 0) (hb : b % 2305843009213693951 ≠ 0) : gexp a d * gexp b d % 2305843009213693951 = gexp (a * b % 2305843009213693951) d := by
  have e1 : res (a * b % 2305843009213693951) = res a * res b % 2305843009213693951 := by
    unfold res
    rw [Int.emod_emod, Int.mul_emod]
    exact mulmod_toNat _ _ (by omega) (by omega)
  have hab : a * b % 2305843009213693951 % 2305843009213693951 ≠ 0 := by
    have h := mul_ne (res a) (res b) (res_ne ha) (res_ne hb)
    rw [← e1] at h
    have := res_cast (a * b % 2305843009213693951)
    omega
  rw [gexp_res a d hd ha, gexp_res b d hd hb, gexp_res _ d hd hab, gmul_nat, ← Nat.mul_mod, ← Nat.mul_pow, e1, ← Nat.pow_mod]

theorem gmul_ne (a b : Int) (ha : a % 2305843009213693951 ≠ 0) (hb : b % 2305843009213693951 ≠ 0) : a * b % 2305843009213693951 ≠ 0 := by
  have h := mul_ne (res a) (res b) (res_ne ha) (res_ne hb)
  have e1 : a * b % 2305843009213693951 = ((res a * res b % 2305843009213693951 : Nat) : Int) := by
    rw [← gmul_nat, res_cast, res_cast, ← Int.mul_emod]
  omega

/-- The inverse. -/
theorem ginv_mul (a : Int) (ha : a % 2305843009213693951 ≠ 0) : a * ginv a % 2305843009213693951 = 1 := by
  have h := inv_pow (res a) (res_ne ha)
  unfold ginv
  rw [gexp_res a _ (by decide) ha, Int.mul_emod, ← res_cast a]
  have e : ((2305843009213693949 : Int) % 2305843009213693950).toNat = NM := by unfold NM; decide
  have e2 : (((res a ^ NM % 2305843009213693951 : Nat) : Int) % 2305843009213693951) = ((res a ^ NM % 2305843009213693951 : Nat) : Int) := by omega
  rw [e, e2, gmul_nat, Nat.mul_mod_mod, h]
  rfl

theorem gexp_one (a : Int) : gexp a 1 = a % 2305843009213693951 := by
  rw [gexp_nat a 1 (by decide)]
  have : expo 1 = 1 := by decide
  rw [this, Nat.pow_one]
  omega
theorem gexp_zero (a : Int) : gexp a 0 = 1 := by
  rw [gexp_nat a 0 (by decide)]
  have : expo 0 = 0 := by decide
  rw [this, Nat.pow_zero]
  decide
theorem gexp_two (a : Int) : gexp a 2 = a * a % 2305843009213693951 := by
  rw [gexp_nat a 2 (by decide)]
  have : expo 2 = 2 := by decide
  rw [this, Nat.pow_two, ← gmul_nat, Int.mul_emod a a]
  have h : (((a % 2305843009213693951).toNat : Nat) : Int) = a % 2305843009213693951 := by omega
  rw [h]

/-- Exponents with one power of 37 agree modulo N. -/
theorem gexp_g (d e : Int) (hd : d ≤ 9223372036854775807) (he : e ≤ 9223372036854775807) (h : gexp 37 d = gexp 37 e) : d % 2305843009213693950 = e % 2305843009213693950 := by
  rw [gexp_res 37 d hd (by decide), gexp_res 37 e he (by decide)] at h
  have r : res 37 = 37 := by decide
  rw [r] at h
  have h1 := g_inj (Int.ofNat_inj.1 h)
  omega

end Go.Proofs.YtjfcllanochhmaaGreatDoor.Grp
