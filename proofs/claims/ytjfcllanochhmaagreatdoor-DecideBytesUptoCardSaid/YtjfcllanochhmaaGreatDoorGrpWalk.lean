/-
  The contracts of package group (layer 4), of agoraref04 and of the functions of math/bits that they call.
-/
import Derived.Test.YtjfcllanochhmaaGreatDoorRows
import Derived.Test.YtjfcllanochhmaaGreatDoorGrpNum
import Derived.Test.YtjfcllanochhmaaGreatDoorShelf
import Derived.Test.YtjfcllanochhmaaGreatDoorGrpBase
import Derived.Test.YtjfcllanochhmaaGreatDoorGrpDiv
import Derived.WalkKit
import Derived.WalkSpells
import Derived.WalkLawsBesides
import Derived.Lib.Hide
import Derived.Lib.Mul64
import Derived.Laws.Bits64b
import Derived.Deep.QuietTactic
import Derived.BigQuiet
set_option linter.unusedVariables false
set_option linter.unusedSimpArgs false
namespace Go.Proofs.YtjfcllanochhmaaGreatDoor.Grp
open Go.RowKit


theorem mul_res (a b m : Int) : (a % m * (b % m) / 18446744073709551616 * 18446744073709551616 + a % m * (b % m) % 18446744073709551616) % m = a * b % m := by
  have h := Int.mul_ediv_add_emod (a % m * (b % m)) 18446744073709551616
  rw [Int.mul_comm _ 18446744073709551616, h, ← Int.mul_emod]

theorem mul_bd {x y : Int} (x0 : 0 ≤ x) (y0 : 0 ≤ y) : 0 ≤ x * y / 18446744073709551616 := Int.ediv_nonneg (Int.mul_nonneg x0 y0) (by decide)
theorem mod64_bd (x : Int) : U64 (x % 18446744073709551616) := ⟨by omega, by omega⟩

set_option maxHeartbeats 400000 in
theorem mul_any (a b m : Int) (w : World) (hm : m = 2305843009213693951 ∨ m = 2305843009213693950) :
    Calls Tryz.prog 146 #[.int .i64 a, .int .i64 b, .int .i64 m] w fun e w' => e = .returned (.int .i64 (a * b % m)) ∧ Q w w' := by
  have m0 : 0 < m := by omega
  have m1 : m ≤ 2305843009213693951 := by omega
  obtain ⟨a0, a1⟩ := emod_bd a m0
  obtain ⟨b0, b1⟩ := emod_bd b m0
  have hr := emod_bd (a * b) m0
  have hr0 := hr.1
  have hr1 := hr.2
  have e0 := Lib.hid (mul_res a b m)
  have p0 := mul_bd a0 b0
  have HM := Lib.hid hm
  clear hm hr
  go_enter Tryz.func146, Tryz.ntmps146
  go_wp2_with (first | (go_at_call 143; refine (residue_any _ _ _ m0 (by omega)).mono ?_; rintro e w' ⟨rfl, rfl⟩) | (go_at_call 168; refine (mul64_any _ _ _ a0 (by omega) b0 (by omega)).mono ?_; rintro e w' ⟨rfl, rfl⟩))
  refine (rem64_any _ _ _ _ p0 (mod64_bd _) HM.out).mono ?_
  rintro e w' ⟨rfl, hq⟩
  rw [e0.out]
  go_wp2
  go_ret
  exact ⟨rfl, hq⟩

/-- The six operations of package group. -/
def gadd (a b : Int) : Int := (a + b) % 2305843009213693951
def gsub (a b : Int) : Int := (a - b) % 2305843009213693951
def gmul (a b : Int) : Int := a * b % 2305843009213693951
def gaddN (a b : Int) : Int := (a + b) % 2305843009213693950
def gsubN (a b : Int) : Int := (a - b) % 2305843009213693950
def gmulN (a b : Int) : Int := a * b % 2305843009213693950

set_option maxHeartbeats 400000 in
theorem AddN_any (a b : Int) (w : World) :
    Calls Tryz.prog 106 #[.int .i64 a, .int .i64 b] w fun e w' => e = .returned (.int .i64 (gaddN a b)) ∧ w = w' := by
  go_enter Tryz.func106, Tryz.ntmps106
  go_wp2_with (go_at_call 145; refine (add_any _ _ _ _ (by decide) (by decide)).mono ?_; rintro e w' ⟨rfl, rfl⟩)
  go_ret
  exact ⟨rfl, rfl⟩

set_option maxHeartbeats 400000 in
theorem Mul_any (a b : Int) (w : World) :
    Calls Tryz.prog 142 #[.int .i64 a, .int .i64 b] w fun e w' => e = .returned (.int .i64 (gmul a b)) ∧ Q w w' := by
  go_enter Tryz.func142, Tryz.ntmps142
  go_wp2_with (go_at_call 146; refine (mul_any _ _ _ _ (Or.inl rfl)).mono ?_; rintro e w' ⟨rfl, hq⟩)
  go_ret
  exact ⟨rfl, hq⟩

set_option maxHeartbeats 400000 in
theorem MulN_any (a b : Int) (w : World) :
    Calls Tryz.prog 107 #[.int .i64 a, .int .i64 b] w fun e w' => e = .returned (.int .i64 (gmulN a b)) ∧ Q w w' := by
  go_enter Tryz.func107, Tryz.ntmps107
  go_wp2_with (go_at_call 146; refine (mul_any _ _ _ _ (Or.inr rfl)).mono ?_; rintro e w' ⟨rfl, hq⟩)
  go_ret
  exact ⟨rfl, hq⟩

/-- The exponent that Exp uses. -/
def expo (e : Int) : Nat := (if e < 0 then e % 2305843009213693950 else e).toNat
/-- What Exp returns. -/
def gexp (a e : Int) : Int := (pow (a % 2305843009213693951).toNat (expo e) : Nat)

theorem and_one_i64 (x : Int) (h0 : 0 ≤ x) (h1 : x ≤ 9223372036854775807) : bits .and .i64 x 1 = x % 2 := by
  obtain ⟨a, rfl⟩ := Int.eq_ofNat_of_zero_le h0
  have ha : (BitVec.ofInt 64 (a : Int)).toNat = a := by
    rw [BitVec.ofInt_natCast, BitVec.toNat_ofNat]; exact Nat.mod_eq_of_lt (by omega)
  have hb : (BitVec.ofInt 64 (1 : Int)).toNat = 1 := by decide
  show IntKind.i64.wrap ((BitVec.ofInt 64 (a : Int) &&& BitVec.ofInt 64 (1 : Int)).toNat : Int) = _
  rw [BitVec.toNat_and, ha, hb, Nat.and_one_is_mod, IntWalk.i64_in _ (by omega)]
  omega

/-- After i rounds of square and multiply. -/
structure Sq (A E i : Nat) (r p : Int) : Prop where
  r0 : 0 ≤ r
  r1 : r < 2305843009213693951
  p0 : 0 ≤ p
  p1 : p < 2305843009213693951
  eq : r.toNat * p.toNat ^ (E / 2 ^ i) % 2305843009213693951 = A ^ E % 2305843009213693951

theorem sq_at (a : Int) (E : Nat) : Sq (a % 2305843009213693951).toNat E 0 1 (a % 2305843009213693951) := by
  obtain ⟨a0, a1⟩ := emod_bd a (show (0 : Int) < 2305843009213693951 by decide)
  exact ⟨by decide, by decide, a0, a1, by simp⟩

theorem half_pow (E i : Nat) : E / 2 ^ (i + 1) = E / 2 ^ i / 2 := by rw [Nat.pow_succ, Nat.div_div_eq_div_mul]

theorem mulmod_toNat (x y : Int) (x0 : 0 ≤ x) (y0 : 0 ≤ y) : (x * y % 2305843009213693951).toNat = x.toNat * y.toNat % 2305843009213693951 := by
  obtain ⟨a, rfl⟩ := Int.eq_ofNat_of_zero_le x0
  obtain ⟨b, rfl⟩ := Int.eq_ofNat_of_zero_le y0
  simp only [Int.toNat_natCast]
  rw [← Int.natCast_mul]
  omega

theorem bit_of (E : Int) (k : Nat) (b : Bool) (h0 : 0 ≤ E) (h1 : E ≤ 9223372036854775807) (h : (bits BinOp.and IntKind.i64 (E / 2 ^ k) 1 == 1) = b) : E.toNat / 2 ^ k % 2 = if b then 1 else 0 := by
  obtain ⟨n, rfl⟩ := Int.eq_ofNat_of_zero_le h0
  have e : ((n : Int) / 2 ^ k) = ((n / 2 ^ k : Nat) : Int) := by rw [Int.natCast_ediv, Int.natCast_pow]; rfl
  have hle : n / 2 ^ k ≤ n := Nat.div_le_self _ _
  rw [e] at h
  rw [Int.toNat_natCast]
  clear e
  generalize n / 2 ^ k = q at *
  rw [and_one_i64 _ (by omega) (by omega)] at h
  cases b
  · simp at h ⊢; omega
  · simp at h ⊢; omega

theorem sq_odd {A : Nat} {E : Int} {i : Nat} {r p : Int} (h : Sq A E.toNat i r p) (h0 : 0 ≤ E) (h1 : E ≤ 9223372036854775807) (hb : (bits BinOp.and IntKind.i64 (E / 2 ^ i) 1 == 1) = true) :
    Sq A E.toNat (i + 1) (gmul r p) (gmul p p) := by
  unfold gmul
  obtain ⟨a0, a1⟩ := emod_bd (r * p) (show (0 : Int) < 2305843009213693951 by decide)
  obtain ⟨b0, b1⟩ := emod_bd (p * p) (show (0 : Int) < 2305843009213693951 by decide)
  have h2 := bit_of E i true h0 h1 hb
  refine ⟨a0, a1, b0, b1, ?_⟩
  rw [← h.eq, mulmod_toNat _ _ h.r0 h.p0, mulmod_toNat _ _ h.p0 h.p0, half_pow]
  generalize E.toNat / 2 ^ i = n at *
  have hs : p.toNat ^ n = (p.toNat * p.toNat) ^ (n / 2) * p.toNat := by
    conv => lhs; rw [← Nat.div_add_mod n 2]
    rw [Nat.pow_add, Nat.pow_mul, Nat.pow_two, h2, if_pos rfl, Nat.pow_one]
  rw [hs, Nat.mul_mod, Nat.mod_mod, ← Nat.pow_mod, ← Nat.mul_mod, Nat.mul_assoc, Nat.mul_comm p.toNat]

theorem sq_even {A : Nat} {E : Int} {i : Nat} {r p : Int} (h : Sq A E.toNat i r p) (h0 : 0 ≤ E) (h1 : E ≤ 9223372036854775807) (hb : (bits BinOp.and IntKind.i64 (E / 2 ^ i) 1 == 1) = false) :
    Sq A E.toNat (i + 1) r (gmul p p) := by
  unfold gmul
  obtain ⟨b0, b1⟩ := emod_bd (p * p) (show (0 : Int) < 2305843009213693951 by decide)
  have h2 := bit_of E i false h0 h1 hb
  refine ⟨h.r0, h.r1, b0, b1, ?_⟩
  rw [← h.eq, mulmod_toNat _ _ h.p0 h.p0, half_pow]
  generalize E.toNat / 2 ^ i = n at *
  have hs : p.toNat ^ n = (p.toNat * p.toNat) ^ (n / 2) := by
    conv => lhs; rw [← Nat.div_add_mod n 2]
    rw [Nat.pow_add, Nat.pow_mul, Nat.pow_two, h2]
    simp
  rw [hs, Nat.mul_mod, ← Nat.pow_mod, ← Nat.mul_mod]

theorem sq_end {a E : Int} {L : Nat} {r p : Int} (h : Sq (a % 2305843009213693951).toNat E.toNat L r p) (hx : E.toNat < 2 ^ L) (hE : E.toNat < 18446744073709551616 := by omega) : r = ((pow (a % 2305843009213693951).toNat E.toNat : Nat) : Int) := by
  have h1 := h.eq
  rw [Nat.div_eq_of_lt hx, Nat.pow_zero, Nat.mul_one] at h1
  rw [pow_eq _ _ hE, ← h1]
  have := h.r0
  have := h.r1
  omega

set_option maxHeartbeats 400000 in
theorem Exp_any (a e : Int) (w : World) (h0 : -9223372036854775808 ≤ e) (h1 : e ≤ 9223372036854775807) :
    Calls Tryz.prog 105 #[.int .i64 a, .int .i64 e] w fun e' w' => e' = .returned (.int .i64 (gexp a e)) ∧ Q w w' := by
  by_cases hn : e < 0
  · have g0 : 0 ≤ e % 2305843009213693950 := by omega
    have g1 : e % 2305843009213693950 ≤ 9223372036854775807 := by omega
    go_enter Tryz.func105, Tryz.ntmps105
    go_wp2_with (first | (go_at_call 143; refine (residue_any _ _ _ (by decide) (by decide)).mono ?_; rintro e w' ⟨rfl, rfl⟩) | (go_at_call 144; refine (len64_any _ _ (by omega) (by omega)).mono ?_; rintro e w' ⟨⟨L, hL, hx, rfl⟩, rfl⟩))
    go_loopw [5, 6, 17] (fun r p i wr => ∃ (r1 p1 : Int) (k : Nat), k ≤ L ∧ i = .int .i64 k ∧ r = .int .i64 r1 ∧ p = .int .i64 p1 ∧ Sq (a % 2305843009213693951).toNat ((e % 2305843009213693950)).toNat k r1 p1 ∧ Q w wr) (fun _ _ i _ => L - (intOf i).toNat)
    case atStart => exact ⟨1, _, 0, by omega, rfl, rfl, rfl, sq_at a _, Q.refl _⟩
    case round =>
      obtain ⟨r1, p1, k, hk, rfl, rfl, rfl, hs, hq⟩ := hrel
      by_cases hlt : k < L
      · go_wp2_with (first | (go_at_call 142; refine (Mul_any _ _ _).mono ?_; rintro e w' ⟨rfl, hq1⟩))
        · have hb : (bits BinOp.and IntKind.i64 ((e % 2305843009213693950) / 2 ^ k) 1 == 1) = true := by assumption
          exact ⟨⟨_, _, k + 1, by omega, by go_num, rfl, rfl, sq_odd hs g0 g1 hb, by repeat (first | exact hq | refine Q.trans ?_ (by assumption))⟩, by simp only [intOf]; omega⟩
        · have hb : (bits BinOp.and IntKind.i64 ((e % 2305843009213693950) / 2 ^ k) 1 == 1) = false := by assumption
          exact ⟨⟨_, _, k + 1, by omega, by go_num, rfl, rfl, sq_even hs g0 g1 hb, by repeat (first | exact hq | refine Q.trans ?_ (by assumption))⟩, by simp only [intOf]; omega⟩
      · go_wp2
        go_ret
        have hkL : k = L := by omega
        subst hkL
        exact ⟨ret_int (by rw [sq_end hs hx]; unfold gexp; rw [show ((e % 2305843009213693950)).toNat = expo e by unfold expo; rw [if_pos hn]]), hq⟩
  · have g0 : 0 ≤ e := by omega
    go_enter Tryz.func105, Tryz.ntmps105
    go_wp2_with (first | (go_at_call 143; refine (residue_any _ _ _ (by decide) (by decide)).mono ?_; rintro e w' ⟨rfl, rfl⟩) | (go_at_call 144; refine (len64_any _ _ (by omega) (by omega)).mono ?_; rintro e w' ⟨⟨L, hL, hx, rfl⟩, rfl⟩))
    go_loopw [5, 6, 17] (fun r p i wr => ∃ (r1 p1 : Int) (k : Nat), k ≤ L ∧ i = .int .i64 k ∧ r = .int .i64 r1 ∧ p = .int .i64 p1 ∧ Sq (a % 2305843009213693951).toNat e.toNat k r1 p1 ∧ Q w wr) (fun _ _ i _ => L - (intOf i).toNat)
    case atStart => exact ⟨1, _, 0, by omega, rfl, rfl, rfl, sq_at a _, Q.refl _⟩
    case round =>
      obtain ⟨r1, p1, k, hk, rfl, rfl, rfl, hs, hq⟩ := hrel
      by_cases hlt : k < L
      · go_wp2_with (first | (go_at_call 142; refine (Mul_any _ _ _).mono ?_; rintro e w' ⟨rfl, hq1⟩))
        · have hb : (bits BinOp.and IntKind.i64 (e / 2 ^ k) 1 == 1) = true := by assumption
          exact ⟨⟨_, _, k + 1, by omega, by go_num, rfl, rfl, sq_odd hs g0 h1 hb, by repeat (first | exact hq | refine Q.trans ?_ (by assumption))⟩, by simp only [intOf]; omega⟩
        · have hb : (bits BinOp.and IntKind.i64 (e / 2 ^ k) 1 == 1) = false := by assumption
          exact ⟨⟨_, _, k + 1, by omega, by go_num, rfl, rfl, sq_even hs g0 h1 hb, by repeat (first | exact hq | refine Q.trans ?_ (by assumption))⟩, by simp only [intOf]; omega⟩
      · go_wp2
        go_ret
        have hkL : k = L := by omega
        subst hkL
        exact ⟨ret_int (by rw [sq_end hs hx]; unfold gexp; rw [show e.toNat = expo e by unfold expo; rw [if_neg (by omega)]]), hq⟩


/-- What Inv returns. -/
def ginv (a : Int) : Int := gexp a 2305843009213693949

end Go.Proofs.YtjfcllanochhmaaGreatDoor.Grp
