/-
  The contracts of agoraref04, the reference of layer 4.
-/
import Derived.Test.YtppbplchdfhnkaaDoorGrpLaw
set_option linter.unusedVariables false
set_option linter.unusedSimpArgs false
namespace Go.Proofs.YtppbplchdfhnkaaDoor.Grp
open Go.RowKit

theorem and31 (x : Int) (h0 : 0 ≤ x) (h1 : x < 18446744073709551616) : bits .and .u64 x 2147483647 = x % 2147483648 := by
  obtain ⟨a, rfl⟩ := Int.eq_ofNat_of_zero_le h0
  have h := bits_and_u64_nat a 2147483647 (by omega) (by omega)
  have e2 : a &&& 2147483647 = a % 2147483648 := Nat.and_two_pow_sub_one_eq_mod a 31
  rw [e2] at h
  rw [show ((2147483647 : Nat) : Int) = 2147483647 from rfl] at h
  rw [h]
  omega
theorem and30 (x : Int) (h0 : 0 ≤ x) (h1 : x < 18446744073709551616) : bits .and .u64 x 1073741823 = x % 1073741824 := by
  obtain ⟨a, rfl⟩ := Int.eq_ofNat_of_zero_le h0
  have h := bits_and_u64_nat a 1073741823 (by omega) (by omega)
  have e2 : a &&& 1073741823 = a % 1073741824 := Nat.and_two_pow_sub_one_eq_mod a 30
  rw [e2] at h
  rw [show ((1073741823 : Nat) : Int) = 1073741823 from rfl] at h
  rw [h]
  omega

theorem prod_bd {x y A B : Int} (x0 : 0 ≤ x) (xA : x ≤ A) (y0 : 0 ≤ y) (yB : y ≤ B) : 0 ≤ x * y ∧ x * y ≤ A * B :=
  ⟨Int.mul_nonneg x0 y0, Int.mul_le_mul xA yB y0 (Int.le_trans x0 xA)⟩

set_option maxRecDepth 100000 in
set_option maxHeartbeats 400000 in
theorem parts_any (a b : Int) (w : World) (a0 : 0 ≤ a) (a1 : a < 2305843009213693952) (b0 : 0 ≤ b) (b1 : b < 2305843009213693952) :
    Calls Tryd.prog 112 #[.int .i64 a, .int .i64 b] w fun e w' => e = .returned (.tuple #[.int .u64 (a / 2147483648 * (b / 2147483648)), .int .u64 (a / 2147483648 * (b % 2147483648) + a % 2147483648 * (b / 2147483648)), .int .u64 (a % 2147483648 * (b % 2147483648))]) ∧ Q w w' := by
  have e1 := and31 a a0 (by omega)
  have e2 := and31 b b0 (by omega)
  obtain ⟨p0, p1⟩ := prod_bd (x := a / 2147483648) (A := 1073741823) (y := b / 2147483648) (B := 1073741823) (by omega) (by omega) (by omega) (by omega)
  obtain ⟨q0, q1⟩ := prod_bd (x := a / 2147483648) (A := 1073741823) (y := b % 2147483648) (B := 2147483647) (by omega) (by omega) (by omega) (by omega)
  obtain ⟨r0, r1⟩ := prod_bd (x := a % 2147483648) (A := 2147483647) (y := b / 2147483648) (B := 1073741823) (by omega) (by omega) (by omega) (by omega)
  obtain ⟨s0, s1⟩ := prod_bd (x := a % 2147483648) (A := 2147483647) (y := b % 2147483648) (B := 2147483647) (by omega) (by omega) (by omega) (by omega)
  go_enter Tryd.func112, Tryd.ntmps112
  go_wp2
  go_ret3
  exact ⟨rfl, Q.refl _⟩

theorem split31 (x y : Int) : x * y = x / 2147483648 * (y / 2147483648) * 4611686018427387904 + (x / 2147483648 * (y % 2147483648) + x % 2147483648 * (y / 2147483648)) * 2147483648 + x % 2147483648 * (y % 2147483648) := by
  have hx : x = x / 2147483648 * 2147483648 + x % 2147483648 := by omega
  have hy : y = y / 2147483648 * 2147483648 + y % 2147483648 := by omega
  generalize x / 2147483648 = p at *
  generalize x % 2147483648 = q at *
  generalize y / 2147483648 = r at *
  generalize y % 2147483648 = s at *
  subst hx hy
  grind

/-- The partial products of two residues, and that they do not wrap. -/
structure Parts (x y H M L : Int) : Prop where
  h0 : 0 ≤ H
  h1 : H ≤ 1152921502459363329
  m0 : 0 ≤ M
  m1 : M ≤ 4611686014132420608
  l0 : 0 ≤ L
  l1 : L ≤ 4611686014132420609
  eq : x * y = H * 4611686018427387904 + M * 2147483648 + L

theorem parts_of (a b : Int) (a0 : 0 ≤ a) (a1 : a < 2305843009213693952) (b0 : 0 ≤ b) (b1 : b < 2305843009213693952) :
    Parts a b (a / 2147483648 * (b / 2147483648)) (a / 2147483648 * (b % 2147483648) + a % 2147483648 * (b / 2147483648)) (a % 2147483648 * (b % 2147483648)) := by
  obtain ⟨p0, p1⟩ := prod_bd (x := a / 2147483648) (A := 1073741823) (y := b / 2147483648) (B := 1073741823) (by omega) (by omega) (by omega) (by omega)
  obtain ⟨q0, q1⟩ := prod_bd (x := a / 2147483648) (A := 1073741823) (y := b % 2147483648) (B := 2147483647) (by omega) (by omega) (by omega) (by omega)
  obtain ⟨r0, r1⟩ := prod_bd (x := a % 2147483648) (A := 2147483647) (y := b / 2147483648) (B := 1073741823) (by omega) (by omega) (by omega) (by omega)
  obtain ⟨s0, s1⟩ := prod_bd (x := a % 2147483648) (A := 2147483647) (y := b % 2147483648) (B := 2147483647) (by omega) (by omega) (by omega) (by omega)
  exact ⟨p0, by omega, by omega, by omega, s0, by omega, split31 a b⟩

theorem partsP {a b H M L : Int} (h : Parts (a % 2305843009213693951) (b % 2305843009213693951) H M L) : (2 * H + M / 1073741824 + M % 1073741824 * 2147483648 + L) % 2305843009213693951 = gmul a b := by
  have e := h.eq
  unfold gmul
  rw [Int.mul_emod, e]
  omega
theorem partsN {a b H M L : Int} (h : Parts (a % 2305843009213693950) (b % 2305843009213693950) H M L) : (4 * H + 2 * (M / 1073741824) + M % 1073741824 * 2147483648 + L) % 2305843009213693950 = gmulN a b := by
  have e := h.eq
  unfold gmulN
  rw [Int.mul_emod, e]
  omega

set_option maxRecDepth 100000 in
set_option maxHeartbeats 400000 in
theorem RMul_any (a b : Int) (w : World) :
    Calls Tryd.prog 88 #[.int .i64 a, .int .i64 b] w fun e w' => e = .returned (.int .i64 (gmul a b)) ∧ Q w w' := by
  obtain ⟨a0, a1⟩ := emod_bd a (show (0 : Int) < 2305843009213693951 by decide)
  obtain ⟨b0, b1⟩ := emod_bd b (show (0 : Int) < 2305843009213693951 by decide)
  have hp := parts_of (a % 2305843009213693951) (b % 2305843009213693951) a0 (by omega) b0 (by omega)
  go_enter Tryd.func88, Tryd.ntmps88
  go_wp2_with (first | (go_at_call 109; refine (mod_any _ _ _ (by decide) (by decide)).mono ?_; rintro e w' ⟨rfl, rfl⟩))
  refine (parts_any _ _ _ a0 (by omega) b0 (by omega)).mono ?_
  rintro e w1 ⟨rfl, hq⟩
  generalize a % 2305843009213693951 / 2147483648 * (b % 2305843009213693951 / 2147483648) = H at *
  generalize a % 2305843009213693951 / 2147483648 * (b % 2305843009213693951 % 2147483648) + a % 2305843009213693951 % 2147483648 * (b % 2305843009213693951 / 2147483648) = M at *
  generalize a % 2305843009213693951 % 2147483648 * (b % 2305843009213693951 % 2147483648) = L at *
  obtain ⟨h0, h1, m0, m1, l0, l1, eq⟩ := hp
  have e1 := and30 M m0 (by omega)
  have e2 := Lib.hid (partsP ⟨h0, h1, m0, m1, l0, l1, eq⟩)
  clear eq
  go_wp2
  go_ret
  rw [e2.out]
  exact ⟨rfl, hq⟩

set_option maxRecDepth 100000 in
set_option maxHeartbeats 400000 in
theorem RMulN_any (a b : Int) (w : World) :
    Calls Tryd.prog 102 #[.int .i64 a, .int .i64 b] w fun e w' => e = .returned (.int .i64 (gmulN a b)) ∧ Q w w' := by
  obtain ⟨a0, a1⟩ := emod_bd a (show (0 : Int) < 2305843009213693950 by decide)
  obtain ⟨b0, b1⟩ := emod_bd b (show (0 : Int) < 2305843009213693950 by decide)
  have hp := parts_of (a % 2305843009213693950) (b % 2305843009213693950) a0 (by omega) b0 (by omega)
  go_enter Tryd.func102, Tryd.ntmps102
  go_wp2_with (first | (go_at_call 109; refine (mod_any _ _ _ (by decide) (by decide)).mono ?_; rintro e w' ⟨rfl, rfl⟩))
  refine (parts_any _ _ _ a0 (by omega) b0 (by omega)).mono ?_
  rintro e w1 ⟨rfl, hq⟩
  generalize a % 2305843009213693950 / 2147483648 * (b % 2305843009213693950 / 2147483648) = H at *
  generalize a % 2305843009213693950 / 2147483648 * (b % 2305843009213693950 % 2147483648) + a % 2305843009213693950 % 2147483648 * (b % 2305843009213693950 / 2147483648) = M at *
  generalize a % 2305843009213693950 % 2147483648 * (b % 2305843009213693950 % 2147483648) = L at *
  obtain ⟨h0, h1, m0, m1, l0, l1, eq⟩ := hp
  have e1 := and30 M m0 (by omega)
  have e2 := Lib.hid (partsN ⟨h0, h1, m0, m1, l0, l1, eq⟩)
  clear eq
  go_wp2
  go_ret
  rw [e2.out]
  exact ⟨rfl, hq⟩

set_option maxHeartbeats 400000 in
theorem RAdd_any (a b : Int) (w : World) :
    Calls Tryd.prog 87 #[.int .i64 a, .int .i64 b] w fun e w' => e = .returned (.int .i64 (gadd a b)) ∧ w = w' := by
  obtain ⟨a0, a1⟩ := emod_bd a (show (0 : Int) < 2305843009213693951 by decide)
  obtain ⟨b0, b1⟩ := emod_bd b (show (0 : Int) < 2305843009213693951 by decide)
  go_enter Tryd.func87, Tryd.ntmps87
  go_wp2_with (go_at_call 109; refine (mod_any _ _ _ (by decide) (by decide)).mono ?_; rintro e w' ⟨rfl, rfl⟩)
  go_ret
  exact ⟨rfl, rfl⟩

set_option maxHeartbeats 400000 in
theorem RSub_any (a b : Int) (w : World) :
    Calls Tryd.prog 113 #[.int .i64 a, .int .i64 b] w fun e w' => e = .returned (.int .i64 (gsub a b)) ∧ w = w' := by
  obtain ⟨a0, a1⟩ := emod_bd a (show (0 : Int) < 2305843009213693951 by decide)
  obtain ⟨b0, b1⟩ := emod_bd b (show (0 : Int) < 2305843009213693951 by decide)
  go_enter Tryd.func113, Tryd.ntmps113
  go_wp2_with (go_at_call 109; refine (mod_any _ _ _ (by decide) (by decide)).mono ?_; rintro e w' ⟨rfl, rfl⟩)
  go_ret
  exact ⟨rfl, rfl⟩

set_option maxHeartbeats 400000 in
theorem RAddN_any (a b : Int) (w : World) :
    Calls Tryd.prog 101 #[.int .i64 a, .int .i64 b] w fun e w' => e = .returned (.int .i64 (gaddN a b)) ∧ w = w' := by
  obtain ⟨a0, a1⟩ := emod_bd a (show (0 : Int) < 2305843009213693950 by decide)
  obtain ⟨b0, b1⟩ := emod_bd b (show (0 : Int) < 2305843009213693950 by decide)
  go_enter Tryd.func101, Tryd.ntmps101
  go_wp2_with (go_at_call 109; refine (mod_any _ _ _ (by decide) (by decide)).mono ?_; rintro e w' ⟨rfl, rfl⟩)
  go_ret
  exact ⟨rfl, rfl⟩


/-- The loop of the reference's Exp: what is left of the exponent, the product so far, the power. -/
structure RSq (A E : Nat) (e x b : Int) : Prop where
  e0 : 0 ≤ e
  e1 : e ≤ 9223372036854775807
  x0 : 0 ≤ x
  x1 : x < 2305843009213693951
  b0 : 0 ≤ b
  b1 : b < 2305843009213693951
  eq : x.toNat * b.toNat ^ e.toNat % 2305843009213693951 = A ^ E % 2305843009213693951

theorem rsq_at (a e E : Int) (h0 : -9223372036854775808 ≤ e) (h1 : e ≤ 9223372036854775807) (hE : expo e = E.toNat) (hE0 : 0 ≤ E := by omega) (hE1 : E ≤ 9223372036854775807 := by omega) : RSq (a % 2305843009213693951).toNat (expo e) E 1 (a % 2305843009213693951) := by
  obtain ⟨a0, a1⟩ := emod_bd a (show (0 : Int) < 2305843009213693951 by decide)
  exact ⟨hE0, hE1, by decide, by decide, a0, a1, by rw [hE]; simp⟩

theorem rsq_odd {A E : Nat} {e x b : Int} (h : RSq A E e x b) (ho : e % 2 = 1) : RSq A E (e / 2) (gmul x b) (gmul b b) := by
  obtain ⟨c0, c1⟩ := emod_bd (x * b) (show (0 : Int) < 2305843009213693951 by decide)
  obtain ⟨d0, d1⟩ := emod_bd (b * b) (show (0 : Int) < 2305843009213693951 by decide)
  have h0 := h.e0
  have h1 := h.e1
  refine ⟨by omega, by omega, c0, c1, d0, d1, ?_⟩
  unfold gmul
  rw [← h.eq, mulmod_toNat _ _ h.x0 h.b0, mulmod_toNat _ _ h.b0 h.b0]
  have e1 : (e / 2).toNat = e.toNat / 2 := by omega
  have e2 : e.toNat % 2 = 1 := by omega
  rw [e1]
  generalize e.toNat = n at *
  have hs : b.toNat ^ n = (b.toNat * b.toNat) ^ (n / 2) * b.toNat := by
    conv => lhs; rw [← Nat.div_add_mod n 2]
    rw [Nat.pow_add, Nat.pow_mul, Nat.pow_two, e2, Nat.pow_one]
  rw [hs, Nat.mul_mod, Nat.mod_mod, ← Nat.pow_mod, ← Nat.mul_mod, Nat.mul_assoc, Nat.mul_comm b.toNat]

theorem rsq_even {A E : Nat} {e x b : Int} (h : RSq A E e x b) (ho : ¬ e % 2 = 1) : RSq A E (e / 2) x (gmul b b) := by
  obtain ⟨d0, d1⟩ := emod_bd (b * b) (show (0 : Int) < 2305843009213693951 by decide)
  have h0 := h.e0
  have h1 := h.e1
  refine ⟨by omega, by omega, h.x0, h.x1, d0, d1, ?_⟩
  unfold gmul
  rw [← h.eq, mulmod_toNat _ _ h.b0 h.b0]
  have e1 : (e / 2).toNat = e.toNat / 2 := by omega
  have e2 : e.toNat % 2 = 0 := by omega
  rw [e1]
  generalize e.toNat = n at *
  have hs : b.toNat ^ n = (b.toNat * b.toNat) ^ (n / 2) := by
    conv => lhs; rw [← Nat.div_add_mod n 2]
    rw [Nat.pow_add, Nat.pow_mul, Nat.pow_two, e2, Nat.pow_zero, Nat.mul_one]
  rw [hs, Nat.mul_mod, ← Nat.pow_mod, ← Nat.mul_mod]

theorem rsq_end {a e e1 x b : Int} (h : RSq (a % 2305843009213693951).toNat (expo e) e1 x b) (hn : ¬ 0 < e1) (hE : expo e < 18446744073709551616) : x = gexp a e := by
  have h0 := h.e0
  have hz : e1.toNat = 0 := by omega
  have h1 := h.eq
  rw [hz, Nat.pow_zero, Nat.mul_one] at h1
  unfold gexp
  rw [pow_eq _ _ hE, ← h1]
  have := h.x0
  have := h.x1
  omega

set_option maxHeartbeats 400000 in
theorem RExp_any (a e : Int) (w : World) (h0 : -9223372036854775808 ≤ e) (h1 : e ≤ 9223372036854775807) :
    Calls Tryd.prog 76 #[.int .i64 a, .int .i64 e] w fun e' w' => e' = .returned (.int .i64 (gexp a e)) ∧ Q w w' := by
  by_cases hn : e < 0
  · go_enter Tryd.func76, Tryd.ntmps76
    go_wp2_with (go_at_call 109; refine (mod_any _ _ _ (by decide) (by decide)).mono ?_; rintro e w' ⟨rfl, rfl⟩)
    go_loopw [1, 5, 6] (fun ev xv bv wr => ∃ e1 x1 b1 : Int, ev = .int .i64 e1 ∧ xv = .int .i64 x1 ∧ bv = .int .i64 b1 ∧ RSq (a % 2305843009213693951).toNat (expo e) e1 x1 b1 ∧ Q w wr) (fun ev _ _ _ => (intOf ev).toNat)
    case atStart => exact ⟨_, _, _, rfl, rfl, rfl, rsq_at a e (e % 2305843009213693950) h0 h1 (by unfold expo; rw [if_pos hn]), Q.refl _⟩
    case round =>
      obtain ⟨e1, x1, b1, rfl, rfl, rfl, hs, hq⟩ := hrel
      have k0 := hs.e0
      have k1 := hs.e1
      by_cases hlt : 0 < e1
      · by_cases ho : e1 % 2 = 1
        · have hb : (e1 % 2 == 1) = true := by simpa using ho
          have HS := Lib.hid (rsq_odd hs ho)
          clear ho hs
          go_wp2_with (first | (go_at_call 88; refine (RMul_any _ _ _).mono ?_; rintro e w' ⟨rfl, hq1⟩))
          exact ⟨⟨_, _, _, rfl, rfl, rfl, HS.out, by repeat (first | exact hq | refine Q.trans ?_ (by assumption))⟩, by simp only [intOf]; omega⟩
        · have hb : (e1 % 2 == 1) = false := by simpa using ho
          have HS := Lib.hid (rsq_even hs ho)
          clear ho hs
          go_wp2_with (first | (go_at_call 88; refine (RMul_any _ _ _).mono ?_; rintro e w' ⟨rfl, hq1⟩))
          exact ⟨⟨_, _, _, rfl, rfl, rfl, HS.out, by repeat (first | exact hq | refine Q.trans ?_ (by assumption))⟩, by simp only [intOf]; omega⟩
      · have HS := Lib.hid hs
        clear hs
        go_wp2
        go_ret
        exact ⟨ret_int (rsq_end HS.out (by omega) (expo_lt e h1)), hq⟩
  · go_enter Tryd.func76, Tryd.ntmps76
    go_wp2_with (go_at_call 109; refine (mod_any _ _ _ (by decide) (by decide)).mono ?_; rintro e w' ⟨rfl, rfl⟩)
    go_loopw [1, 5, 6] (fun ev xv bv wr => ∃ e1 x1 b1 : Int, ev = .int .i64 e1 ∧ xv = .int .i64 x1 ∧ bv = .int .i64 b1 ∧ RSq (a % 2305843009213693951).toNat (expo e) e1 x1 b1 ∧ Q w wr) (fun ev _ _ _ => (intOf ev).toNat)
    case atStart => exact ⟨_, _, _, rfl, rfl, rfl, rsq_at a e e h0 h1 (by unfold expo; rw [if_neg (by omega)]), Q.refl _⟩
    case round =>
      obtain ⟨e1, x1, b1, rfl, rfl, rfl, hs, hq⟩ := hrel
      have k0 := hs.e0
      have k1 := hs.e1
      by_cases hlt : 0 < e1
      · by_cases ho : e1 % 2 = 1
        · have hb : (e1 % 2 == 1) = true := by simpa using ho
          have HS := Lib.hid (rsq_odd hs ho)
          clear ho hs
          go_wp2_with (first | (go_at_call 88; refine (RMul_any _ _ _).mono ?_; rintro e w' ⟨rfl, hq1⟩))
          exact ⟨⟨_, _, _, rfl, rfl, rfl, HS.out, by repeat (first | exact hq | refine Q.trans ?_ (by assumption))⟩, by simp only [intOf]; omega⟩
        · have hb : (e1 % 2 == 1) = false := by simpa using ho
          have HS := Lib.hid (rsq_even hs ho)
          clear ho hs
          go_wp2_with (first | (go_at_call 88; refine (RMul_any _ _ _).mono ?_; rintro e w' ⟨rfl, hq1⟩))
          exact ⟨⟨_, _, _, rfl, rfl, rfl, HS.out, by repeat (first | exact hq | refine Q.trans ?_ (by assumption))⟩, by simp only [intOf]; omega⟩
      · have HS := Lib.hid hs
        clear hs
        go_wp2
        go_ret
        exact ⟨ret_int (rsq_end HS.out (by omega) (expo_lt e h1)), hq⟩

theorem RInv_no (a : Int) (w : World) (h : a % 2305843009213693951 = 0) :
    Calls Tryd.prog 114 #[.int .i64 a] w fun e w' => e = .returned (.tuple #[.int .i64 0, .bool false]) ∧ w = w' := by
  have hb : (a % 2305843009213693951 == 0) = true := by simpa using h
  have H := Lib.hid h
  clear h
  go_enter Tryd.func114, Tryd.ntmps114
  go_wp2_with (go_at_call 109; refine (mod_any _ _ _ (by decide) (by decide)).mono ?_; rintro e w' ⟨rfl, rfl⟩)
  go_ret2
  exact ⟨rfl, rfl⟩

/-- The extended Euclid of the reference's Inv: s0 is the residue, u the sign of y. -/
structure Eu (s0 r s x y u : Int) : Prop where
  u1 : u = 1 ∨ u = -1
  r0 : 0 < r
  rP : r ≤ 2305843009213693951
  sP : s ≤ 2305843009213693951
  sn : 0 ≤ s
  g : Nat.gcd r.toNat s.toNat = 1
  cx : (x * s0 - r) % 2305843009213693951 = 0
  cy : (y * s0 - s) % 2305843009213693951 = 0
  xs : 0 ≤ -(u * x)
  ys : 0 ≤ u * y
  xb : -(u * x) ≤ 2305843009213693951
  tot : -(u * x) * s + u * y * r = 2305843009213693951

theorem gcd_res {s0 : Int} (h : s0 % 2305843009213693951 ≠ 0) (h0 : 0 ≤ s0) : Nat.gcd (2305843009213693951 : Int).toNat s0.toNat = 1 := by
  have h1 := inv_pow s0.toNat (by omega)
  have h2 := Nat.gcd_dvd_left (2305843009213693951 : Int).toNat s0.toNat
  have h3 := Nat.gcd_dvd_right (2305843009213693951 : Int).toNat s0.toNat
  generalize Nat.gcd (2305843009213693951 : Int).toNat s0.toNat = d at *
  have h4 : d ∣ s0.toNat * s0.toNat ^ NM := Nat.dvd_trans h3 (Nat.dvd_mul_right _ _)
  have h5 : d ∣ s0.toNat * s0.toNat ^ NM % 2305843009213693951 := (Nat.dvd_mod_iff h2).2 h4
  rw [h1] at h5
  exact Nat.dvd_one.1 h5

theorem eu_at {a : Int} (h : a % 2305843009213693951 ≠ 0) : Eu (a % 2305843009213693951) 2305843009213693951 (a % 2305843009213693951) 0 1 1 := by
  obtain ⟨a0, a1⟩ := emod_bd a (show (0 : Int) < 2305843009213693951 by decide)
  exact ⟨Or.inl rfl, by decide, by decide, by omega, a0, gcd_res (by omega) a0, by omega, by omega, by omega, by omega, by omega, by omega⟩

theorem eu_step {s0 r s x y u : Int} (h : Eu s0 r s x y u) (hs : 0 < s) :
    Eu s0 s (r - r / s * s) y (x - r / s * y) (-u) ∧ r - r / s * s < s ∧ 0 ≤ r / s * s ∧ r / s * s ≤ r ∧ -4611686018427387902 ≤ r / s * y ∧ r / s * y ≤ 4611686018427387902 := by
  obtain ⟨u1, r0, rP, sP, sn, g, cx, cy, xs, ys, xb, tot⟩ := h
  have em := Int.mul_ediv_add_emod r s
  have m0 := Int.emod_nonneg r (show s ≠ 0 by omega)
  have m1 := Int.emod_lt_of_pos r hs
  have q0 : 0 ≤ r / s := Int.ediv_nonneg (by omega) (by omega)
  have er : r - r / s * s = r % s := by rw [Int.mul_comm (r / s) s]; omega
  have g2 : Nat.gcd s.toNat (r % s).toNat = 1 := by
    have e1 : (r % s).toNat = r.toNat % s.toNat := by
      obtain ⟨n, rfl⟩ := Int.eq_ofNat_of_zero_le (show 0 ≤ r by omega)
      obtain ⟨m, rfl⟩ := Int.eq_ofNat_of_zero_le sn
      rw [← Int.natCast_emod]; simp only [Int.toNat_natCast]
    rw [e1, Nat.gcd_comm, ← Nat.gcd_rec, Nat.gcd_comm]
    exact g
  have qs0 : 0 ≤ r / s * s := Int.mul_nonneg q0 sn
  have c3 : ((x - r / s * y) * s0 - (r - r / s * s)) % 2305843009213693951 = 0 := by
    have e2 : (x - r / s * y) * s0 - (r - r / s * s) = (x * s0 - r) - r / s * (y * s0 - s) := by grind
    have hx := Int.dvd_of_emod_eq_zero cx
    have hy := Int.dvd_of_emod_eq_zero cy
    rw [e2]
    exact Int.emod_eq_zero_of_dvd (Int.dvd_sub hx (Int.dvd_trans hy (Int.dvd_mul_left _ _)))
  have uyq : 0 ≤ r / s * (u * y) := Int.mul_nonneg q0 ys
  have t2 : u * y * (r - r / s * s) + (-(u * x) + r / s * (u * y)) * s = 2305843009213693951 := by
    rw [← tot]; grind
  have uyr : 0 ≤ u * y * (r - r / s * s) := by rw [er]; exact Int.mul_nonneg ys m0
  have zb : -(u * x) + r / s * (u * y) ≤ 2305843009213693951 := by
    have h1 : (-(u * x) + r / s * (u * y)) * 1 ≤ (-(u * x) + r / s * (u * y)) * s := Int.mul_le_mul_of_nonneg_left (by omega) (by omega)
    omega
  have yb : u * y ≤ 2305843009213693951 := by
    have h1 : u * y * 1 ≤ u * y * r := Int.mul_le_mul_of_nonneg_left (by omega) ys
    have h2 : 0 ≤ -(u * x) * s := Int.mul_nonneg xs sn
    omega
  refine ⟨⟨by omega, hs, sP, by omega, by omega, by rw [er]; exact g2, cy, c3, ?_, ?_, ?_, ?_⟩, by omega, qs0, by omega, ?_, ?_⟩
  · rw [Int.neg_mul, Int.neg_neg]; exact ys
  · have : -u * (x - r / s * y) = -(u * x) + r / s * (u * y) := by grind
    omega
  · rw [Int.neg_mul, Int.neg_neg]; exact yb
  · rw [← t2]; grind
  · rcases u1 with rfl | rfl
    · simp only [Int.one_mul] at zb uyq; omega
    · have : r / s * (-1 * y) = -(r / s * y) := by grind
      omega
  · rcases u1 with rfl | rfl
    · simp only [Int.one_mul] at zb uyq; omega
    · have : r / s * (-1 * y) = -(r / s * y) := by grind
      omega

theorem eu_bd {s0 r s x y u : Int} (h : Eu s0 r s x y u) : -2305843009213693951 ≤ x ∧ x ≤ 2305843009213693951 := by
  have h1 := h.xs
  have h2 := h.xb
  rcases h.u1 with e | e <;> rw [e] at h1 h2 <;> omega

theorem eu_end {a r s x y u : Int} (h : Eu (a % 2305843009213693951) r s x y u) (hs : ¬ 0 < s) (ha : a % 2305843009213693951 ≠ 0) : x % 2305843009213693951 = ginv a := by
  have s0 : s = 0 := by have := h.sn; omega
  have hg := h.g
  rw [s0] at hg
  simp at hg
  have r1 : r = 1 := by have := h.r0; omega
  have cx := h.cx
  rw [r1] at cx
  have e1 : x * (a % 2305843009213693951) % 2305843009213693951 = 1 := by omega
  have e2 := ginv_mul a ha
  have e3 : x * a % 2305843009213693951 = 1 := by rw [← e1, Int.mul_emod x (a % _), Int.emod_emod, ← Int.mul_emod]
  have e4 : x * (a * ginv a) % 2305843009213693951 = x % 2305843009213693951 := by rw [Int.mul_emod, e2, Int.mul_one, Int.emod_emod]
  have e5 : x * a * ginv a % 2305843009213693951 = ginv a % 2305843009213693951 := by rw [Int.mul_emod, e3, Int.one_mul, Int.emod_emod]
  rw [← e4, ← Int.mul_assoc, e5]
  have := gexp_bd a 2305843009213693949
  unfold ginv
  omega

set_option maxHeartbeats 400000 in
theorem RInv_yes (a : Int) (w : World) (h : a % 2305843009213693951 ≠ 0) :
    Calls Tryd.prog 114 #[.int .i64 a] w fun e w' => e = .returned (.tuple #[.int .i64 (ginv a), .bool true]) ∧ Q w w' := by
  have hb : (a % 2305843009213693951 == 0) = false := by simpa using h
  have H := Lib.hid h
  clear h
  go_enter Tryd.func114, Tryd.ntmps114
  go_wp2_with (go_at_call 109; refine (mod_any _ _ _ (by decide) (by decide)).mono ?_; rintro e w' ⟨rfl, rfl⟩)
  go_loopw [4, 5, 6, 7] (fun rv sv xv yv wr => ∃ r s x y u : Int, rv = .int .i64 r ∧ sv = .int .i64 s ∧ xv = .int .i64 x ∧ yv = .int .i64 y ∧ Eu (a % 2305843009213693951) r s x y u ∧ Q w wr) (fun _ sv _ _ _ => (intOf sv).toNat)
  case atStart => exact ⟨_, _, _, _, _, rfl, rfl, rfl, rfl, eu_at H.out, Q.refl _⟩
  case round =>
    obtain ⟨r, s, x, y, u, rfl, rfl, rfl, rfl, he, hq⟩ := hrel
    obtain ⟨x0, x1⟩ := eu_bd he
    have r0 := he.r0
    have rP := he.rP
    have sP := he.sP
    have sn := he.sn
    by_cases hlt : 0 < s
    · obtain ⟨hn, d1, d2, d3, d4, d5⟩ := eu_step he hlt
      have HN := Lib.hid hn
      clear hn he
      go_wp2
      exact ⟨⟨_, _, _, _, _, rfl, rfl, rfl, rfl, HN.out, hq⟩, by simp only [intOf]; omega⟩
    · have HE := Lib.hid (eu_end he hlt H.out)
      clear he
      go_wp2_with (go_at_call 109; refine (mod_any _ _ _ (by decide) (by decide)).mono ?_; rintro e w' ⟨rfl, rfl⟩)
      go_ret2
      rw [HE.out]
      exact ⟨rfl, hq⟩

end Go.Proofs.YtppbplchdfhnkaaDoor.Grp
