/-
  The contract of package agoraref03's Num.
  The contracts of agoraref04, the reference of layer 4.
  The contracts of package agoraref05's Challenge, Commitment, Ranges and Verify, for the laws behind layer 5.
  The contracts of agoraref13's MessageOfBallot and MessageOfDecision.
  The contract of agoraref13's Signed (printed by gen_ref13t.py).
  Insertion from the right: the kit's insertion sort over an array as a fold over a list; it commutes with a filter. No walk in this text.
  What an argument's type gives: a known set.
  The contracts of agoraref02.SameNums and agoraref14's Index, Has.
  The contracts of agoraref14's Sub and Same.
  The contracts of agoraref14's After and Sorted.
  Runs of operations that a drawn region's walk asks for: a slice from an index; a region's operation whose run is known, class in hand.
  The contract of agoraref14's Add.
  The contracts of agoraref14's All and Union.
  The text of a known set determines its digests: the encoding of layer 2 can be read again. No walk in this text.
  The contract of agoraref14.Text.
  agoralaw14's light and few.
  The law KnownMerges, walked (printed by gen_merge.py).
  The statement KnownMerges holds. The tables of package sum hold what the text lays.
-/
import Derived.Test.YtppnbdbigebhaaaGreatDoorSumNum
import Derived.Test.YtppnbdbigebhaaaGreatDoorGrpLaw
import Derived.Test.YtppnbdbigebhaaaGreatDoorSignWalk
import Derived.Test.YtppnbdbigebhaaaGreatDoorMgMc
import Derived.Deep.RegionWith
import Derived.Deep.RegionHeld3
import Derived.Sort.Defs
import Derived.Test.YtppnbdbigebhaaaGreatDoorMgMa
import Derived.ChangeMaps5
import Derived.Test.YtppnbdbigebhaaaGreatDoorMgMb
import Derived.Test.YtppnbdbigebhaaaGreatDoorOks
set_option linter.unusedVariables false
set_option linter.unusedSimpArgs false
namespace Go.Proofs.YtppnbdbigebhaaaGreatDoor.Sha
open Go.RowKit Grp

/-- What stands in n behind k rounds. -/
def accR (s : ByteArray) (k : Nat) : Int := if k < 8 then acc s k else numOf s
theorem acc_bd6 (s : ByteArray) (k : Nat) (h : k ≤ 6) : 0 ≤ acc s k ∧ acc s k ≤ 281474976710655 := by
  have h1 := acc_bd s k
  have h2 : 256 ^ k ≤ 256 ^ 6 := Nat.pow_le_pow_right (by decide) h
  have h3 : 256 ^ 6 = 281474976710656 := by decide
  omega
theorem accR_lo (s : ByteArray) (k : Nat) (h : k ≤ 7) : accR s k = acc s k := by unfold accR; rw [if_pos (by omega)]
theorem accR_end (s : ByteArray) : accR s 8 = 32 * acc s 7 + byteAt s 7 / 8 := by
  unfold accR numOf
  rw [if_neg (by decide), show acc s 8 = acc s 7 * 256 + byteAt s 7 from rfl]
  omega

set_option maxRecDepth 100000 in
set_option maxHeartbeats 1000000 in
theorem RsumNum_any (s : ByteArray) (w : World) (hs : s.size ≤ 140737488355327) :
    Calls Tryz.prog 255 #[.string s] w fun e w' => e = .returned (.int .i64 (numOf s)) ∧ w = w' := by
  go_enter Tryz.func255, Tryz.ntmps255
  go_wp2_with fail
  go_loop [3, 4] (fun x i => ∃ k : Nat, k ≤ 8 ∧ i = .int .i64 k ∧ x = .int .i64 (accR s k)) (fun _ i => 8 - (intOf i).toNat)
  case atStart => exact ⟨0, by omega, rfl, rfl⟩
  case round =>
    obtain ⟨k, hk, rfl, rfl⟩ := hrel
    by_cases hlt : k < 8
    · obtain ⟨a0, a1⟩ := acc_bd8 s k (by omega)
      have hbb := byteAt_bd s k
      rw [accR_lo s k (by omega)]
      by_cases hin : k < s.size
      · have hb := byteAt_lt s k hin
        rw [hb] at hbb
        obtain ⟨p0, p1⟩ := hbb
        by_cases h7 : k < 7
        · have hs1 : accR s (k + 1) = 256 * acc s k + (s[k].toNat : Int) := by
            rw [accR_lo s _ (by omega), ← hb, show acc s (k + 1) = acc s k * 256 + byteAt s k from rfl, Int.mul_comm]
          have HS := Lib.hid hs1
          have a6 := (acc_bd6 s k (by omega)).2
          clear hs1 hb a1
          generalize acc s k = x at *
          go_wp2
          exact ⟨⟨k + 1, by omega, by go_num, by rw [HS.out]⟩, by simp only [intOf]; omega⟩
        · obtain rfl : k = 7 := by omega
          have hs1 : accR s (7 + 1) = (32 : Int) * acc s 7 + (s[7].toNat : Int) / 8 := by rw [accR_end, hb]
          have HS := Lib.hid hs1
          clear hs1 hb
          generalize acc s 7 = x at *
          go_wp2
          exact ⟨⟨7 + 1, by omega, by go_num, by rw [HS.out]⟩, by simp only [intOf]; omega⟩
      · have hb := byteAt_ge s k hin
        by_cases h7 : k < 7
        · have hs1 : accR s (k + 1) = 256 * acc s k := by
            rw [accR_lo s _ (by omega), show acc s (k + 1) = acc s k * 256 + byteAt s k from rfl, hb, Int.mul_comm, Int.add_zero]
          have HS := Lib.hid hs1
          have a6 := (acc_bd6 s k (by omega)).2
          clear hs1 hb a1
          generalize acc s k = x at *
          go_wp2
          exact ⟨⟨k + 1, by omega, by go_num, by rw [HS.out]⟩, by simp only [intOf]; omega⟩
        · obtain rfl : k = 7 := by omega
          have hs1 : accR s (7 + 1) = (32 : Int) * acc s 7 := by rw [accR_end, hb]; omega
          have HS := Lib.hid hs1
          clear hs1 hb
          generalize acc s 7 = x at *
          go_wp2
          exact ⟨⟨7 + 1, by omega, by go_num, by rw [HS.out]⟩, by simp only [intOf]; omega⟩
    · obtain rfl : k = 8 := by omega
      go_wp2
      go_ret
      exact ⟨rfl, rfl⟩

end Go.Proofs.YtppnbdbigebhaaaGreatDoor.Sha

namespace Go.Proofs.YtppnbdbigebhaaaGreatDoor.Grp
open Go.RowKit

theorem and31 (x : Int) (h0 : 0 ≤ x) (h1 : x < 18446744073709551616) : bits .and .u64 x 2147483647 = x % 2147483648 := by
  obtain ⟨a, rfl⟩ := Int.eq_ofNat_of_zero_le h0
  have h := bits_and_u64_nat a 2147483647 (by omega) (by omega)
  have e2 : a &&& 2147483647 = a % 2147483648 := Nat.and_two_pow_sub_one_eq_mod a 31
  rw [e2] at h
  rw [show ((2147483647 : Nat) : Int) = 2147483647 from rfl] at h
  rw [h]
  omega
theorem and30 (x : Int) (h0 : 0 ≤ x) (h1 : x < 18446744073709551616) : bits .and .u64 x 1073741823 = x % 1073741824 := by
  obtain ⟨a, rfl⟩ := Int.eq_ofNat_of_zero_le h0
  have h := bits_and_u64_nat a 1073741823 (by omega) (by omega)
  have e2 : a &&& 1073741823 = a % 1073741824 := Nat.and_two_pow_sub_one_eq_mod a 30
  rw [e2] at h
  rw [show ((1073741823 : Nat) : Int) = 1073741823 from rfl] at h
  rw [h]
  omega

theorem prod_bd {x y A B : Int} (x0 : 0 ≤ x) (xA : x ≤ A) (y0 : 0 ≤ y) (yB : y ≤ B) : 0 ≤ x * y ∧ x * y ≤ A * B :=
  ⟨Int.mul_nonneg x0 y0, Int.mul_le_mul xA yB y0 (Int.le_trans x0 xA)⟩

set_option maxRecDepth 100000 in
set_option maxHeartbeats 400000 in
theorem parts_any (a b : Int) (w : World) (a0 : 0 ≤ a) (a1 : a < 2305843009213693952) (b0 : 0 ≤ b) (b1 : b < 2305843009213693952) :
    Calls Tryz.prog 256 #[.int .i64 a, .int .i64 b] w fun e w' => e = .returned (.tuple #[.int .u64 (a / 2147483648 * (b / 2147483648)), .int .u64 (a / 2147483648 * (b % 2147483648) + a % 2147483648 * (b / 2147483648)), .int .u64 (a % 2147483648 * (b % 2147483648))]) ∧ Q w w' := by
  have e1 := and31 a a0 (by omega)
  have e2 := and31 b b0 (by omega)
  obtain ⟨p0, p1⟩ := prod_bd (x := a / 2147483648) (A := 1073741823) (y := b / 2147483648) (B := 1073741823) (by omega) (by omega) (by omega) (by omega)
  obtain ⟨q0, q1⟩ := prod_bd (x := a / 2147483648) (A := 1073741823) (y := b % 2147483648) (B := 2147483647) (by omega) (by omega) (by omega) (by omega)
  obtain ⟨r0, r1⟩ := prod_bd (x := a % 2147483648) (A := 2147483647) (y := b / 2147483648) (B := 1073741823) (by omega) (by omega) (by omega) (by omega)
  obtain ⟨s0, s1⟩ := prod_bd (x := a % 2147483648) (A := 2147483647) (y := b % 2147483648) (B := 2147483647) (by omega) (by omega) (by omega) (by omega)
  go_enter Tryz.func256, Tryz.ntmps256
  go_wp2
  go_ret3
  exact ⟨rfl, Q.refl _⟩

theorem split31 (x y : Int) : x * y = x / 2147483648 * (y / 2147483648) * 4611686018427387904 + (x / 2147483648 * (y % 2147483648) + x % 2147483648 * (y / 2147483648)) * 2147483648 + x % 2147483648 * (y % 2147483648) := by
  have hx : x = x / 2147483648 * 2147483648 + x % 2147483648 := by omega
  have hy : y = y / 2147483648 * 2147483648 + y % 2147483648 := by omega
  generalize x / 2147483648 = p at *
  generalize x % 2147483648 = q at *
  generalize y / 2147483648 = r at *
  generalize y % 2147483648 = s at *
  subst hx hy
  grind

/-- The partial products of two residues, and that they do not wrap. -/
structure Parts (x y H M L : Int) : Prop where
  h0 : 0 ≤ H
  h1 : H ≤ 1152921502459363329
  m0 : 0 ≤ M
  m1 : M ≤ 4611686014132420608
  l0 : 0 ≤ L
  l1 : L ≤ 4611686014132420609
  eq : x * y = H * 4611686018427387904 + M * 2147483648 + L

theorem parts_of (a b : Int) (a0 : 0 ≤ a) (a1 : a < 2305843009213693952) (b0 : 0 ≤ b) (b1 : b < 2305843009213693952) :
    Parts a b (a / 2147483648 * (b / 2147483648)) (a / 2147483648 * (b % 2147483648) + a % 2147483648 * (b / 2147483648)) (a % 2147483648 * (b % 2147483648)) := by
  obtain ⟨p0, p1⟩ := prod_bd (x := a / 2147483648) (A := 1073741823) (y := b / 2147483648) (B := 1073741823) (by omega) (by omega) (by omega) (by omega)
  obtain ⟨q0, q1⟩ := prod_bd (x := a / 2147483648) (A := 1073741823) (y := b % 2147483648) (B := 2147483647) (by omega) (by omega) (by omega) (by omega)
  obtain ⟨r0, r1⟩ := prod_bd (x := a % 2147483648) (A := 2147483647) (y := b / 2147483648) (B := 1073741823) (by omega) (by omega) (by omega) (by omega)
  obtain ⟨s0, s1⟩ := prod_bd (x := a % 2147483648) (A := 2147483647) (y := b % 2147483648) (B := 2147483647) (by omega) (by omega) (by omega) (by omega)
  exact ⟨p0, by omega, by omega, by omega, s0, by omega, split31 a b⟩

theorem partsP {a b H M L : Int} (h : Parts (a % 2305843009213693951) (b % 2305843009213693951) H M L) : (2 * H + M / 1073741824 + M % 1073741824 * 2147483648 + L) % 2305843009213693951 = gmul a b := by
  have e := h.eq
  unfold gmul
  rw [Int.mul_emod, e]
  omega
set_option maxRecDepth 100000 in
set_option maxHeartbeats 400000 in
theorem RMul_any (a b : Int) (w : World) :
    Calls Tryz.prog 242 #[.int .i64 a, .int .i64 b] w fun e w' => e = .returned (.int .i64 (gmul a b)) ∧ Q w w' := by
  obtain ⟨a0, a1⟩ := emod_bd a (show (0 : Int) < 2305843009213693951 by decide)
  obtain ⟨b0, b1⟩ := emod_bd b (show (0 : Int) < 2305843009213693951 by decide)
  have hp := parts_of (a % 2305843009213693951) (b % 2305843009213693951) a0 (by omega) b0 (by omega)
  go_enter Tryz.func242, Tryz.ntmps242
  go_wp2_with (first | (go_at_call 257; refine (mod_any _ _ _ (by decide) (by decide)).mono ?_; rintro e w' ⟨rfl, rfl⟩))
  refine (parts_any _ _ _ a0 (by omega) b0 (by omega)).mono ?_
  rintro e w1 ⟨rfl, hq⟩
  generalize a % 2305843009213693951 / 2147483648 * (b % 2305843009213693951 / 2147483648) = H at *
  generalize a % 2305843009213693951 / 2147483648 * (b % 2305843009213693951 % 2147483648) + a % 2305843009213693951 % 2147483648 * (b % 2305843009213693951 / 2147483648) = M at *
  generalize a % 2305843009213693951 % 2147483648 * (b % 2305843009213693951 % 2147483648) = L at *
  obtain ⟨h0, h1, m0, m1, l0, l1, eq⟩ := hp
  have e1 := and30 M m0 (by omega)
  have e2 := Lib.hid (partsP ⟨h0, h1, m0, m1, l0, l1, eq⟩)
  clear eq
  go_wp2
  go_ret
  rw [e2.out]
  exact ⟨rfl, hq⟩

/-- The loop of the reference's Exp: what is left of the exponent, the product so far, the power. -/
structure RSq (A E : Nat) (e x b : Int) : Prop where
  e0 : 0 ≤ e
  e1 : e ≤ 9223372036854775807
  x0 : 0 ≤ x
  x1 : x < 2305843009213693951
  b0 : 0 ≤ b
  b1 : b < 2305843009213693951
  eq : x.toNat * b.toNat ^ e.toNat % 2305843009213693951 = A ^ E % 2305843009213693951

theorem rsq_at (a e E : Int) (h0 : -9223372036854775808 ≤ e) (h1 : e ≤ 9223372036854775807) (hE : expo e = E.toNat) (hE0 : 0 ≤ E := by omega) (hE1 : E ≤ 9223372036854775807 := by omega) : RSq (a % 2305843009213693951).toNat (expo e) E 1 (a % 2305843009213693951) := by
  obtain ⟨a0, a1⟩ := emod_bd a (show (0 : Int) < 2305843009213693951 by decide)
  exact ⟨hE0, hE1, by decide, by decide, a0, a1, by rw [hE]; simp⟩

theorem rsq_odd {A E : Nat} {e x b : Int} (h : RSq A E e x b) (ho : e % 2 = 1) : RSq A E (e / 2) (gmul x b) (gmul b b) := by
  obtain ⟨c0, c1⟩ := emod_bd (x * b) (show (0 : Int) < 2305843009213693951 by decide)
  obtain ⟨d0, d1⟩ := emod_bd (b * b) (show (0 : Int) < 2305843009213693951 by decide)
  have h0 := h.e0
  have h1 := h.e1
  refine ⟨by omega, by omega, c0, c1, d0, d1, ?_⟩
  unfold gmul
  rw [← h.eq, mulmod_toNat _ _ h.x0 h.b0, mulmod_toNat _ _ h.b0 h.b0]
  have e1 : (e / 2).toNat = e.toNat / 2 := by omega
  have e2 : e.toNat % 2 = 1 := by omega
  rw [e1]
  generalize e.toNat = n at *
  have hs : b.toNat ^ n = (b.toNat * b.toNat) ^ (n / 2) * b.toNat := by
    conv => lhs; rw [← Nat.div_add_mod n 2]
    rw [Nat.pow_add, Nat.pow_mul, Nat.pow_two, e2, Nat.pow_one]
  rw [hs, Nat.mul_mod, Nat.mod_mod, ← Nat.pow_mod, ← Nat.mul_mod, Nat.mul_assoc, Nat.mul_comm b.toNat]

theorem rsq_even {A E : Nat} {e x b : Int} (h : RSq A E e x b) (ho : ¬ e % 2 = 1) : RSq A E (e / 2) x (gmul b b) := by
  obtain ⟨d0, d1⟩ := emod_bd (b * b) (show (0 : Int) < 2305843009213693951 by decide)
  have h0 := h.e0
  have h1 := h.e1
  refine ⟨by omega, by omega, h.x0, h.x1, d0, d1, ?_⟩
  unfold gmul
  rw [← h.eq, mulmod_toNat _ _ h.b0 h.b0]
  have e1 : (e / 2).toNat = e.toNat / 2 := by omega
  have e2 : e.toNat % 2 = 0 := by omega
  rw [e1]
  generalize e.toNat = n at *
  have hs : b.toNat ^ n = (b.toNat * b.toNat) ^ (n / 2) := by
    conv => lhs; rw [← Nat.div_add_mod n 2]
    rw [Nat.pow_add, Nat.pow_mul, Nat.pow_two, e2, Nat.pow_zero, Nat.mul_one]
  rw [hs, Nat.mul_mod, ← Nat.pow_mod, ← Nat.mul_mod]

theorem rsq_end {a e e1 x b : Int} (h : RSq (a % 2305843009213693951).toNat (expo e) e1 x b) (hn : ¬ 0 < e1) (hE : expo e < 18446744073709551616) : x = gexp a e := by
  have h0 := h.e0
  have hz : e1.toNat = 0 := by omega
  have h1 := h.eq
  rw [hz, Nat.pow_zero, Nat.mul_one] at h1
  unfold gexp
  rw [pow_eq _ _ hE, ← h1]
  have := h.x0
  have := h.x1
  omega

set_option maxHeartbeats 400000 in
theorem RExp_any (a e : Int) (w : World) (h0 : -9223372036854775808 ≤ e) (h1 : e ≤ 9223372036854775807) :
    Calls Tryz.prog 243 #[.int .i64 a, .int .i64 e] w fun e' w' => e' = .returned (.int .i64 (gexp a e)) ∧ Q w w' := by
  by_cases hn : e < 0
  · go_enter Tryz.func243, Tryz.ntmps243
    go_wp2_with (go_at_call 257; refine (mod_any _ _ _ (by decide) (by decide)).mono ?_; rintro e w' ⟨rfl, rfl⟩)
    go_loopw [1, 5, 6] (fun ev xv bv wr => ∃ e1 x1 b1 : Int, ev = .int .i64 e1 ∧ xv = .int .i64 x1 ∧ bv = .int .i64 b1 ∧ RSq (a % 2305843009213693951).toNat (expo e) e1 x1 b1 ∧ Q w wr) (fun ev _ _ _ => (intOf ev).toNat)
    case atStart => exact ⟨_, _, _, rfl, rfl, rfl, rsq_at a e (e % 2305843009213693950) h0 h1 (by unfold expo; rw [if_pos hn]), Q.refl _⟩
    case round =>
      obtain ⟨e1, x1, b1, rfl, rfl, rfl, hs, hq⟩ := hrel
      have k0 := hs.e0
      have k1 := hs.e1
      by_cases hlt : 0 < e1
      · by_cases ho : e1 % 2 = 1
        · have hb : (e1 % 2 == 1) = true := by simpa using ho
          have HS := Lib.hid (rsq_odd hs ho)
          clear ho hs
          go_wp2_with (first | (go_at_call 242; refine (RMul_any _ _ _).mono ?_; rintro e w' ⟨rfl, hq1⟩))
          exact ⟨⟨_, _, _, rfl, rfl, rfl, HS.out, by repeat (first | exact hq | refine Q.trans ?_ (by assumption))⟩, by simp only [intOf]; omega⟩
        · have hb : (e1 % 2 == 1) = false := by simpa using ho
          have HS := Lib.hid (rsq_even hs ho)
          clear ho hs
          go_wp2_with (first | (go_at_call 242; refine (RMul_any _ _ _).mono ?_; rintro e w' ⟨rfl, hq1⟩))
          exact ⟨⟨_, _, _, rfl, rfl, rfl, HS.out, by repeat (first | exact hq | refine Q.trans ?_ (by assumption))⟩, by simp only [intOf]; omega⟩
      · have HS := Lib.hid hs
        clear hs
        go_wp2
        go_ret
        exact ⟨ret_int (rsq_end HS.out (by omega) (expo_lt e h1)), hq⟩
  · go_enter Tryz.func243, Tryz.ntmps243
    go_wp2_with (go_at_call 257; refine (mod_any _ _ _ (by decide) (by decide)).mono ?_; rintro e w' ⟨rfl, rfl⟩)
    go_loopw [1, 5, 6] (fun ev xv bv wr => ∃ e1 x1 b1 : Int, ev = .int .i64 e1 ∧ xv = .int .i64 x1 ∧ bv = .int .i64 b1 ∧ RSq (a % 2305843009213693951).toNat (expo e) e1 x1 b1 ∧ Q w wr) (fun ev _ _ _ => (intOf ev).toNat)
    case atStart => exact ⟨_, _, _, rfl, rfl, rfl, rsq_at a e e h0 h1 (by unfold expo; rw [if_neg (by omega)]), Q.refl _⟩
    case round =>
      obtain ⟨e1, x1, b1, rfl, rfl, rfl, hs, hq⟩ := hrel
      have k0 := hs.e0
      have k1 := hs.e1
      by_cases hlt : 0 < e1
      · by_cases ho : e1 % 2 = 1
        · have hb : (e1 % 2 == 1) = true := by simpa using ho
          have HS := Lib.hid (rsq_odd hs ho)
          clear ho hs
          go_wp2_with (first | (go_at_call 242; refine (RMul_any _ _ _).mono ?_; rintro e w' ⟨rfl, hq1⟩))
          exact ⟨⟨_, _, _, rfl, rfl, rfl, HS.out, by repeat (first | exact hq | refine Q.trans ?_ (by assumption))⟩, by simp only [intOf]; omega⟩
        · have hb : (e1 % 2 == 1) = false := by simpa using ho
          have HS := Lib.hid (rsq_even hs ho)
          clear ho hs
          go_wp2_with (first | (go_at_call 242; refine (RMul_any _ _ _).mono ?_; rintro e w' ⟨rfl, hq1⟩))
          exact ⟨⟨_, _, _, rfl, rfl, rfl, HS.out, by repeat (first | exact hq | refine Q.trans ?_ (by assumption))⟩, by simp only [intOf]; omega⟩
      · have HS := Lib.hid hs
        clear hs
        go_wp2
        go_ret
        exact ⟨ret_int (rsq_end HS.out (by omega) (expo_lt e h1)), hq⟩

end Go.Proofs.YtppnbdbigebhaaaGreatDoor.Grp

namespace Go.Proofs.YtppnbdbigebhaaaGreatDoor.Sign
open Go.RowKit Grp Mem _root_.Go.Proofs.YtppnbdbigebhaaaGreatDoor.Code Sha

theorem cat4 (a b c d : ByteArray) : cat [a, b, c, d] = a ++ b ++ c ++ d := by apply ba_ext; rw [ba_append, ba_append, ba_append]; simp [cat]
theorem Rhash_any (s : ByteArray) (w : World) (hs : s.size ≤ 140737488355200) :
    Calls Tryz.prog 241 #[.string s] w fun e w' => e = .returned (.int .i64 (hashI s)) ∧ Q w w' := by
  go_enter Tryz.func241, Tryz.ntmps241
  go_wp2_with fail
  refine (RSha_any _ _ hs).mono ?_
  rintro e w2 ⟨rfl, hq2⟩
  have hz := sha_size s
  go_wp2_with fail
  refine (RsumNum_any _ _ (by omega)).mono ?_
  rintro e w3 ⟨rfl, rfl⟩
  go_wp2
  go_ret
  exact ⟨rfl, hq2⟩
set_option maxRecDepth 100000 in
set_option maxHeartbeats 1000000 in
theorem RChallenge_any (r y : Int) (m : ByteArray) (w : World) (hr : r ≤ 9223372036854775807) (hy : y ≤ 9223372036854775807) (hm : m.size ≤ 140737488355100) :
    Calls Tryz.prog 226 #[.int .i64 r, .int .i64 y, .string m] w fun e w' => e = .returned (.int .i64 (chalI r y m)) ∧ Q w w' := by
  have hz : (chalB r y m).size ≤ 140737488355200 := by have := chalB_size r y m; omega
  have HZ := Lib.hid hz
  have h1 := textB_size (lit [115, 105, 103, 110])
  have h2 := textB_size m
  have h3 : (lit [115, 105, 103, 110]).size = 4 := rfl
  have h4 := numB_size r
  have h5 := numB_size y
  have h1 : (textB ⟨#[115, 105, 103, 110]⟩).size ≤ 14 := h1
  have s1 : (textB ⟨#[115, 105, 103, 110]⟩).size + (numB r).size ≤ 9223372036854775807 := by omega
  have s2 : (textB ⟨#[115, 105, 103, 110]⟩).size + (numB r).size + (numB y).size ≤ 9223372036854775807 := by omega
  have s3 : (textB ⟨#[115, 105, 103, 110]⟩).size + (numB r).size + (numB y).size + (textB m).size ≤ 9223372036854775807 := by omega
  have hcat : chalB r y m = textB ⟨#[115, 105, 103, 110]⟩ ++ numB r ++ numB y ++ textB m := cat4 _ _ _ _
  have HC := Lib.hid hcat
  clear hz hcat h1 h2 h3 h4 h5
  go_enter Tryz.func226, Tryz.ntmps226
  go_wp2_with fail
  refine (RText_any _ _ (by decide)).mono ?_
  rintro e w1 ⟨rfl, hq1⟩
  go_wp2_with fail
  refine (RNum_any _ _ hr).mono ?_
  rintro e w2 ⟨rfl, hq2⟩
  go_wp2_with fail
  refine (RNum_any _ _ hy).mono ?_
  rintro e w3 ⟨rfl, hq3⟩
  go_wp2_with fail
  refine (RText_any _ _ (by omega)).mono ?_
  rintro e w4 ⟨rfl, hq4⟩
  have hq := Q.trans hq1 (Q.trans hq2 (Q.trans hq3 hq4))
  clear hq1 hq2 hq3 hq4
  go_wp2_with fail
  rw [← HC.out]
  refine (Rhash_any _ _ HZ.out).mono ?_
  rintro e w5 ⟨rfl, hq5⟩
  have hb := hashI_bd (chalB r y m)
  go_wp2
  go_ret
  exact ⟨rfl, Q.trans hq hq5⟩
set_option maxHeartbeats 1000000 in
theorem RComm_any (p x y : Int) (w : World) (hx0 : 0 ≤ x) (hx1 : x < 2305843009213693950) (hy0 : -9223372036854775808 ≤ y) (hy1 : y ≤ 9223372036854775807) :
    Calls Tryz.prog 227 #[.int .i64 p, .agg #[.int .i64 x, .int .i64 y]] w fun e w' => e = .returned (.int .i64 (commI p (x, y))) ∧ Q w w' := by
  have hwr : IntKind.i64.wrap (2305843009213693950 - x) = 2305843009213693950 - x := IntWalk.i64_in _ ⟨by omega, by omega⟩
  go_enter Tryz.func227, Tryz.ntmps227
  go_wp2_with fail
  have hb := Blk.new w 39 #[.int .i64 x, .int .i64 y]
  have hq0 := q_new w #[.int .i64 x, .int .i64 y] 39
  have hc0 := hb.cell 0
  have hc1 := hb.cell 1
  simp only [List.getElem?_toArray, List.getElem?_cons_zero, List.getElem?_cons_succ] at hc0 hc1
  have hlt := hb.lt
  generalize hW : w.alloc (.cells #[.int .i64 x, .int .i64 y] 39) = W at *
  clear hb
  go_region_held3 (fun w' => w'.cell? ⟨w.heap.size, 0, none⟩ = some (.int .i64 x) ∧ w'.cell? ⟨w.heap.size, 1, none⟩ = some (.int .i64 y) ∧ w.heap.size < w'.heap.size ∧ Q w w') (first | exact ⟨hc0, hc1, hlt, hq0.drew⟩ | exact held2 (by assumption) hq) (first | (go_at_call 243; refine (RExp_any _ _ _ (by omega) (by omega)).mono ?_; rintro e w' ⟨rfl, hq⟩) | (go_at_call 242; refine (RMul_any _ _ _).mono ?_; rintro e w' ⟨rfl, hq⟩))
  rw [comm_eq]
  go_wp2
  go_ret
  exact ⟨rfl, by rename_i hh; exact hh.2.2.2⟩
theorem RComm_at (p x y r : Int) (w : World) (h : commI p (x, y) = r) (hx0 : 0 ≤ x) (hx1 : x < 2305843009213693950) (hy0 : -9223372036854775808 ≤ y) (hy1 : y ≤ 9223372036854775807) :
    Calls Tryz.prog 227 #[.int .i64 p, .agg #[.int .i64 x, .int .i64 y]] w fun e w' => e = .returned (.int .i64 r) ∧ Q w w' := h ▸ RComm_any p x y w hx0 hx1 hy0 hy1
theorem RChal_at (r y e : Int) (m : ByteArray) (w : World) (h : chalI r y m = e) (hr : r ≤ 9223372036854775807) (hy : y ≤ 9223372036854775807) (hm : m.size ≤ 140737488355100) :
    Calls Tryz.prog 226 #[.int .i64 r, .int .i64 y, .string m] w fun e' w' => e' = .returned (.int .i64 e) ∧ Q w w' := h ▸ RChallenge_any r y m w hr hy hm
set_option maxHeartbeats 1000000 in
theorem RRanges_any (p x y : Int) (w : World) :
    Calls Tryz.prog 225 #[.int .i64 p, .agg #[.int .i64 x, .int .i64 y]] w fun e w' => e = .returned (.bool (rangeI p (x, y))) ∧ Q w w' := by
  have hq0 := q_new w #[.int .i64 x, .int .i64 y] 39
  unfold rangeI inI
  dsimp only
  by_cases h1 : 1 ≤ p
  · have e1 : decide (1 ≤ p) = true := by simp [h1]
    by_cases h2 : p < 2305843009213693951
    · have e2 : decide (p < 2305843009213693951) = true := by simp [h2]
      by_cases h3 : 0 ≤ x
      · have e3 : decide (0 ≤ x) = true := by simp [h3]
        by_cases h4 : x < 2305843009213693950
        · have e4 : decide (x < 2305843009213693950) = true := by simp [h4]
          by_cases h5 : 0 ≤ y
          · have e5 : decide (0 ≤ y) = true := by simp [h5]
            rw [e1, e2, e3, e4, e5]
            simp only [Bool.true_and]
            go_enter Tryz.func225, Tryz.ntmps225
            go_wp2
            go_ret
            exact ⟨rfl, hq0⟩
          · have e5 : decide (0 ≤ y) = false := by simp; omega
            rw [e5]
            simp only [Bool.and_false, Bool.false_and]
            go_enter Tryz.func225, Tryz.ntmps225
            go_wp2
            go_ret
            exact ⟨rfl, hq0⟩
        · have e4 : decide (x < 2305843009213693950) = false := by simp; omega
          rw [e4]
          simp only [Bool.and_false, Bool.false_and]
          go_enter Tryz.func225, Tryz.ntmps225
          go_wp2
          go_ret
          exact ⟨rfl, hq0⟩
      · have e3 : decide (0 ≤ x) = false := by simp; omega
        rw [e3]
        simp only [Bool.and_false, Bool.false_and]
        go_enter Tryz.func225, Tryz.ntmps225
        go_wp2
        go_ret
        exact ⟨rfl, hq0⟩
    · have e2 : decide (p < 2305843009213693951) = false := by simp; omega
      rw [e2]
      simp only [Bool.and_false, Bool.false_and]
      go_enter Tryz.func225, Tryz.ntmps225
      go_wp2
      go_ret
      exact ⟨rfl, hq0⟩
  · have e1 : decide (1 ≤ p) = false := by simp; omega
    rw [e1]
    simp only [Bool.and_false, Bool.false_and]
    go_enter Tryz.func225, Tryz.ntmps225
    go_wp2
    go_ret
    exact ⟨rfl, hq0⟩
theorem RRanges_at (p x y : Int) (b : Bool) (w : World) (h : rangeI p (x, y) = b) :
    Calls Tryz.prog 225 #[.int .i64 p, .agg #[.int .i64 x, .int .i64 y]] w fun e w' => e = .returned (.bool b) ∧ Q w w' := h ▸ RRanges_any p x y w
set_option maxHeartbeats 1000000 in
theorem RVerify_any (p : Int) (m : ByteArray) (x y : Int) (w : World) (hm : m.size ≤ 140737488355100) :
    Calls Tryz.prog 200 #[.int .i64 p, .string m, .agg #[.int .i64 x, .int .i64 y]] w fun e w' => e = .returned (.bool (verI p m (x, y))) ∧ Q w w' := by
  unfold verI
  dsimp only
  have hb := Blk.new w 39 #[.int .i64 x, .int .i64 y]
  have hq0 := q_new w #[.int .i64 x, .int .i64 y] 39
  cases h : rangeI p (x, y) with
  | false =>
    rw [Bool.false_and]
    go_enter Tryz.func200, Tryz.ntmps200
    go_wp2_with fail
    refine (RRanges_at _ _ _ _ _ h).mono ?_
    rintro e w1 ⟨rfl, hq1⟩
    go_wp2
    go_ret
    exact ⟨rfl, Q.trans hq0 hq1⟩
  | true =>
    rw [Bool.true_and]
    have h' := h
    unfold rangeI at h'
    simp only [Bool.and_eq_true, decide_eq_true_eq] at h'
    obtain ⟨⟨h1, h2⟩, hE, hS⟩ := h'
    obtain ⟨hx0, hx1⟩ : 0 ≤ x ∧ x < 2305843009213693950 := by unfold inI at hE; simpa using hE
    obtain ⟨hy0, hy1⟩ : 0 ≤ y ∧ y < 2305843009213693950 := by unfold inI at hS; simpa using hS
    have hgb : 0 ≤ commI p (x, y) ∧ commI p (x, y) < 2305843009213693951 := emod_bd _ (by decide)
    obtain ⟨r, hr⟩ : ∃ r, commI p (x, y) = r := ⟨_, rfl⟩
    obtain ⟨c, hc⟩ : ∃ c, chalI r p m = c := ⟨_, rfl⟩
    have hEq : decide (x = chalI (commI p (x, y)) p m) = (c == x) := by
      rw [hr, hc]
      by_cases e : x = c
      · subst e; simp
      · have e2 : ¬ c = x := fun h => e h.symm
        simp [e, e2]
    rw [hEq]
    rw [hr] at hgb
    have HGB := Lib.hid hgb
    clear hgb hEq hE hS
    go_enter Tryz.func200, Tryz.ntmps200
    go_wp2_with fail
    refine (RRanges_at _ _ _ _ _ h).mono ?_
    rintro e w1 ⟨rfl, hq1⟩
    have hb := hb.q hq1
    have hc0 := hb.cell 0
    have hc1 := hb.cell 1
    simp only [List.getElem?_toArray, List.getElem?_cons_zero, List.getElem?_cons_succ] at hc0 hc1
    have hlt := hb.lt
    have hq := Q.trans hq0 hq1
    clear hb hq0 hq1
    go_wp2_with fail
    go_region_held3 (fun w' => w'.cell? ⟨w.heap.size, 0, none⟩ = some (.int .i64 x) ∧ w'.cell? ⟨w.heap.size, 1, none⟩ = some (.int .i64 y) ∧ w.heap.size < w'.heap.size ∧ Q w w') (first | exact ⟨hc0, hc1, hlt, hq.drew⟩ | exact held2 (by assumption) hq) (first | (go_at_call 227; refine (RComm_at _ _ _ _ _ (by with_reducible exact hr) hx0 hx1 (by omega) (by omega)).mono ?_; rintro e w' ⟨rfl, hq⟩) | (go_at_call 226; refine (RChal_at _ _ _ _ _ (by with_reducible exact hc) (by have := HGB.out; omega) (by omega) hm).mono ?_; rintro e w' ⟨rfl, hq⟩))
    go_wp2
    go_ret
    exact ⟨by first | rfl | simp, by rename_i hh; exact hh.2.2.2⟩
end Go.Proofs.YtppnbdbigebhaaaGreatDoor.Sign

namespace Go.Proofs.YtppnbdbigebhaaaGreatDoor.Item
open Go.RowKit Grp Mem _root_.Go.Proofs.YtppnbdbigebhaaaGreatDoor.Code Sha Sign

set_option maxRecDepth 100000 in
set_option maxHeartbeats 2000000 in
theorem rmsgBallot_any (b : BallotV) (w : World) (hz1 : b.actor.size ≤ 1000000) (hz2 : b.claim.size ≤ 1000000) (hn : b.server ≤ 9223372036854775807 ∧ b.gen ≤ 9223372036854775807 ∧ b.time ≤ 9223372036854775807) (hil : (ballotL b).length ≤ 110000000) : Calls Tryz.prog 201 #[.agg (ballotA b)] w fun e w' => e = .returned (.string ⟨(textL ballotT ++ ballotL b).toArray⟩) ∧ Q w w' := by
  obtain ⟨w1, x, hx, hq1, hl, hr⟩ := boxed2 w 50 b.cells
  have hx : w.alloc (.cells (ballotA b) 50) = x.w := hx
  have hLd : ∀ y : Wd w1, (Instr.loadAt 50 (.pointer (some ⟨w.heap.size, 0, none⟩))).run Tryz.prog y.w = .ok (.agg (ballotA b)) y.w := Wd.load hl hr Tryz.underlying50 rfl (by kernel_rfl)
  have hCo : ∀ y : Wd w1, Calls Tryz.prog 142 #[.agg (ballotA b)] y.w fun e w' => e = .returned (.string (⟨(ballotL b).toArray⟩ : ByteArray)) ∧ Q y.w w' := fun y => rcoreBallot_any b y.w hz1 hz2 hn
  have hTx : ∀ y : Wd w1, Calls Tryz.prog 148 #[.string ballotT] y.w fun e w' => e = .returned (.string (textB ballotT)) ∧ Q y.w w' := fun y => RText_any _ _ (by decide)
  have HR : Hid (textB ballotT ++ (⟨(ballotL b).toArray⟩ : ByteArray) = ⟨(textL ballotT ++ ballotL b).toArray⟩) := Lib.hid (by
    apply ba_ext
    rw [ba_list]
    simp only [ba_append, textB_list])
  have n1 := textB_size ballotT
  have n2 : (ballotT).size ≤ 100 := by decide
  have hil : (⟨(ballotL b).toArray⟩ : ByteArray).size ≤ 110000000 := by rw [ba_size]; exact hil
  generalize (⟨(ballotL b).toArray⟩ : ByteArray) = X at *
  have f1 : (textB ballotT).size + X.size ≤ 9223372036854775807 := by omega
  generalize textB ballotT = Y at *
  have hTx : ∀ y : Wd w1, Calls Tryz.prog 148 #[.string ⟨#[98, 97, 108, 108, 111, 116]⟩] y.w fun e w' => e = .returned (.string Y) ∧ Q y.w w' := hTx
  clear hl hr n1 n2
  go_enter Tryz.func201, Tryz.ntmps201
  go_upto_region 1 with (fail)
  refine wp_region_wd x (by kernel_rfl) (by kernel_rfl) ?_
  repeat (first | (refine wpQuiet_load_run 50 (.tmp 1) (.pointer (some ⟨w.heap.size, 0, none⟩)) (.agg (ballotA b)) ?_ ?_ ?_ ?_ ?_; rfl; rfl; rfl; exact hLd; dsimp only [Act.put]; simp only [List.setIfInBounds_toArray, List.set_cons_succ, List.set_cons_zero]) | go_big_quiet_step (first | with_reducible exact Wd.call _ (hTx _) | with_reducible exact Wd.call _ (hCo _)))
  refine wpQuiet_nil ?_
  rintro w'' ⟨z, rfl⟩
  go_wp2
  go_ret
  exact ⟨by rw [← HR.out]; rfl, Q.trans hq1 z.q⟩

set_option maxRecDepth 100000 in
set_option maxHeartbeats 2000000 in
theorem rmsgDec_any (b : DecR) (w : World) (hco : ∀ z, Q w z → Calls Tryz.prog 143 #[.agg (decA b)] z fun e w2 => e = .returned (.string ⟨(decL b).toArray⟩) ∧ Q z w2) (hil : (decL b).length ≤ 110000000) : Calls Tryz.prog 202 #[.agg (decA b)] w fun e w' => e = .returned (.string ⟨(textL decisionT ++ decL b).toArray⟩) ∧ Q w w' := by
  obtain ⟨w1, x, hx, hq1, hl, hr⟩ := boxed2 w 52 b.cells
  have hx : w.alloc (.cells (decA b) 52) = x.w := hx
  have hLd : ∀ y : Wd w1, (Instr.loadAt 52 (.pointer (some ⟨w.heap.size, 0, none⟩))).run Tryz.prog y.w = .ok (.agg (decA b)) y.w := Wd.load hl hr Tryz.underlying52 rfl (by kernel_rfl)
  have hCo : ∀ y : Wd w1, Calls Tryz.prog 143 #[.agg (decA b)] y.w fun e w' => e = .returned (.string (⟨(decL b).toArray⟩ : ByteArray)) ∧ Q y.w w' := fun y => hco y.w (Q.trans hq1 y.q)
  have hTx : ∀ y : Wd w1, Calls Tryz.prog 148 #[.string decisionT] y.w fun e w' => e = .returned (.string (textB decisionT)) ∧ Q y.w w' := fun y => RText_any _ _ (by decide)
  have HR : Hid (textB decisionT ++ (⟨(decL b).toArray⟩ : ByteArray) = ⟨(textL decisionT ++ decL b).toArray⟩) := Lib.hid (by
    apply ba_ext
    rw [ba_list]
    simp only [ba_append, textB_list])
  have n1 := textB_size decisionT
  have n2 : (decisionT).size ≤ 100 := by decide
  have hil : (⟨(decL b).toArray⟩ : ByteArray).size ≤ 110000000 := by rw [ba_size]; exact hil
  generalize (⟨(decL b).toArray⟩ : ByteArray) = X at *
  have f1 : (textB decisionT).size + X.size ≤ 9223372036854775807 := by omega
  generalize textB decisionT = Y at *
  have hTx : ∀ y : Wd w1, Calls Tryz.prog 148 #[.string ⟨#[100, 101, 99, 105, 115, 105, 111, 110]⟩] y.w fun e w' => e = .returned (.string Y) ∧ Q y.w w' := hTx
  clear hl hr n1 n2
  go_enter Tryz.func202, Tryz.ntmps202
  go_upto_region 1 with (fail)
  refine wp_region_wd x (by kernel_rfl) (by kernel_rfl) ?_
  repeat (first | (refine wpQuiet_load_run 52 (.tmp 1) (.pointer (some ⟨w.heap.size, 0, none⟩)) (.agg (decA b)) ?_ ?_ ?_ ?_ ?_; rfl; rfl; rfl; exact hLd; dsimp only [Act.put]; simp only [List.setIfInBounds_toArray, List.set_cons_succ, List.set_cons_zero]) | go_big_quiet_step (first | with_reducible exact Wd.call _ (hTx _) | with_reducible exact Wd.call _ (hCo _)))
  refine wpQuiet_nil ?_
  rintro w'' ⟨z, rfl⟩
  go_wp2
  go_ret
  exact ⟨by rw [← HR.out]; rfl, Q.trans hq1 z.q⟩
end Go.Proofs.YtppnbdbigebhaaaGreatDoor.Item

namespace Go.Proofs.YtppnbdbigebhaaaGreatDoor.Item
open Go.RowKit Grp Mem _root_.Go.Proofs.YtppnbdbigebhaaaGreatDoor.Code Sha Sign

set_option maxRecDepth 100000 in
set_option maxHeartbeats 4000000 in
theorem rsigned_no (A : Option Addr) (c : Nat) (sv : List Int) (i : ItemR) (w : World) (hI : ItemIn w i) (ho : ItemOk i) (h : itemRight i = false) : Calls Tryz.prog 136 #[.slice A sv.length c, .agg (itA i)] w fun e w' => e = .returned (.bool (signedB sv i)) ∧ Q w w' := by
  obtain ⟨w1, x, hx, hq1, hl, hr⟩ := boxed w 54 i.cells
  have hx : w.alloc (.cells (itA i) 54) = x.w := hx
  have hIt : ∀ y : Wd w1, (Instr.loadAt 54 (.pointer (some ⟨w.heap.size, 0, none⟩))).run Tryz.prog y.w = .ok (.agg (itA i)) y.w := Wd.load hl hr Tryz.underlying54 rfl (by kernel_rfl)
  have hRi := fun y : Wd w1 => rright_any i y.w (hI.q (Q.trans hq1 y.q)) ho
  rw [h] at hRi
  have HR : Hid (signedB sv i = false) := Lib.hid (by unfold signedB; rw [h]; rfl)
  clear hr
  go_enter Tryz.func136, Tryz.ntmps136
  go_wp2_with (first | (refine wpList_load_run 54 (.tmp 3) (.pointer (some ⟨w.heap.size, 0, none⟩)) (.agg (itA i)) ?_ ?_ ?_ ?_ ?_; rfl; rfl; rfl; exact hIt _) | (go_at_call 137; refine (hRi _).mono ?_; rintro e w' ⟨rfl, hq2⟩; obtain ⟨y, rfl⟩ := Wd.next _ hq2; clear hq2))
  go_ret
  exact ⟨by rw [HR.out]; rfl, Q.trans hq1 (Wd.q _)⟩
set_option maxRecDepth 100000 in
set_option maxHeartbeats 4000000 in
theorem rsigned_free (A : Option Addr) (c : Nat) (sv : List Int) (i : ItemR) (w : World) (hI : ItemIn w i) (ho : ItemOk i) (h : itemRight i = true) (k2 : ¬ i.kind = 2) (k3 : ¬ i.kind = 3) : Calls Tryz.prog 136 #[.slice A sv.length c, .agg (itA i)] w fun e w' => e = .returned (.bool (signedB sv i)) ∧ Q w w' := by
  obtain ⟨w1, x, hx, hq1, hl, hr⟩ := boxed w 54 i.cells
  have hx : w.alloc (.cells (itA i) 54) = x.w := hx
  have hIt : ∀ y : Wd w1, (Instr.loadAt 54 (.pointer (some ⟨w.heap.size, 0, none⟩))).run Tryz.prog y.w = .ok (.agg (itA i)) y.w := Wd.load hl hr Tryz.underlying54 rfl (by kernel_rfl)
  have hRi := fun y : Wd w1 => rright_any i y.w (hI.q (Q.trans hq1 y.q)) ho
  rw [h] at hRi
  have c0 := cell_of hl hr 0 (.int .i64 i.kind) rfl
  have e2 : (i.kind == 2) = false := by simpa using k2
  have e3 : (i.kind == 3) = false := by simpa using k3
  have HR : Hid (signedB sv i = true) := Lib.hid (by unfold signedB; rw [h, if_neg k2, if_neg k3]; rfl)
  clear hr k2 k3
  go_enter Tryz.func136, Tryz.ntmps136
  go_wp2_with (first | (refine wpList_load_run 54 (.tmp 3) (.pointer (some ⟨w.heap.size, 0, none⟩)) (.agg (itA i)) ?_ ?_ ?_ ?_ ?_; rfl; rfl; rfl; exact hIt _) | (go_at_call 137; refine (hRi _).mono ?_; rintro e w' ⟨rfl, hq2⟩; obtain ⟨y, rfl⟩ := Wd.next _ hq2; clear hq2))
  go_ret
  exact ⟨by rw [HR.out]; rfl, Q.trans hq1 (Wd.q _)⟩

set_option maxRecDepth 100000 in
set_option maxHeartbeats 4000000 in
theorem rsigned_ballot (A : Option Addr) (c : Nat) (sv : List Int) (i : ItemR) (w : World) (hI : ItemIn w i) (ho : ItemOk i) (hS : Ints w A sv) (hsl : sv.length ≤ maxLen) (h : itemRight i = true) (hk : i.kind = 2) :
    Calls Tryz.prog 136 #[.slice A sv.length c, .agg (itA i)] w fun e w' => e = .returned (.bool (signedB sv i)) ∧ Q w w' := by
  obtain ⟨w1, x, hx, hq1, hl, hr⟩ := boxed w 54 i.cells
  have hx : w.alloc (.cells (itA i) 54) = x.w := hx
  have hIt : ∀ y : Wd w1, (Instr.loadAt 54 (.pointer (some ⟨w.heap.size, 0, none⟩))).run Tryz.prog y.w = .ok (.agg (itA i)) y.w := Wd.load hl hr Tryz.underlying54 rfl (by kernel_rfl)
  have hI' : ∀ y : Wd w1, ItemIn y.w i := fun y => hI.q (Q.trans hq1 y.q)
  have hS' : ∀ y : Wd w1, Ints y.w A sv := fun y => hS.q (Q.trans hq1 y.q)
  have hRi := fun y : Wd w1 => rright_any i y.w (hI' y) ho
  rw [h] at hRi
  have c0 := cell_of hl hr 0 (.int .i64 i.kind) rfl
  rw [hk] at c0
  have cs := cell_of hl hr 30 (.int .i64 i.ballot.server) rfl
  have hPart := item_ballot hl hr
  have hSig : ∀ y : Wd w1, (Instr.loadAt 39 (.pointer (some ⟨w.heap.size, 35, none⟩))).run Tryz.prog y.w = .ok (.agg #[.int .i64 i.ballot.e, .int .i64 i.ballot.s]) y.w := Wd.load hl (show w1.rangeAt w.heap.size 35 [.int .i64 i.ballot.e, .int .i64 i.ballot.s] from by have := range_sub hr 35 2; rw [Nat.zero_add] at this; exact this) Tryz.underlying39 rfl (by kernel_rfl)
  have sm := small_ballot (show ballotRight i.ballot = true by unfold itemRight at h; simp [hk] at h; exact h.1)
  have hil := itemL_le i (small_right h (by omega))
  have hil : (ballotL i.ballot).length ≤ 110000000 := by unfold itemL at hil; simpa [hk] using hil
  have hM : ∀ y : Wd w1, Calls Tryz.prog 201 #[.agg (ballotA i.ballot)] y.w fun e w' => e = .returned (.string (⟨(textL ballotT ++ ballotL i.ballot).toArray⟩ : ByteArray)) ∧ Q y.w w' := fun y => rmsgBallot_any i.ballot y.w sm.1 sm.2.1 ⟨sm.2.2 _ (by simp), sm.2.2 _ (by simp), sm.2.2 _ (by simp)⟩ hil
  have hms : (⟨(textL ballotT ++ ballotL i.ballot).toArray⟩ : ByteArray).size ≤ 140737488355100 := by
    have h1 := textB_size ballotT
    have h2 : (ballotT).size ≤ 100 := by decide
    have h3 : (textB ballotT).size = (textL ballotT).length := ba_size _
    rw [ba_size, List.length_append]
    omega
  have hb := server_bd h (by omega)
  have hse : serverI i = i.ballot.server := by unfold serverI; simp [hk]
  rw [hse] at hb
  have HR := Lib.hid (show signedB sv i = (decide (i.ballot.server < sv.length) && verI (sv.getD i.ballot.server.toNat 0) ⟨(textL ballotT ++ ballotL i.ballot).toArray⟩ (i.ballot.e, i.ballot.s)) by
    unfold signedB messageB sigV nameT itemL
    simp [h, hk])
  have hVf := fun (p : Int) (y : Wd w1) => RVerify_any p ⟨(textL ballotT ++ ballotL i.ballot).toArray⟩ i.ballot.e i.ballot.s y.w hms
  generalize (⟨(textL ballotT ++ ballotL i.ballot).toArray⟩ : ByteArray) = M at *
  unfold maxLen at hsl
  clear hr sm hil hms hse hk
  generalize i.ballot.server = s at *
  by_cases hlt : s.toNat < sv.length
  · obtain ⟨b, o, rfl, hbl, hcell⟩ := hS' ⟨w1, Q.refl _⟩ (by omega)
    have hbl : b < w1.heap.size := hbl
    have hce : ∀ y : Wd w1, y.w.cell? ⟨b, o + s.toNat, none⟩ = some (.int .i64 sv[s.toNat]) := fun y => (y.q.cell (p := ⟨b, o + s.toNat, none⟩) hbl).trans (hcell _ hlt)
    have hd : decide (s < (sv.length : Int)) = true := by rw [decide_eq_true_eq]; omega
    have hsl2 : s < (sv.length : Int) := by omega
    have HG := Lib.hid (show sv.getD s.toNat 0 = sv[s.toNat] by simp [hlt])
    have hVs := hVf sv[s.toNat]
    clear hcell hS' hVf
    go_enter Tryz.func136, Tryz.ntmps136
    go_wp2_with (first | (refine wpList_load_run 54 (.tmp 3) (.pointer (some ⟨w.heap.size, 0, none⟩)) (.agg (itA i)) ?_ ?_ ?_ ?_ ?_; rfl; rfl; rfl; exact hIt _) | (go_at_call 137; refine (hRi _).mono ?_; rintro e w' ⟨rfl, hq2⟩; obtain ⟨y, rfl⟩ := Wd.next _ hq2; clear hq2))
    refine wp_region_wd y (by kernel_rfl) (by kernel_rfl) ?_
    repeat (first | (refine wpQuiet_load_run 50 (.tmp 27) (.pointer (some ⟨w.heap.size, 30, none⟩)) (.agg (ballotA i.ballot)) ?_ ?_ ?_ ?_ ?_; rfl; rfl; rfl; exact hPart; dsimp only [Act.put]; simp only [List.setIfInBounds_toArray, List.set_cons_succ, List.set_cons_zero]) | (refine wpQuiet_load_run 39 (.tmp 31) (.pointer (some ⟨w.heap.size, 35, none⟩)) (.agg #[.int .i64 i.ballot.e, .int .i64 i.ballot.s]) ?_ ?_ ?_ ?_ ?_; rfl; rfl; rfl; exact hSig; dsimp only [Act.put]; simp only [List.setIfInBounds_toArray, List.set_cons_succ, List.set_cons_zero]) | go_big_quiet_step (first | with_reducible exact Wd.call _ (hM _) | with_reducible exact Wd.call _ (hVs _)))
    refine wpQuiet_nil ?_
    rintro w'' ⟨z, rfl⟩
    go_wp2
    go_ret
    exact ⟨by rw [HR.out, HG.out, hd]; rfl, Q.trans hq1 z.q⟩
  · have hd : decide (s < (sv.length : Int)) = false := by rw [decide_eq_false_iff_not]; omega
    have hsl2 : ¬ s < (sv.length : Int) := by omega
    go_enter Tryz.func136, Tryz.ntmps136
    go_wp2_with (first | (refine wpList_load_run 54 (.tmp 3) (.pointer (some ⟨w.heap.size, 0, none⟩)) (.agg (itA i)) ?_ ?_ ?_ ?_ ?_; rfl; rfl; rfl; exact hIt _) | (go_at_call 137; refine (hRi _).mono ?_; rintro e w' ⟨rfl, hq2⟩; obtain ⟨y, rfl⟩ := Wd.next _ hq2; clear hq2))
    refine wp_region_wd y (by kernel_rfl) (by kernel_rfl) ?_
    repeat (go_big_quiet_step (fail))
    refine wpQuiet_nil ?_
    rintro w'' ⟨z, rfl⟩
    go_wp2
    go_ret
    exact ⟨by rw [HR.out, hd]; rfl, Q.trans hq1 z.q⟩

set_option maxRecDepth 100000 in
set_option maxHeartbeats 4000000 in
theorem rsigned_dec (A : Option Addr) (c : Nat) (sv : List Int) (i : ItemR) (w : World) (hI : ItemIn w i) (ho : ItemOk i) (hS : Ints w A sv) (hsl : sv.length ≤ maxLen) (h : itemRight i = true) (hk : i.kind = 3) :
    Calls Tryz.prog 136 #[.slice A sv.length c, .agg (itA i)] w fun e w' => e = .returned (.bool (signedB sv i)) ∧ Q w w' := by
  obtain ⟨w1, x, hx, hq1, hl, hr⟩ := boxed w 54 i.cells
  have hx : w.alloc (.cells (itA i) 54) = x.w := hx
  have hIt : ∀ y : Wd w1, (Instr.loadAt 54 (.pointer (some ⟨w.heap.size, 0, none⟩))).run Tryz.prog y.w = .ok (.agg (itA i)) y.w := Wd.load hl hr Tryz.underlying54 rfl (by kernel_rfl)
  have hI' : ∀ y : Wd w1, ItemIn y.w i := fun y => hI.q (Q.trans hq1 y.q)
  have hS' : ∀ y : Wd w1, Ints y.w A sv := fun y => hS.q (Q.trans hq1 y.q)
  have hRi := fun y : Wd w1 => rright_any i y.w (hI' y) ho
  rw [h] at hRi
  have c0 := cell_of hl hr 0 (.int .i64 i.kind) rfl
  rw [hk] at c0
  have cs := cell_of hl hr 37 (.int .i64 i.dec.server) rfl
  have hPart := item_dec hl hr
  have hSig : ∀ y : Wd w1, (Instr.loadAt 39 (.pointer (some ⟨w.heap.size, 47, none⟩))).run Tryz.prog y.w = .ok (.agg #[.int .i64 i.dec.e, .int .i64 i.dec.s]) y.w := Wd.load hl (show w1.rangeAt w.heap.size 47 [.int .i64 i.dec.e, .int .i64 i.dec.s] from by have := range_sub hr 47 2; rw [Nat.zero_add] at this; exact this) Tryz.underlying39 rfl (by kernel_rfl)
  have sm := small_dec (show decRight i.dec = true by unfold itemRight at h; simp [hk] at h; exact h.1)
  have hil := itemL_le i (small_right h (by omega))
  have hil : (decL i.dec).length ≤ 110000000 := by unfold itemL at hil; simpa [hk] using hil
  have hM : ∀ y : Wd w1, Calls Tryz.prog 202 #[.agg (decA i.dec)] y.w fun e w' => e = .returned (.string (⟨(textL decisionT ++ decL i.dec).toArray⟩ : ByteArray)) ∧ Q y.w w' := fun y => rmsgDec_any i.dec y.w (fun z hz => rcoreDec_any i.dec z (hI.q (Q.trans hq1 (Q.trans y.q hz))).dec ⟨sm.1, sm.2.1, sm.2.2.1⟩ sm.2.2.2.2.2 sm.2.2.2.2.1 ⟨sm.2.2.2.1 _ (by simp), sm.2.2.2.1 _ (by simp), sm.2.2.2.1 _ (by simp), sm.2.2.2.1 _ (by simp), sm.2.2.2.1 _ (by simp), sm.2.2.2.1 _ (by simp)⟩) hil
  have hms : (⟨(textL decisionT ++ decL i.dec).toArray⟩ : ByteArray).size ≤ 140737488355100 := by
    have h1 := textB_size decisionT
    have h2 : (decisionT).size ≤ 100 := by decide
    have h3 : (textB decisionT).size = (textL decisionT).length := ba_size _
    rw [ba_size, List.length_append]
    omega
  have hb := server_bd h (by omega)
  have hse : serverI i = i.dec.server := by unfold serverI; simp [hk]
  rw [hse] at hb
  have HR := Lib.hid (show signedB sv i = (decide (i.dec.server < sv.length) && verI (sv.getD i.dec.server.toNat 0) ⟨(textL decisionT ++ decL i.dec).toArray⟩ (i.dec.e, i.dec.s)) by
    unfold signedB messageB sigV nameT itemL
    simp [h, hk])
  have hVf := fun (p : Int) (y : Wd w1) => RVerify_any p ⟨(textL decisionT ++ decL i.dec).toArray⟩ i.dec.e i.dec.s y.w hms
  generalize (⟨(textL decisionT ++ decL i.dec).toArray⟩ : ByteArray) = M at *
  unfold maxLen at hsl
  clear hr sm hil hms hse hk
  generalize i.dec.server = s at *
  by_cases hlt : s.toNat < sv.length
  · obtain ⟨b, o, rfl, hbl, hcell⟩ := hS' ⟨w1, Q.refl _⟩ (by omega)
    have hbl : b < w1.heap.size := hbl
    have hce : ∀ y : Wd w1, y.w.cell? ⟨b, o + s.toNat, none⟩ = some (.int .i64 sv[s.toNat]) := fun y => (y.q.cell (p := ⟨b, o + s.toNat, none⟩) hbl).trans (hcell _ hlt)
    have hd : decide (s < (sv.length : Int)) = true := by rw [decide_eq_true_eq]; omega
    have hsl2 : s < (sv.length : Int) := by omega
    have HG := Lib.hid (show sv.getD s.toNat 0 = sv[s.toNat] by simp [hlt])
    have hVs := hVf sv[s.toNat]
    clear hcell hS' hVf
    go_enter Tryz.func136, Tryz.ntmps136
    go_wp2_with (first | (refine wpList_load_run 54 (.tmp 3) (.pointer (some ⟨w.heap.size, 0, none⟩)) (.agg (itA i)) ?_ ?_ ?_ ?_ ?_; rfl; rfl; rfl; exact hIt _) | (go_at_call 137; refine (hRi _).mono ?_; rintro e w' ⟨rfl, hq2⟩; obtain ⟨y, rfl⟩ := Wd.next _ hq2; clear hq2))
    refine wp_region_wd y (by kernel_rfl) (by kernel_rfl) ?_
    repeat (first | (refine wpQuiet_load_run 52 (.tmp 50) (.pointer (some ⟨w.heap.size, 37, none⟩)) (.agg (decA i.dec)) ?_ ?_ ?_ ?_ ?_; rfl; rfl; rfl; exact hPart; dsimp only [Act.put]; simp only [List.setIfInBounds_toArray, List.set_cons_succ, List.set_cons_zero]) | (refine wpQuiet_load_run 39 (.tmp 54) (.pointer (some ⟨w.heap.size, 47, none⟩)) (.agg #[.int .i64 i.dec.e, .int .i64 i.dec.s]) ?_ ?_ ?_ ?_ ?_; rfl; rfl; rfl; exact hSig; dsimp only [Act.put]; simp only [List.setIfInBounds_toArray, List.set_cons_succ, List.set_cons_zero]) | go_big_quiet_step (first | with_reducible exact Wd.call _ (hM _) | with_reducible exact Wd.call _ (hVs _)))
    refine wpQuiet_nil ?_
    rintro w'' ⟨z, rfl⟩
    go_wp2
    go_ret
    exact ⟨by rw [HR.out, HG.out, hd]; rfl, Q.trans hq1 z.q⟩
  · have hd : decide (s < (sv.length : Int)) = false := by rw [decide_eq_false_iff_not]; omega
    have hsl2 : ¬ s < (sv.length : Int) := by omega
    go_enter Tryz.func136, Tryz.ntmps136
    go_wp2_with (first | (refine wpList_load_run 54 (.tmp 3) (.pointer (some ⟨w.heap.size, 0, none⟩)) (.agg (itA i)) ?_ ?_ ?_ ?_ ?_; rfl; rfl; rfl; exact hIt _) | (go_at_call 137; refine (hRi _).mono ?_; rintro e w' ⟨rfl, hq2⟩; obtain ⟨y, rfl⟩ := Wd.next _ hq2; clear hq2))
    refine wp_region_wd y (by kernel_rfl) (by kernel_rfl) ?_
    repeat (go_big_quiet_step (fail))
    refine wpQuiet_nil ?_
    rintro w'' ⟨z, rfl⟩
    go_wp2
    go_ret
    exact ⟨by rw [HR.out, hd]; rfl, Q.trans hq1 z.q⟩
theorem rsigned_any (A : Option Addr) (c : Nat) (sv : List Int) (i : ItemR) (w : World) (hI : ItemIn w i) (ho : ItemOk i) (hS : Ints w A sv) (hsl : sv.length ≤ maxLen) :
    Calls Tryz.prog 136 #[.slice A sv.length c, .agg (itA i)] w fun e w' => e = .returned (.bool (signedB sv i)) ∧ Q w w' := by
  cases h : itemRight i
  · exact rsigned_no A c sv i w hI ho h
  · by_cases k2 : i.kind = 2
    · exact rsigned_ballot A c sv i w hI ho hS hsl h k2
    · by_cases k3 : i.kind = 3
      · exact rsigned_dec A c sv i w hI ho hS hsl h k3
      · exact rsigned_free A c sv i w hI ho h k2 k3
end Go.Proofs.YtppnbdbigebhaaaGreatDoor.Item

namespace Go.Proofs.YtppnbdbigebhaaaGreatDoor.Ins

section
variable {α : Type} (lt : α → α → Bool)
end

/-! ### The kit's insertion sort over an array -/
section
variable {α : Type} [Inhabited α] (lt : α → α → Bool)
open Go.Sort
omit [Inhabited α] in
end
end Go.Proofs.YtppnbdbigebhaaaGreatDoor.Ins

namespace Go.Proofs.YtppnbdbigebhaaaGreatDoor.Known
open Go.RowKit Go.ChangeShapes Go.WideShapes Go.Deep Grp Mem _root_.Go.Proofs.YtppnbdbigebhaaaGreatDoor.Code Sha Sign _root_.Go.Proofs.YtppnbdbigebhaaaGreatDoor.Item

structure KOk (k : KR) : Prop where
  items : ∀ x ∈ k.l, ItemOk x
  ints : ∀ n ∈ k.sv, I64 n
theorem k_known : Tryz.prog.cellsOf 25 = 2 := by kernel_rfl
section
variable {H : Type} {enc : TypeId × Value → H} {W : World} {base : Nat} {spare : Nat → Bool} {held : Bool}
set_option maxHeartbeats 1000000 in
theorem o_known : Opens enc Tryz.prog W base spare held 25 KR.cells (fun k => KIn W k ∧ KOk k) := fun fuel cs x h => by
  obtain ⟨xs, n, -, -, hcl, hxl, hf⟩ := DataW.trod_struct Tryz.underlying25 h
  rw [k_known] at hcl
  have hxl : xs.length = 2 := hxl
  obtain ⟨s0, e0, g0⟩ := field_opens (off := 0) (show DataW.trod enc Tryz.prog W base spare held n 22 ((cs.drop 0).take (Tryz.prog.cellsOf 22)) = xs[0]? from hf 0 _ rfl) (by omega) k_ints o_ints
  obtain ⟨s1, e1, g1⟩ := field_opens (off := 1) (show DataW.trod enc Tryz.prog W base spare held n 23 ((cs.drop 1).take (Tryz.prog.cellsOf 23)) = xs[1]? from hf 1 _ rfl) (by omega) k_items o_items
  have t2 : cs.drop 2 = [] := List.drop_eq_nil_of_le (by omega)
  have t1 := drop_step e1
  simp only [Nat.reduceAdd] at t1
  rw [t2] at t1
  have t0 := drop_step e0
  simp only [Nat.reduceAdd] at t0
  rw [t1] at t0
  rw [List.drop_zero] at t0
  refine ⟨⟨s0.l, s0.A, s0.c, s1.l, s1.A, s1.c⟩, by rw [t0]; rfl, ?_⟩
  exact ⟨⟨ints_of g0.rows, ⟨g1.rows, fun x hx => (g1.all x hx).1⟩, ⟨g0.le, g0.cap⟩, ⟨g1.le, g1.cap⟩⟩, fun x hx => (g1.all x hx).2, g0.all⟩
set_option maxRecDepth 100000 in
theorem open_kn {r : Reach} {b0 : Nat} {v : Value} {d : DataW H} {p : List MemPlace} (hval : Value.okWide Tryz.prog W r b0 25 v) (h : DataW.Trod enc Tryz.prog W base spare held 25 v d p) : ∃ k : KR, v = .agg (knA k) ∧ KIn W k ∧ KOk k := by
  simp only [Value.okWide, Tryz.underlying25] at hval
  obtain ⟨cs, rfl, -⟩ := hval
  obtain ⟨fuel, hf⟩ := h
  obtain ⟨k, hk, g1, g2⟩ := o_known fuel _ _ hf
  have hk : cs.toList = k.cells := hk
  exact ⟨k, by rw [knA, ← hk], g1, g2⟩
end
end Go.Proofs.YtppnbdbigebhaaaGreatDoor.Known

namespace Go.Proofs.YtppnbdbigebhaaaGreatDoor.Known
open Go.RowKit Grp Mem _root_.Go.Proofs.YtppnbdbigebhaaaGreatDoor.Code Sha Sign _root_.Go.Proofs.YtppnbdbigebhaaaGreatDoor.Item

theorem take_eq_step {l m : List Int} {j : Nat} (h : j < l.length) (h' : j < m.length) (h0 : l.take j = m.take j) (he : l[j] = m[j]) : l.take (j + 1) = m.take (j + 1) := by
  rw [List.take_succ_eq_append_getElem h, List.take_succ_eq_append_getElem h', h0, he]
set_option maxRecDepth 100000 in
set_option maxHeartbeats 4000000 in
theorem rsameNums_any (A B : Option Addr) (c d : Nat) (l m : List Int) (w : World) (hl : l.length ≤ 9223372036854775807) (hm : m.length ≤ 9223372036854775807) (hA : Ints w A l) (hB : Ints w B m) :
    Calls Tryz.prog 44 #[.slice A l.length c, .slice B m.length d] w fun e w' => e = .returned (.bool (decide (l = m))) ∧ Q w w' := by
  by_cases hn : l.length = m.length
  rotate_left
  · have HR := Lib.hid (show decide (l = m) = false from decide_eq_false fun h => hn (by rw [h]))
    have hne : ((l.length : Int) != (m.length : Int)) = true := by rw [bne_iff_ne]; omega
    have hne2 : ¬ ((l.length : Int) = (m.length : Int)) := by omega
    go_enter Tryz.func44, Tryz.ntmps44
    go_wp2_with fail
    go_ret
    exact ⟨by rw [HR.out]; rfl, Q.refl _⟩
  obtain ⟨x, hx⟩ := Wd.first w
  refine (show Calls Tryz.prog 44 #[.slice A l.length c, .slice B m.length d] x.w (fun e w' => e = .returned (.bool (decide (l = m))) ∧ Q w w') → _ from fun h => by rwa [← hx] at h) ?_
  clear hx
  rw [← hn]
  go_enter Tryz.func44, Tryz.ntmps44
  go_wp2_with fail
  go_loopw [5] (fun i wr => ∃ (j : Nat) (z : Wd w), i = .int .i64 j ∧ wr = z.w ∧ j ≤ l.length ∧ Hid (l.take j = m.take j)) (fun i _ => l.length - (intOf i).toNat)
  case atStart => exact ⟨0, x, rfl, rfl, Nat.zero_le _, Lib.hid rfl⟩
  case round =>
    obtain ⟨j, z, rfl, rfl, hj, hjt⟩ := hrel
    by_cases hlt : j < l.length
    · obtain ⟨b1, o1, e1, hb1, hc1⟩ := (hA.q z.q) (by omega)
      obtain ⟨b2, o2, e2, hb2, hc2⟩ := (hB.q z.q) (by omega)
      have hlt2 : j < m.length := by omega
      have h1 := hc1 j hlt
      have h2 := hc2 j hlt2
      have c1 : ∀ y : Wd z.w, y.w.cell? ⟨b1, o1 + j, none⟩ = some (.int .i64 l[j]) := fun y => (y.q.cell (p := ⟨b1, o1 + j, none⟩) hb1).trans h1
      have c2 : ∀ y : Wd z.w, y.w.cell? ⟨b2, o2 + j, none⟩ = some (.int .i64 m[j]) := fun y => (y.q.cell (p := ⟨b2, o2 + j, none⟩) hb2).trans h2
      have hjl : (j : Int) < (l.length : Int) := by omega
      have HST := Lib.hid (fun he : l[j] = m[j] => take_eq_step hlt hlt2 hjt.out he)
      have HNE := Lib.hid (show l[j] ≠ m[j] → decide (l = m) = false from fun h => decide_eq_false fun e => h (by simp only [e]))
      rw [e1, e2]
      clear hc1 hc2 h1 h2 e1 e2
      generalize l[j] = p at *
      generalize m[j] = q at *
      obtain ⟨v, hv⟩ := Wd.first z.w
      rw [hv]
      clear hv
      by_cases hpq : p = q
      · have hb : (p != q) = false := by simpa using hpq
        go_upto_region 6 with (fail)
        refine wp_region_wd v (by kernel_rfl) (by kernel_rfl) ?_
        repeat (go_big_quiet_step (fail))
        refine wpQuiet_nil ?_
        rintro w'' ⟨y, rfl⟩
        go_wp2_with fail
        exact ⟨⟨j + 1, ⟨y.w, Q.trans z.q y.q⟩, by go_num, rfl, by omega, Lib.hid (HST.out hpq)⟩, by simp only [intOf]; omega⟩
      · have hb : (p != q) = true := by simpa using hpq
        go_upto_region 6 with (fail)
        refine wp_region_wd v (by kernel_rfl) (by kernel_rfl) ?_
        repeat (go_big_quiet_step (fail))
        refine wpQuiet_nil ?_
        rintro w'' ⟨y, rfl⟩
        go_wp2_with fail
        go_ret
        exact ⟨by rw [HNE.out hpq]; rfl, Q.trans z.q y.q⟩
    · have hjn : j = l.length := by omega
      have HR := Lib.hid (show decide (l = m) = true from decide_eq_true (by have := hjt.out; rw [hjn, List.take_length, hn, List.take_length] at this; exact this))
      clear hjn
      go_wp2_with fail
      go_ret
      exact ⟨by rw [HR.out]; rfl, z.q⟩

/-- The first index of a digest, or the number of items. -/
def idxK (l : List ItemR) (d : ByteArray) : Nat := if noneB d then l.length else l.findIdx fun o => decide (digOf o = d)
theorem hasD_mem (l : List ItemR) (d : ByteArray) : hasD l d = true ↔ ∃ x ∈ l, digOf x = d := by
  unfold hasD digs
  simp
theorem idxK_at (l : List ItemR) (d : ByteArray) (j : Nat) (h : j < l.length) (hn : noneB d = false) (h0 : hasD (l.take j) d = false) (he : digOf l[j] = d) : idxK l d = j := by
  unfold idxK
  rw [hn, if_neg Bool.false_ne_true, List.findIdx_eq h]
  refine ⟨decide_eq_true he, fun i hi => ?_⟩
  refine decide_eq_false fun hc => ?_
  have : hasD (l.take j) d = true := (hasD_mem _ _).2 ⟨l[i], by rw [List.mem_take_iff_getElem]; exact ⟨i, by omega, rfl⟩, hc⟩
  rw [h0] at this
  cases this
theorem idxK_no (l : List ItemR) (d : ByteArray) (h : noneB d = true ∨ hasD l d = false) : idxK l d = l.length := by
  unfold idxK
  rcases h with h | h
  · rw [h, if_pos rfl]
  · split
    · rfl
    · rw [List.findIdx_eq_length]
      intro x hx
      refine decide_eq_false fun hc => ?_
      have : hasD l d = true := (hasD_mem _ _).2 ⟨x, hx, hc⟩
      rw [h] at this
      cases this
theorem idxK_lt (l : List ItemR) (d : ByteArray) : decide (idxK l d < l.length) = hasE l d := by
  unfold hasE
  cases hn : noneB d
  · cases hd : hasD l d
    · rw [idxK_no l d (.inr hd)]
      simp
    · obtain ⟨x, hx, he⟩ := (hasD_mem _ _).1 hd
      have : idxK l d < l.length := by
        unfold idxK
        rw [hn, if_neg Bool.false_ne_true, List.findIdx_lt_length]
        exact ⟨x, hx, decide_eq_true he⟩
      rw [decide_eq_true this]
      rfl
  · rw [idxK_no l d (.inl hn)]
    simp
set_option maxRecDepth 100000 in
set_option maxHeartbeats 4000000 in
theorem rindex_any (k : KR) (d : ByteArray) (w : World) (hK : KIn w k) (ho : ∀ x ∈ k.l, ItemOk x) : Calls Tryz.prog 88 #[.agg (knA k), .string d] w fun e w' => e = .returned (.int .i64 (idxK k.l d : Int)) ∧ Q w w' := by
  obtain ⟨w1, x, hx, hq1, hbk⟩ := boxedB w 25 k.cells
  have hx : w.alloc (.cells (knA k) 25) = x.w := hx
  have cI : ∀ y : Wd w1, y.w.cell? ⟨w.heap.size, 1, none⟩ = some (.slice k.iA k.l.length k.iC) := fun y => (y.blk hbk).cell 1
  have hKy : ∀ y : Wd w1, KIn y.w k := fun y => hK.q (Q.trans hq1 y.q)
  have hlb : k.l.length ≤ 9223372036854775807 := by have h8 := hK.lC.1; have h9 := hK.lC.2; simp only [maxLen] at h9; omega
  have HQ := Lib.hid hq1
  clear hbk hq1 hK
  go_enter Tryz.func88, Tryz.ntmps88
  go_wp2_with fail
  go_loopw [5] (fun i wr => ∃ (j : Nat) (z : Wd w1), i = .int .i64 j ∧ wr = z.w ∧ j ≤ k.l.length ∧ Hid (noneB d = true ∨ hasD (k.l.take j) d = false)) (fun i _ => k.l.length - (intOf i).toNat)
  case atStart => exact ⟨0, x, rfl, rfl, Nat.zero_le _, Lib.hid (.inr (by simp [hasD, digs]))⟩
  case round =>
    obtain ⟨j, z, rfl, rfl, hj, hno⟩ := hrel
    by_cases hlt : j < k.l.length
    · obtain ⟨b, o, eA, hb, hld⟩ := (hKy z).items.load j hlt
      have hio := (hKy z).items.each _ (List.getElem_mem hlt)
      have hok := ho _ (List.getElem_mem hlt)
      have hdg := rdigest_any k.l[j] z.w hio hok
      have hlj : (j : Int) < (k.l.length : Int) := by omega
      have hcI : z.w.cell? ⟨w.heap.size, 1, none⟩ = some (.slice (some ⟨b, o, none⟩) k.l.length k.iC) := eA ▸ cI z
      have HST := Lib.hid (hasD_take k.l d j hlt)
      have HAT := Lib.hid (idxK_at k.l d j hlt)
      have hldz := hld ⟨z.w, Q.refl _⟩
      dsimp only at hldz
      clear cI hKy hld hio hok
      generalize k.l[j] = it at *
      cases hem : noneB d
      rotate_left
      · have hem' : d.toList.isEmpty = true := by rw [empty_none]; exact hem
        have HE := Lib.hid hem
        clear hem hdg
        go_wp2_with fail
        exact ⟨⟨j + 1, z, by go_num, rfl, by omega, Lib.hid (by first | exact .inl HE.out | exact .inl trivial)⟩, by simp only [intOf]; omega⟩
      · have hem' : d.toList.isEmpty = false := by rw [empty_none]; exact hem
        have HE := Lib.hid hem
        have HN := Lib.hid (show hasD (k.l.take j) d = false from hno.out.resolve_left (by rw [hem]; exact Bool.false_ne_true))
        clear hem
        by_cases he : digOf it = d
        · have HX := Lib.hid (HAT.out HE.out HN.out he)
          have hn1 : ((digOf it).toList == d.toList) = true := by rw [he]; simp
          have hn2 : (digOf it).toList = d.toList := by rw [he]
          clear he HST HAT
          generalize digOf it = dg at *
          go_wp2_with (first | (refine wpList_load_run 54 (.tmp 18) (.pointer (some ⟨b, o + j * 49, none⟩)) (.agg (itA it)) ?_ ?_ ?_ ?_ ?_; rfl; rfl; rfl; exact hldz) | (go_at_call 53; refine hdg.mono ?_; rintro e w' ⟨rfl, hq2⟩; obtain ⟨y, rfl⟩ := Wd.next z hq2; clear hq2))
          go_ret
          exact ⟨by rw [HX.out]; rfl, Q.trans HQ.out y.q⟩
        · have hn1 : ((digOf it).toList == d.toList) = false := beq_eq_false_iff_ne.2 (str_ne he)
          have hn2 : ¬ (digOf it).toList = d.toList := str_ne he
          have HS := Lib.hid (HST.out HN.out he)
          clear he HST HAT
          generalize digOf it = dg at *
          go_wp2_with (first | (refine wpList_load_run 54 (.tmp 18) (.pointer (some ⟨b, o + j * 49, none⟩)) (.agg (itA it)) ?_ ?_ ?_ ?_ ?_; rfl; rfl; rfl; exact hldz) | (go_at_call 53; refine hdg.mono ?_; rintro e w' ⟨rfl, hq2⟩; obtain ⟨y, rfl⟩ := Wd.next z hq2; clear hq2))
          exact ⟨⟨j + 1, y, by go_num, rfl, by omega, Lib.hid (.inr HS.out)⟩, by simp only [intOf]; omega⟩
    · have hjn : j = k.l.length := by omega
      have HX := Lib.hid (show idxK k.l d = j by
        have h := hno.out
        rw [hjn, List.take_length] at h
        rw [idxK_no _ _ h, hjn])
      have hlj : ¬ (j : Int) < (k.l.length : Int) := by omega
      clear hjn
      go_wp2_with fail
      go_ret
      exact ⟨by rw [HX.out]; rfl, Q.trans HQ.out z.q⟩
set_option maxRecDepth 100000 in
set_option maxHeartbeats 4000000 in
theorem rhas_any (k : KR) (d : ByteArray) (w : World) (hK : KIn w k) (ho : ∀ x ∈ k.l, ItemOk x) : Calls Tryz.prog 52 #[.agg (knA k), .string d] w fun e w' => e = .returned (.bool (hasE k.l d)) ∧ Q w w' := by
  obtain ⟨w1, x, hx, hq1, hl1, hl2⟩ := boxed w 25 k.cells
  have hx : w.alloc (.cells (knA k) 25) = x.w := hx
  have hL : ∀ y : Wd w1, (Instr.loadAt 25 (.pointer (some ⟨w.heap.size, 0, none⟩))).run Tryz.prog y.w = .ok (.agg (knA k)) y.w := Wd.load hl1 hl2 Tryz.underlying25 rfl (by kernel_rfl)
  have cI : ∀ y : Wd w1, y.w.cell? ⟨w.heap.size, 1, none⟩ = some (.slice k.iA k.l.length k.iC) := Wd.at0 hl1 hl2 1 rfl
  have hIx := fun y : Wd w1 => rindex_any k d y.w (hK.q (Q.trans hq1 y.q)) ho
  have hlb : k.l.length ≤ 9223372036854775807 := by have h8 := hK.lC.1; have h9 := hK.lC.2; simp only [maxLen] at h9; omega
  have HB := Lib.hid (idxK_lt k.l d)
  have HQ := Lib.hid hq1
  clear hl1 hl2 hq1 hK
  go_enter Tryz.func52, Tryz.ntmps52
  go_upto_region 1 with (fail)
  generalize idxK k.l d = ix at *
  refine wp_region_wd x (by kernel_rfl) (by kernel_rfl) ?_
  repeat (first | (refine wpQuiet_load_run 25 (.tmp 2) (.pointer (some ⟨w.heap.size, 0, none⟩)) (.agg (knA k)) ?_ ?_ ?_ ?_ ?_; rfl; rfl; rfl; exact hL; dsimp only [Act.put]; simp only [List.setIfInBounds_toArray, List.set_cons_succ, List.set_cons_zero]) | go_big_quiet_step (with_reducible exact Wd.call _ (hIx _)))
  refine wpQuiet_nil ?_
  rintro w'' ⟨y, rfl⟩
  go_wp2_with fail
  go_ret
  exact ⟨by rw [← HB.out]; rfl, Q.trans HQ.out y.q⟩
end Go.Proofs.YtppnbdbigebhaaaGreatDoor.Known

namespace Go.Proofs.YtppnbdbigebhaaaGreatDoor.Known
open Go.RowKit Grp Mem _root_.Go.Proofs.YtppnbdbigebhaaaGreatDoor.Code Sha Sign _root_.Go.Proofs.YtppnbdbigebhaaaGreatDoor.Item

set_option maxRecDepth 100000 in
set_option maxHeartbeats 4000000 in
theorem rsub_any (a b : KR) (w : World) (hA : KIn w a) (hB : KIn w b) (oa : ∀ x ∈ a.l, ItemOk x) (ob : ∀ x ∈ b.l, ItemOk x) : Calls Tryz.prog 13 #[.agg (knA a), .agg (knA b)] w fun e w' => e = .returned (.bool (subK a b)) ∧ Q w w' := by
  obtain ⟨w1, x, hx, hq1, ⟨hA1, hA2⟩, hB1, hB2⟩ := boxed_two w 25 a.cells b.cells
  have hx : (w.alloc (.cells (knA a) 25)).alloc (.cells (knA b) 25) = x.w := hx
  have cI : ∀ y : Wd w1, y.w.cell? ⟨w.heap.size, 1, none⟩ = some (.slice a.iA a.l.length a.iC) := Wd.at0 hA1 hA2 1 rfl
  have cS : ∀ y : Wd w1, y.w.cell? ⟨w.heap.size, 0, none⟩ = some (.slice a.sA a.sv.length a.sC) := Wd.at0 hA1 hA2 0 rfl
  have dS : ∀ y : Wd w1, y.w.cell? ⟨w.heap.size + 1, 0, none⟩ = some (.slice b.sA b.sv.length b.sC) := Wd.at0 hB1 hB2 0 rfl
  have hLb : ∀ y : Wd w1, (Instr.loadAt 25 (.pointer (some ⟨w.heap.size + 1, 0, none⟩))).run Tryz.prog y.w = .ok (.agg (knA b)) y.w := Wd.load hB1 hB2 Tryz.underlying25 rfl (by kernel_rfl)
  have hKa : ∀ y : Wd w1, KIn y.w a := fun y => hA.q (Q.trans hq1 y.q)
  have hKb : ∀ y : Wd w1, KIn y.w b := fun y => hB.q (Q.trans hq1 y.q)
  have hlb : a.l.length ≤ 9223372036854775807 := by have h8 := hA.lC.1; have h9 := hA.lC.2; simp only [maxLen] at h9; omega
  have hs1 : a.sv.length ≤ 9223372036854775807 := by have h8 := hA.svC.1; have h9 := hA.svC.2; simp only [maxLen] at h9; omega
  have hs2 : b.sv.length ≤ 9223372036854775807 := by have h8 := hB.svC.1; have h9 := hB.svC.2; simp only [maxLen] at h9; omega
  have hsn := fun y : Wd w1 => rsameNums_any a.sA b.sA a.sC b.sC a.sv b.sv y.w hs1 hs2 (hKa y).sv (hKb y).sv
  have hha := fun (d : ByteArray) (y : Wd w1) => rhas_any b d y.w (hKb y) ob
  have HQ := Lib.hid hq1
  clear hA1 hA2 hB1 hB2 hq1 hKb
  go_enter Tryz.func13, Tryz.ntmps13
  go_wp2_with fail
  go_loopw [5] (fun i wr => ∃ (j : Nat) (z : Wd w1), i = .int .i64 j ∧ wr = z.w ∧ j ≤ a.l.length ∧ Hid ((a.l.take j).all (fun x => hasE b.l (digOf x)) = true)) (fun i _ => a.l.length - (intOf i).toNat)
  case atStart => exact ⟨0, x, rfl, rfl, Nat.zero_le _, Lib.hid rfl⟩
  case round =>
    obtain ⟨j, z, rfl, rfl, hj, hall⟩ := hrel
    by_cases hlt : j < a.l.length
    · obtain ⟨bk, o, eA, hb, hld⟩ := (hKa z).items.load j hlt
      have hio := (hKa z).items.each _ (List.getElem_mem hlt)
      have hok := oa _ (List.getElem_mem hlt)
      have hdg := fun y : Wd z.w => rdigest_any a.l[j] y.w (hio.q y.q) hok
      have hst := all_take_snoc a.l (fun x => hasE b.l (digOf x)) j hlt
      rw [hall.out, Bool.true_and] at hst
      have HNO := Lib.hid (all_not a.l (fun x => hasE b.l (digOf x)) j hlt)
      have HST := Lib.hid hst
      have hlj : (j : Int) < (a.l.length : Int) := by omega
      have hcI : ∀ y : Wd z.w, y.w.cell? ⟨w.heap.size, 1, none⟩ = some (.slice (some ⟨bk, o, none⟩) a.l.length a.iC) := fun y => eA ▸ cI ⟨y.w, Q.trans z.q y.q⟩
      have hLz : ∀ y : Wd z.w, (Instr.loadAt 25 (.pointer (some ⟨w.heap.size + 1, 0, none⟩))).run Tryz.prog y.w = .ok (.agg (knA b)) y.w := fun y => hLb ⟨y.w, Q.trans z.q y.q⟩
      have hhz := fun (d : ByteArray) (y : Wd z.w) => hha d ⟨y.w, Q.trans z.q y.q⟩
      dsimp only at hhz
      have HQ3 := Lib.hid z.q
      obtain ⟨v, hv⟩ := Wd.first z.w
      rw [hv]
      clear hv cI hio hok hha hst hall eA hLb
      generalize a.l[j] = it at *
      cases hh : hasE b.l (digOf it)
      all_goals
        have hh2 := hhz (digOf it)
        rw [hh] at hh2
        go_upto_region 4 with (fail)
        refine wp_region_wd v (by kernel_rfl) (by kernel_rfl) ?_
        repeat (first | (refine wpQuiet_load_run 25 (.tmp 3) (.pointer (some ⟨w.heap.size + 1, 0, none⟩)) (.agg (knA b)) ?_ ?_ ?_ ?_ ?_; rfl; rfl; rfl; exact hLz; dsimp only [Act.put]; simp only [List.setIfInBounds_toArray, List.set_cons_succ, List.set_cons_zero]) | (refine wpQuiet_load_run 54 (.tmp 17) (.pointer (some ⟨bk, o + j * 49, none⟩)) (.agg (itA it)) ?_ ?_ ?_ ?_ ?_; rfl; rfl; rfl; exact hld; dsimp only [Act.put]; simp only [List.setIfInBounds_toArray, List.set_cons_succ, List.set_cons_zero]) | go_big_quiet_step (first | with_reducible exact Wd.call _ (hdg _) | with_reducible exact Wd.call _ (hh2 _)))
        refine wpQuiet_nil ?_
        rintro w'' ⟨y, rfl⟩
        go_wp2_with fail
      · go_ret
        exact ⟨by rw [show subK a b = false by unfold subK; rw [HNO.out hh]; rfl]; rfl, Q.trans HQ.out (Q.trans HQ3.out y.q)⟩
      · exact ⟨⟨j + 1, ⟨y.w, Q.trans HQ3.out y.q⟩, by go_num, rfl, by omega, Lib.hid (by rw [HST.out]; exact hh)⟩, by simp only [intOf]; omega⟩
    · have hjn : j = a.l.length := by omega
      have hall' := hall.out
      rw [hjn, List.take_length] at hall'
      have HR := Lib.hid (show subK a b = decide (a.sv = b.sv) by unfold subK; rw [hall']; rfl)
      have hlj : ¬ (j : Int) < (a.l.length : Int) := by omega
      clear hjn hall' hKa
      go_wp2_with (go_at_call 44; refine (hsn _).mono ?_; rintro e w' ⟨rfl, hq2⟩; obtain ⟨y, rfl⟩ := Wd.next _ hq2; clear hq2)
      go_ret
      exact ⟨by rw [HR.out]; rfl, Q.trans HQ.out y.q⟩

theorem itemSame_refl (a : ItemR) : a.same a = true := by
  simp [ItemR.same, ActR.same, ClaimV.same, BallotV.same, DecR.same, conj]
set_option maxRecDepth 100000 in
set_option maxHeartbeats 4000000 in
theorem rknSame_any (a b : KR) (w : World) (hA : KIn w a) (hB : KIn w b) (hl : b.l = a.l) (hs : b.sv = a.sv) : Calls Tryz.prog 9 #[.agg (knA a), .agg (knA b)] w fun e w' => e = .returned (.bool true) ∧ Q w w' := by
  obtain ⟨w1, x, hx, hq1, ⟨hA1, hA2⟩, hB1, hB2⟩ := boxed_two w 25 a.cells b.cells
  have hx : (w.alloc (.cells (knA a) 25)).alloc (.cells (knA b) 25) = x.w := hx
  have cI : ∀ y : Wd w1, y.w.cell? ⟨w.heap.size, 1, none⟩ = some (.slice a.iA a.l.length a.iC) := Wd.at0 hA1 hA2 1 rfl
  have cS : ∀ y : Wd w1, y.w.cell? ⟨w.heap.size, 0, none⟩ = some (.slice a.sA a.sv.length a.sC) := Wd.at0 hA1 hA2 0 rfl
  have dI : ∀ y : Wd w1, y.w.cell? ⟨w.heap.size + 1, 1, none⟩ = some (.slice b.iA a.l.length b.iC) := fun y => hl ▸ Wd.at0 hB1 hB2 1 (v := .slice b.iA b.l.length b.iC) rfl y
  have dS : ∀ y : Wd w1, y.w.cell? ⟨w.heap.size + 1, 0, none⟩ = some (.slice b.sA a.sv.length b.sC) := fun y => hs ▸ Wd.at0 hB1 hB2 0 (v := .slice b.sA b.sv.length b.sC) rfl y
  have hIa : ∀ y : Wd w1, ItemsIn y.w a.iA a.l := fun y => hA.items.q (Q.trans hq1 y.q)
  have hIb : ∀ y : Wd w1, ItemsIn y.w b.iA a.l := fun y => by have h := hB.items.q (Q.trans hq1 y.q); rwa [hl] at h
  have hlb : a.l.length ≤ 9223372036854775807 := by have h8 := hA.lC.1; have h9 := hA.lC.2; simp only [maxLen] at h9; omega
  have hs1 : a.sv.length ≤ 9223372036854775807 := by have h8 := hA.svC.1; have h9 := hA.svC.2; simp only [maxLen] at h9; omega
  have hsn := fun y : Wd w1 => rsameNums_any a.sA b.sA a.sC b.sC a.sv a.sv y.w hs1 hs1 (hA.sv.q (Q.trans hq1 y.q)) (by have h := hB.sv.q (Q.trans hq1 y.q); rwa [hs] at h)
  rw [decide_eq_true rfl] at hsn
  have HQ := Lib.hid hq1
  clear hA1 hA2 hB1 hB2 hq1 hA hB hl hs
  go_enter Tryz.func9, Tryz.ntmps9
  go_wp2_with fail
  go_loopw [5] (fun i wr => ∃ (j : Nat) (z : Wd w1), i = .int .i64 j ∧ wr = z.w ∧ j ≤ a.l.length) (fun i _ => a.l.length - (intOf i).toNat)
  case atStart => exact ⟨0, x, rfl, rfl, Nat.zero_le _⟩
  case round =>
    obtain ⟨j, z, rfl, rfl, hj⟩ := hrel
    by_cases hlt : j < a.l.length
    · obtain ⟨b1, o1, eA, hb1, hld1⟩ := (hIa z).load j hlt
      obtain ⟨b2, o2, eB, hb2, hld2⟩ := (hIb z).load j hlt
      have hI1 := (hIa z).each _ (List.getElem_mem hlt)
      have hse := fun y : Wd z.w => ritemSame_any a.l[j] a.l[j] y.w (hI1.q y.q) (hI1.q y.q)
      have hlj : (j : Int) < (a.l.length : Int) := by omega
      have hcI : ∀ y : Wd z.w, y.w.cell? ⟨w.heap.size, 1, none⟩ = some (.slice (some ⟨b1, o1, none⟩) a.l.length a.iC) := fun y => eA ▸ cI ⟨y.w, Q.trans z.q y.q⟩
      have hdI : ∀ y : Wd z.w, y.w.cell? ⟨w.heap.size + 1, 1, none⟩ = some (.slice (some ⟨b2, o2, none⟩) a.l.length b.iC) := fun y => eB ▸ dI ⟨y.w, Q.trans z.q y.q⟩
      rw [itemSame_refl] at hse
      obtain ⟨v, hv⟩ := Wd.first z.w
      rw [hv]
      clear hv cI dI hI1 eA eB
      generalize a.l[j] = it at *
      go_upto_region 6 with (fail)
      refine wp_region_wd v (by kernel_rfl) (by kernel_rfl) ?_
      repeat (first | (refine wpQuiet_load_run 54 (.tmp 23) (.pointer (some ⟨b1, o1 + j * 49, none⟩)) (.agg (itA it)) ?_ ?_ ?_ ?_ ?_; rfl; rfl; rfl; exact hld1; dsimp only [Act.put]; simp only [List.setIfInBounds_toArray, List.set_cons_succ, List.set_cons_zero]) | (refine wpQuiet_load_run 54 (.tmp 28) (.pointer (some ⟨b2, o2 + j * 49, none⟩)) (.agg (itA it)) ?_ ?_ ?_ ?_ ?_; rfl; rfl; rfl; exact hld2; dsimp only [Act.put]; simp only [List.setIfInBounds_toArray, List.set_cons_succ, List.set_cons_zero]) | go_big_quiet_step (with_reducible exact Wd.call _ (hse _)))
      refine wpQuiet_nil ?_
      rintro w'' ⟨y, rfl⟩
      go_wp2_with fail
      exact ⟨⟨j + 1, ⟨y.w, Q.trans z.q y.q⟩, by go_num, rfl, by omega⟩, by simp only [intOf]; omega⟩
    · have hlj : ¬ (j : Int) < (a.l.length : Int) := by omega
      clear hIa hIb
      go_wp2_with (go_at_call 44; refine (hsn _).mono ?_; rintro e w' ⟨rfl, hq2⟩; obtain ⟨y, rfl⟩ := Wd.next _ hq2; clear hq2)
      go_ret
      exact ⟨rfl, Q.trans HQ.out y.q⟩
end Go.Proofs.YtppnbdbigebhaaaGreatDoor.Known

namespace Go.Proofs.YtppnbdbigebhaaaGreatDoor.Mem
open Go.RowKit Grp

theorem Owns.zero (w : World) (base size : Nat) (e : TypeId) (hb : base ≤ w.heap.size) : Owns (w.alloc (.cells #[] e)) base e size (.slice (some ⟨w.heap.size, 0, none⟩) 0 0) 0 [] :=
  ⟨by simp, .inr ⟨w.heap.size, 0, #[], (0, 0), rfl, hb, heap_alloc_new w _, .inl rfl, Nat.le_refl _, Nat.zero_le _, by simp, by simp⟩⟩
theorem exec_buildSlice_run {P : Program} {o : Oper} {a : Act} {w w' : World} (ty : TypeId) (len : Nat) (parts : Array (Nat × Operand)) (vs : Array (Nat × Value)) (v : Value) (ho : o.op = .buildSlice ty len parts)
    (hp : (parts.map fun x => (x.1, a.eval x.2)) = vs) (hr : (Instr.buildSlice ty len vs).run P w = .ok v w') : (execOp a.eval o).run P w = .ok (.value v) w' := by
  subst hp
  unfold execOp
  simp only [ho, Sem.run_bind, hr, Result.andThen_ok, Sem.run_pure]
theorem exec_assign {P : Program} {o : Oper} {a : Act} {w : World} (x : Operand) (v : Value) (ho : o.op = .assign x) (hx : a.eval x = v) : (execOp a.eval o).run P w = .ok (.value v) w := by
  unfold execOp
  simp only [ho, hx, Sem.run_bind, Result.andThen_ok, Sem.run_pure]
theorem exec_append_rows {α : Type} {f : α → List Value} {k : Nat} {P : Program} (hk : ∀ x, (f x).length = k) (h1 : ∀ x, ∀ v ∈ f x, v.oneCell' = true) {w : World} {o : Oper} {a : Act} (s x : Operand) (t e : TypeId) (i : TypeInfo) (z : Value) (bytes : Nat)
    (ho : o.op = .call { callee := .builtin .append, args := #[s, x], argTypes := #[t, t] }) (ht : P.underlying t = some (.slice e)) (hi : P.info? e = some i) (hz : i.zero = some z) (hz1 : i.size = k) (hz2 : i.bytes = bytes) (hz3 : z.cells.size = k) (hk0 : 0 < k) (hby : bytes ≤ 10000)
    (base : Nat) (v : Value) (n : Nat) (L : List α) (hs : a.eval s = v) (hown : Owns w base e k v n (L.flatMap f)) (A : Option Addr) (m c : Nat) (M : List α) (hx : a.eval x = .slice A m c) (hS : RowsAt w A k f M) (hm : M.length = m) (hsz : n + m ≤ 1000000) (hbase : base ≤ w.heap.size) :
    ∃ A' cap w', (execOp a.eval o).run P w = .ok (.value (.slice A' (n + m) cap)) w' ∧ n + m ≤ cap ∧ cap ≤ maxLen ∧ Owns w' base e k (.slice A' (n + m) cap) (n + m) ((L ++ M).flatMap f) ∧ w.grownBy w' v.ownBlock := by
  obtain ⟨v', w', hr, h2, h3⟩ := run_append_rows (P := P) hk h1 w t o.type e i z bytes ht hi hz hz1 hz2 hz3 hk0 hby base v n L hown A m c M hS hm hsz hbase
  obtain ⟨A', cap, rfl, hc1, hc2⟩ := h2.shape
  refine ⟨A', cap, w', ?_, hc1, hc2, h2, h3⟩
  unfold execOp
  simp only [ho, resolve, invoke, builtin, Sem.run_bind, Sem.run_pure, Result.andThen_ok, List.map_toArray, List.map_cons, List.map_nil, hs, hx, hr]
end Go.Proofs.YtppnbdbigebhaaaGreatDoor.Mem

namespace Go.Proofs.YtppnbdbigebhaaaGreatDoor.Known
open Go.RowKit Grp Mem _root_.Go.Proofs.YtppnbdbigebhaaaGreatDoor.Code Sha Sign _root_.Go.Proofs.YtppnbdbigebhaaaGreatDoor.Item _root_.Go.Proofs.YtppnbdbigebhaaaGreatDoor.Ins

/-! ### Sorted -/
theorem bs_none (w : World) : (Instr.buildSlice 23 0 #[]).run Tryz.prog w = .ok (.slice (some ⟨w.heap.size, 0, none⟩) 0 0) (w.alloc (.cells #[] 54)) := by kernel_rfl
theorem exec_slice_to {P : Program} {o : Oper} {a : Act} {w : World} (ty e : TypeId) (x hi : Operand) (A : Option Addr) (n cap k size : Nat) (ho : o.op = .slice ty x none (some hi) none) (ht : P.underlying ty = some (.slice e)) (he : P.elem ty = e) (hs : ∀ w, (sizeOf e).run P w = .ok size w) (hx : a.eval x = .slice A n cap) (hh : a.eval hi = .int .i64 (k : Int)) (hk : k ≤ cap) : (execOp a.eval o).run P w = .ok (.value (.slice A k cap)) w := by
  have ht' : P.underlying ty = some (.slice (P.elem ty)) := by rw [he]; exact ht
  have hr := run_slice_h (P := P) w ty A n cap ht' .i64 (k : Int) (by omega) (by omega)
  rw [he, hs] at hr
  unfold execOp
  simp only [ho, hx, hh, Option.map_some, Option.map_none, Sem.run_bind, run_sliceAt_slice (P := P) w ty _ _ _ _ ht', hr, Result.andThen_ok, Sem.run_pure, sliced, Int.toNat_natCast]
  cases A with
  | none => simp
  | some p =>
    have e : p.add 0 = p := by
      cases p
      unfold Addr.add
      split <;> simp_all
    simp [e]
end Go.Proofs.YtppnbdbigebhaaaGreatDoor.Known

namespace Go.Proofs.YtppnbdbigebhaaaGreatDoor.Known
open Go.RowKit Grp Mem _root_.Go.Proofs.YtppnbdbigebhaaaGreatDoor.Code Sha Sign _root_.Go.Proofs.YtppnbdbigebhaaaGreatDoor.Item

/-- A variable of one cell is loaded. -/
theorem run_loadAt_one {P : Program} (w : World) (a : Addr) (ty : TypeId) (d : TypeDesc) (v : Value) (hu : P.underlying ty = some d) (hd : d.isRow = false) (hc : w.cell? a = some v) : (Instr.loadAt ty (.pointer (some a))).run P w = .ok v w := by
  have hagg : (isAgg ty).run P w = .ok false w := by
    unfold isAgg
    rw [Sem.run_bind, run_underlying hu w]
    cases d <;> simp_all
  simp [Instr.loadAt, Instr.sureAddr, loadVar, Sem.run_bind, hagg, hc]
theorem exec_slice_from {P : Program} {o : Oper} {a : Act} {w : World} (ty e : TypeId) (x lo : Operand) (A : Option Addr) (n cap c size : Nat) (ho : o.op = .slice ty x (some lo) none none)
    (ht : P.underlying ty = some (.slice e)) (he : P.elem ty = e) (hs : ∀ w, (sizeOf e).run P w = .ok size w) (hx : a.eval x = .slice A n cap) (hl : a.eval lo = .int .i64 (c : Int)) (hc : c ≤ n) (hn : n ≤ cap) :
    (execOp a.eval o).run P w = .ok (.value (.slice (if cap = c then A else A.map (·.add (c * size))) (n - c) (cap - c))) w := by
  have ht' : P.underlying ty = some (.slice (P.elem ty)) := by rw [he]; exact ht
  have hr := run_slice_l (P := P) w ty A n cap ht' .i64 (c : Int) (by omega) (by omega)
  rw [he, hs] at hr
  unfold execOp
  simp only [ho, hx, hl, Option.map_some, Option.map_none, Sem.run_bind, run_sliceAt_slice (P := P) w ty _ _ _ _ ht', hr, Result.andThen_ok, Sem.run_pure, sliced, Int.toNat_natCast]
theorem wpList_slice_to {P : Program} {ops : Array Oper} {rest : List Oper} {op : Oper} {a : Act} {w : World} {K : Exit → Act → World → Prop} (ty e : TypeId) (x hi : Operand) (A : Option Addr) (n cap k size : Nat) (ho : op.op = .slice ty x none (some hi) none) (hw : Region.wanted op (yielded ops a.tmps) = true)
    (ht : P.underlying ty = some (.slice e)) (he : P.elem ty = e) (hs : ∀ w, (sizeOf e).run P w = .ok size w) (hx : a.eval x = .slice A n cap) (hh : a.eval hi = .int .i64 (k : Int)) (hk : k ≤ cap) (h : wpList P ops K rest (a.put op.dst (.slice A k cap)) w) : wpList P ops K (op :: rest) a w := by
  refine wpList_step fun K' hK => ?_
  rw [if_pos hw]
  unfold Oper.wp
  rw [exec_slice_to ty e x hi A n cap k size ho ht he hs hx hh hk]
  exact hK _ _ h
/-- A region that draws its order, from the world at hand. -/
theorem wp_region_H {P : Program} {id : Nat} {K : Exit → Act → World → Prop} {a : Act} {w : World} {l : List Oper} (S : World → Prop) (hm : P.follows .mixedOrders = true) (h : wpAnyH P .any l.toArray K S l.length (Array.replicate l.length false) a w.drew) : (Code.region id l.toArray true).wp P K a w := by
  refine wp_region_held (S := S) hm ?_
  simpa using h
/-- What alone may come up, its run known, class in hand. -/
theorem held_run {P : Program} {md : Region.Mode} {S : World → Prop} {K : Exit → Act → World → Prop} {l : List Oper} (k : Nat) {o : Oper} {f : Nat} {s : Array Bool} {a : Act} {w w' : World} {v : Value} (hi : l[k]? = some o) (hr : Region.ready md l.toArray s = [k]) (hg : o.guard = none)
    (hx : (execOp a.eval o).run P w = .ok (.value v) w') (hS : S w') (h : wpAnyH P md l.toArray K S f (s.setIfInBounds k true) (a.put o.dst v) w') : wpAnyH P md l.toArray K S (f + 1) s a w :=
  held_one k hi hr hg fun K' hK => by
    unfold Oper.wp
    rw [hx]
    exact hK _ _ hS h
theorem held_append_rows {α : Type} {f : α → List Value} {k : Nat} {P : Program} {md : Region.Mode} {S : World → Prop} {K : Exit → Act → World → Prop} {ops : List Oper} (idx : Nat) {fu : Nat} {sl : Array Bool} (hk : ∀ x, (f x).length = k) (h1 : ∀ x, ∀ v ∈ f x, v.oneCell' = true) {w : World} {o : Oper} {a : Act} (hidx : ops[idx]? = some o) (hrd : Region.ready md ops.toArray sl = [idx]) (hgd : o.guard = none) (s x : Operand) (t e : TypeId) (i : TypeInfo) (z : Value) (bytes : Nat)
    (ho : o.op = .call { callee := .builtin .append, args := #[s, x], argTypes := #[t, t] }) (ht : P.underlying t = some (.slice e)) (hi : P.info? e = some i) (hz : i.zero = some z) (hz1 : i.size = k) (hz2 : i.bytes = bytes) (hz3 : z.cells.size = k) (hk0 : 0 < k) (hby : bytes ≤ 10000)
    (base : Nat) (v : Value) (n : Nat) (L : List α) (hs : a.eval s = v) (hown : Owns w base e k v n (L.flatMap f)) (A : Option Addr) (m c : Nat) (M : List α) (hx : a.eval x = .slice A m c) (hR : RowsAt w A k f M) (hm : M.length = m) (hsz : n + m ≤ 1000000) (hbase : base ≤ w.heap.size) (hSg : ∀ w', w.grownBy w' v.ownBlock → S w')
    (h : ∀ A' cap w', n + m ≤ cap → cap ≤ maxLen → Owns w' base e k (.slice A' (n + m) cap) (n + m) ((L ++ M).flatMap f) → w.grownBy w' v.ownBlock → wpAnyH P md ops.toArray K S fu (sl.setIfInBounds idx true) (a.put o.dst (.slice A' (n + m) cap)) w') : wpAnyH P md ops.toArray K S (fu + 1) sl a w := by
  obtain ⟨A', cap, w', hr, c1, c2, c3, c4⟩ := exec_append_rows (P := P) hk h1 s x t e i z bytes ho ht hi hz hz1 hz2 hz3 hk0 hby base v n L hs hown A m c M hx hR hm hsz hbase
  exact held_run idx hidx hrd hgd hr (hSg w' c4) (h A' cap w' c1 c2 c3 c4)
end Go.Proofs.YtppnbdbigebhaaaGreatDoor.Known

namespace Go.Proofs.YtppnbdbigebhaaaGreatDoor.Known
open Go.RowKit Grp Mem _root_.Go.Proofs.YtppnbdbigebhaaaGreatDoor.Code Sha Sign _root_.Go.Proofs.YtppnbdbigebhaaaGreatDoor.Item

set_option maxRecDepth 100000 in
set_option maxHeartbeats 4000000 in
theorem radd_no (k : KR) (x : ItemR) (w : World) (hK : KIn w k) (hI : ItemIn w x) (ok : ∀ y ∈ k.l, ItemOk y) (ox : ItemOk x) (h : signedB k.sv x = false ∨ signedB k.sv x = true ∧ hasE k.l (digOf x) = true) : Calls Tryz.prog 87 #[.agg (knA k), .agg (itA x)] w (AddIs k x w) := by
  obtain ⟨w3, hC, hw3⟩ := AddCtx.new w k x
  have cS : ∀ y : Wd w3, y.w.cell? ⟨w.heap.size, 0, none⟩ = some (.slice k.sA k.sv.length k.sC) := fun y => (y.blk hC.bk).cell 0
  have hIt : ∀ y : Wd w3, (Instr.loadAt 54 (.pointer (some ⟨w.heap.size + 1, 0, none⟩))).run Tryz.prog y.w = .ok (.agg (itA x)) y.w := Wd.load hC.bi.lt (Blk.range hC.bi) Tryz.underlying54 rfl (by kernel_rfl)
  have hLk : ∀ y : Wd w3, (Instr.loadAt 25 (.pointer (some ⟨w.heap.size, 0, none⟩))).run Tryz.prog y.w = .ok (.agg (knA k)) y.w := Wd.load hC.bk.lt (Blk.range hC.bk) Tryz.underlying25 rfl (by kernel_rfl)
  have hBr : ∀ y : Wd w3, Blk y.w (w.heap.size + 1 + 1) 25 known0.cells.toArray := fun y => y.blk hC.br
  have hKy : ∀ y : Wd w3, KIn y.w k := fun y => hK.q (Q.trans hC.q y.q)
  have hIy : ∀ y : Wd w3, ItemIn y.w x := fun y => hI.q (Q.trans hC.q y.q)
  have HQ := Lib.hid hC.q
  obtain ⟨u, hu⟩ : ∃ u : Wd w3, u.w = w3 := ⟨⟨w3, Q.refl _⟩, rfl⟩
  have HX := Lib.hid (hu.trans hw3)
  have hok : addOk k.sv k.l x = false := by
    unfold addOk
    rcases h with h | ⟨h, h2⟩
    · rw [h]; rfl
    · unfold hasE at h2
      rw [Bool.and_eq_true_iff] at h2
      rw [h, h2.2]
      rfl
  have HOK := Lib.hid hok
  have HL := Lib.hid (show addK k.sv k.l x = k.l by unfold addK; rw [hok]; rfl)
  have hsl : k.sv.length ≤ maxLen := Nat.le_trans hK.svC.1 hK.svC.2
  have hDg := fun y : Wd w3 => rdigest_any x y.w (hIy y) ox
  have hSg := fun y : Wd w3 => rsigned_any k.sA k.sC k.sv x y.w (hIy y) ox (hKy y).sv hsl
  have hHs := fun y : Wd w3 => rhas_any k (digOf x) y.w (hKy y) ok
  clear hu hw3 hC hok
  generalize digOf x = d at *
  rcases h with h | ⟨h, h2⟩
  all_goals
    rw [h] at hSg
    first | (rw [h2] at hHs) | skip
    go_enter Tryz.func87, Tryz.ntmps87
    go_upto_region 1 with (fail)
    refine (show Code.wp _ _ _ _ u.w → Code.wp _ _ _ _ _ from fun h => by rw [HX.out] at h; exact h) ?_
    go_wp2_with (first | (refine wpList_load_run 54 (.tmp 3) (.pointer (some ⟨w.heap.size + 1, 0, none⟩)) (.agg (itA x)) ?_ ?_ ?_ ?_ ?_; rfl; rfl; rfl; exact hIt _) | (refine wpList_load_run 25 (.tmp 2) (.pointer (some ⟨w.heap.size, 0, none⟩)) (.agg (knA k)) ?_ ?_ ?_ ?_ ?_; rfl; rfl; rfl; exact hLk _) | (go_at_call 53; refine (hDg _).mono ?_; rintro e w' ⟨rfl, hq2⟩; obtain ⟨y, rfl⟩ := Wd.next _ hq2; clear hq2) | (go_at_call 136; refine (hSg _).mono ?_; rintro e w' ⟨rfl, hq2⟩; obtain ⟨y, rfl⟩ := Wd.next _ hq2; clear hq2) | (go_at_call 52; refine (hHs _).mono ?_; rintro e w' ⟨rfl, hq2⟩; obtain ⟨y, rfl⟩ := Wd.next _ hq2; clear hq2) | (refine wpList_store_far (hBr _) rfl 25 (.tmp 4) (.tmp 21) k.cells rfl rfl rfl (by kernel_rfl) (kn_all _) (Nat.le_refl 2) ?_))
    intro W hW hbel hfar
    rw [splice_all _ _ (by rfl)] at hW
    have hqW : Q w W := hbel _ _ (by omega) (Q.trans HQ.out (Wd.q _))
    clear hbel hfar
    go_wp2_with fail
    exact bodyPost_ret (results_row_tmp rfl _ _ (w.heap.size + 1 + 1) 25 (knA k) (0, 0) _ _ rfl rfl hW Tryz.underlying25 rfl (by kernel_rfl)) rfl ⟨k, by rw [HOK.out]; rfl, rfl, HL.out.symm, hK.q hqW, hqW⟩

theorem cut_next (d : ByteArray) (l : List ItemR) (j : Nat) (h : j < l.length) (hj : j ≤ cutK d (digs l)) (hp : lessB d (digOf l[j]) = false) : j + 1 ≤ cutK d (digs l) :=
  tw_next _ (digs l) j (by rw [digs_len]; exact h) hj (by rw [digs_get l j h, hp]; rfl)
theorem cut_stop (d : ByteArray) (l : List ItemR) (j : Nat) (h : j < l.length) (hj : j ≤ cutK d (digs l)) (hp : lessB d (digOf l[j]) = true) : cutK d (digs l) = j :=
  tw_stop _ (digs l) j (by rw [digs_len]; exact h) hj (by rw [digs_get l j h, hp]; rfl)
set_option maxRecDepth 100000 in
set_option maxHeartbeats 4000000 in
theorem radd_yes (k : KR) (x : ItemR) (w : World) (hK : KIn w k) (hI : ItemIn w x) (ok : ∀ y ∈ k.l, ItemOk y) (ox : ItemOk x) (hn : k.l.length ≤ 100000) (h : signedB k.sv x = true) (h2 : hasE k.l (digOf x) = false) : Calls Tryz.prog 87 #[.agg (knA k), .agg (itA x)] w (AddIs k x w) := by
  obtain ⟨w3, hC, hw3⟩ := AddCtx.new w k x
  have cS : ∀ y : Wd w3, y.w.cell? ⟨w.heap.size, 0, none⟩ = some (.slice k.sA k.sv.length k.sC) := fun y => (y.blk hC.bk).cell 0
  have hIt : ∀ y : Wd w3, (Instr.loadAt 54 (.pointer (some ⟨w.heap.size + 1, 0, none⟩))).run Tryz.prog y.w = .ok (.agg (itA x)) y.w := Wd.load hC.bi.lt (Blk.range hC.bi) Tryz.underlying54 rfl (by kernel_rfl)
  have hLk : ∀ y : Wd w3, (Instr.loadAt 25 (.pointer (some ⟨w.heap.size, 0, none⟩))).run Tryz.prog y.w = .ok (.agg (knA k)) y.w := Wd.load hC.bk.lt (Blk.range hC.bk) Tryz.underlying25 rfl (by kernel_rfl)
  have hBr : ∀ y : Wd w3, Blk y.w (w.heap.size + 1 + 1) 25 known0.cells.toArray := fun y => y.blk hC.br
  have hKy : ∀ y : Wd w3, KIn y.w k := fun y => hK.q (Q.trans hC.q y.q)
  have hIy : ∀ y : Wd w3, ItemIn y.w x := fun y => hI.q (Q.trans hC.q y.q)
  have HQ := Lib.hid hC.q
  obtain ⟨u, hu⟩ : ∃ u : Wd w3, u.w = w3 := ⟨⟨w3, Q.refl _⟩, rfl⟩
  have HX := Lib.hid (hu.trans hw3)
  have cI : ∀ y : Wd w3, y.w.cell? ⟨w.heap.size, 1, none⟩ = some (.slice k.iA k.l.length k.iC) := fun y => (y.blk hC.bk).cell 1
  have hsl : k.sv.length ≤ maxLen := Nat.le_trans hK.svC.1 hK.svC.2
  have hDg := fun y : Wd w3 => rdigest_any x y.w (hIy y) ox
  have hSg := fun y : Wd w3 => rsigned_any k.sA k.sC k.sv x y.w (hIy y) ox (hKy y).sv hsl
  have hHs := fun y : Wd w3 => rhas_any k (digOf x) y.w (hKy y) ok
  have hD : hasD k.l (digOf x) = false := by
    have hs := digOf_size h
    unfold hasE at h2
    rw [show noneB (digOf x) = false by unfold noneB; rw [hs]; rfl] at h2
    exact h2
  have hok : addOk k.sv k.l x = true := by unfold addOk; rw [h, hD]; rfl
  have HOK := Lib.hid hok
  have HL := Lib.hid (show addK k.sv k.l x = insK k.l x by unfold addK; rw [hok]; rfl)
  have hg3' := hC.br.lt
  clear hD hok
  rw [h] at hSg
  rw [h2] at hHs
  clear hu hw3 hC
  generalize hdx : digOf x = d at *
  have HDX := Lib.hid hdx
  clear hdx
  go_enter Tryz.func87, Tryz.ntmps87
  go_upto_region 1 with (fail)
  refine (show Code.wp _ _ _ _ u.w → Code.wp _ _ _ _ _ from fun h => by rw [HX.out] at h; exact h) ?_
  go_wp2_with (first | (refine wpList_load_run 54 (.tmp 3) (.pointer (some ⟨w.heap.size + 1, 0, none⟩)) (.agg (itA x)) ?_ ?_ ?_ ?_ ?_; rfl; rfl; rfl; exact hIt _) | (refine wpList_load_run 25 (.tmp 2) (.pointer (some ⟨w.heap.size, 0, none⟩)) (.agg (knA k)) ?_ ?_ ?_ ?_ ?_; rfl; rfl; rfl; exact hLk _) | (go_at_call 53; refine (hDg _).mono ?_; rintro e w' ⟨rfl, hq2⟩; obtain ⟨y, rfl⟩ := Wd.next _ hq2; clear hq2) | (go_at_call 136; refine (hSg _).mono ?_; rintro e w' ⟨rfl, hq2⟩; obtain ⟨y2, rfl⟩ := Wd.next _ hq2; clear hq2) | (go_at_call 52; refine (hHs _).mono ?_; rintro e w' ⟨rfl, hq2⟩; obtain ⟨y3, rfl⟩ := Wd.next _ hq2; clear hq2))
  go_loopw [7] (fun i wr => ∃ (j : Nat) (z : Wd w3), i = .int .i64 j ∧ wr = z.w ∧ j ≤ k.l.length ∧ Hid (j ≤ cutK d (digs k.l))) (fun i _ => k.l.length - (intOf i).toNat)
  case atStart => exact ⟨0, y3, rfl, rfl, Nat.zero_le _, Lib.hid (Nat.zero_le _)⟩
  case round =>
    obtain ⟨j, z, rfl, rfl, hj, hjc⟩ := hrel
    by_cases hlt : j < k.l.length
    · obtain ⟨b, o, eA, hb, hld⟩ := (hKy z).items.load j hlt
      have hio := (hKy z).items.each _ (List.getElem_mem hlt)
      have hdg := rdigest_any k.l[j] z.w hio (ok _ (List.getElem_mem hlt))
      have hlj : (j : Int) < (k.l.length : Int) := by omega
      have hcI : z.w.cell? ⟨w.heap.size, 1, none⟩ = some (.slice (some ⟨b, o, none⟩) k.l.length k.iC) := eA ▸ cI z
      have HN := Lib.hid (cut_next d k.l j hlt hjc.out)
      have HS := Lib.hid (cut_stop d k.l j hlt hjc.out)
      have hldz := hld ⟨z.w, Q.refl _⟩
      dsimp only at hldz
      clear hio hld
      generalize k.l[j] = it at *
      generalize digOf it = d2 at *
      cases hle : lessB d d2
      · have HN2 := Lib.hid (HN.out hle)
        have h3 := lessB_three d d2
        rw [hle] at h3
        clear hle
        rcases h3 with h3 | h3 | h3
        · cases h3
        · have hle1 : (d2.toList == d.toList) = true := by rw [h3]; simp
          clear h3
          go_wp2_with (first | (refine wpList_load_run 54 (.tmp 31) (.pointer (some ⟨b, o + j * 49, none⟩)) (.agg (itA it)) ?_ ?_ ?_ ?_ ?_; rfl; rfl; rfl; exact hldz) | (go_at_call 53; refine hdg.mono ?_; rintro e w' ⟨rfl, hq2⟩; obtain ⟨y4, rfl⟩ := Wd.next z hq2; clear hq2))
          exact ⟨⟨j + 1, y4, by go_num, rfl, by omega, HN2⟩, by simp only [intOf]; omega⟩
        · have hle1 : Op.bytesLess d2.toList d.toList = true := h3
          clear h3
          go_wp2_with (first | (refine wpList_load_run 54 (.tmp 31) (.pointer (some ⟨b, o + j * 49, none⟩)) (.agg (itA it)) ?_ ?_ ?_ ?_ ?_; rfl; rfl; rfl; exact hldz) | (go_at_call 53; refine hdg.mono ?_; rintro e w' ⟨rfl, hq2⟩; obtain ⟨y4, rfl⟩ := Wd.next z hq2; clear hq2))
          exact ⟨⟨j + 1, y4, by go_num, rfl, by omega, HN2⟩, by simp only [intOf]; omega⟩
      · have HC := Lib.hid (HS.out hle)
        have hle1 : Op.bytesLess d2.toList d.toList = false := lessB_asymm hle
        have hle2 : (d2.toList == d.toList) = false := beq_eq_false_iff_ne.2 (str_ne fun e => by rw [e, lessB_irrefl] at hle; cases hle)
        clear hle
        go_upto_region 7 with (first | (refine wpList_load_run 54 (.tmp 31) (.pointer (some ⟨b, o + j * 49, none⟩)) (.agg (itA it)) ?_ ?_ ?_ ?_ ?_; rfl; rfl; rfl; exact hldz) | (go_at_call 53; refine hdg.mono ?_; rintro e w' ⟨rfl, hq2⟩; obtain ⟨y4, rfl⟩ := Wd.next z hq2; clear hq2))
        clear hldz hdg hcI eA
        obtain ⟨i0, hi, hz0, hz1, hz2⟩ := info_parts item_info
        have hlc := (hKy y4).lC
        have hci : j ≤ k.iC := Nat.le_trans hj hlc.1
        have hcm : k.iC ≤ 9223372036854775807 := by have := hlc.2; simp only [maxLen] at this; omega
        have hown : Owns (y4.w.alloc (.cells #[] 54)) w3.heap.size 54 49 (.slice (some ⟨y4.w.heap.size, 0, none⟩) 0 0) 0 (([] : List ItemR).flatMap ItemR.cells) := Owns.zero y4.w w3.heap.size 49 54 y4.q.size
        have hq4 : Q w3 (y4.w.alloc (.cells #[] 54)) := Q.trans y4.q (q_new _ _ _)
        refine wp_region_lit ?_
        refine wpList_buildSlice_run 23 0 #[] #[] (.slice (some ⟨y4.w.heap.size, 0, none⟩) 0 0) rfl rfl (by simp) (bs_none y4.w) ?_
        dsimp only [Act.put]
        simp only [List.setIfInBounds_toArray, List.set_cons_succ, List.set_cons_zero]
        obtain ⟨y5, hy5⟩ : ∃ y5 : Wd w3, y4.w.alloc (.cells #[] 54) = y5.w := ⟨⟨_, hq4⟩, rfl⟩
        rw [hy5] at hown ⊢
        clear hy5 hq4
        go_wp2_with (first | (refine wpList_slice_to 23 54 (.tmp 41) (.tmp 42) k.iA k.l.length k.iC j 49 rfl rfl Tryz.underlying23 (by kernel_rfl) Tryz.sizeOf54 rfl rfl hci ?_) | at_builtin; refine wpList_append_rows it_len it_one rfl (.tmp 39) (.tmp 43) 23 54 i0 _ 568 rfl Tryz.underlying23 hi hz0 hz1 hz2 rfl (by decide) (by decide) w3.heap.size _ 0 [] rfl hown k.iA j k.iC (k.l.take j) rfl ((hKy y5).items.rows.take j) (by rw [List.length_take]; omega) (by omega) y5.q.size ?_)
        intro A5 cap5 w5 hc5 hm5 hown5 hg5
        have hq5 : Q w3 w5 := q_grown y5.q (Nat.le_refl _) hown hg5
        obtain ⟨y6, rfl⟩ : ∃ y6 : Wd w3, w5 = y6.w := ⟨⟨w5, hq5⟩, rfl⟩
        clear hown hg5 hq5
        go_upto_region 8 with (fail)
        have hz8 : Q w3 y6.w.drew := y6.q.drew
        refine wp_region_H (fun z => Q w3 z) (by kernel_rfl) ?_
        refine held_pure 0 (v := .slice A5 j cap5) rfl (by kernel_rfl) (by kernel_rfl) (by kernel_rfl) (by intro c a d v w h; cases d <;> exact h) rfl hz8 (fun w => by rfl) ?_
        try simp only [Act.put, List.setIfInBounds_toArray, List.set_cons_succ, List.set_cons_zero]
        refine held_read 1 (v := .agg (itA x)) rfl (by kernel_rfl) (by kernel_rfl) (by kernel_rfl) (by intro c a d v w h; cases d <;> exact h) rfl hz8 (fun z hz => exec_load 54 (.tmp 3) _ _ rfl rfl (hIt ⟨z, hz⟩)) ?_
        try simp only [Act.put, List.setIfInBounds_toArray, List.set_cons_succ, List.set_cons_zero]
        refine held_pure 4 (v := .pointer (some ⟨w.heap.size, 1, none⟩)) rfl (by kernel_rfl) (by kernel_rfl) (by kernel_rfl) (by intro c a d v w h; cases d <;> exact h) rfl hz8 (fun w => by rfl) ?_
        try simp only [Act.put, List.setIfInBounds_toArray, List.set_cons_succ, List.set_cons_zero]
        refine held_read 5 (v := .slice k.iA k.l.length k.iC) rfl (by kernel_rfl) (by kernel_rfl) (by kernel_rfl) (by intro c a d v w h; cases d <;> exact h) rfl hz8 (fun z hz => exec_load 23 (.tmp 49) _ _ rfl rfl (run_loadAt_one z ⟨w.heap.size, 1, none⟩ 23 _ _ Tryz.underlying23 rfl (cI ⟨z, hz⟩))) ?_
        try simp only [Act.put, List.setIfInBounds_toArray, List.set_cons_succ, List.set_cons_zero]
        refine held_pure 6 (v := .int .i64 (j : Int)) rfl (by kernel_rfl) (by kernel_rfl) (by kernel_rfl) (by intro c a d v w h; cases d <;> exact h) rfl hz8 (fun w => by rfl) ?_
        try simp only [Act.put, List.setIfInBounds_toArray, List.set_cons_succ, List.set_cons_zero]
        refine held_pure 7 (v := .slice (if k.iC = j then k.iA else k.iA.map (·.add (j * 49))) (k.l.length - j) (k.iC - j)) rfl (by kernel_rfl) (by kernel_rfl) (by kernel_rfl) (by intro c a d v w h; cases d <;> exact h) rfl hz8 (fun w => exec_slice_from 23 54 (.tmp 50) (.tmp 51) k.iA k.l.length k.iC j 49 rfl Tryz.underlying23 (by kernel_rfl) Tryz.sizeOf54 rfl rfl hj hlc.1) ?_
        try simp only [Act.put, List.setIfInBounds_toArray, List.set_cons_succ, List.set_cons_zero]
        refine held_run 2 rfl (by kernel_rfl) rfl (exec_buildSlice_run 23 1 _ #[(0, .agg (itA x))] _ rfl (by simp only [List.map_toArray, List.map_cons, List.map_nil]; rfl) (bs_item x _)) (Q.trans hz8 (q_new _ _ _)) ?_
        try simp only [Act.put, List.setIfInBounds_toArray, List.set_cons_succ, List.set_cons_zero]
        have hownA := hown5.drew.alloc (.cells (itA x) 54)
        have hqA : Q w3 (y6.w.drew.alloc (.cells (itA x) 54)) := Q.trans hz8 (q_new _ _ _)
        refine held_append_rows 3 it_len it_one rfl (by kernel_rfl) rfl (.tmp 45) (.tmp 47) 23 54 i0 _ 568 rfl Tryz.underlying23 hi hz0 hz1 hz2 rfl (by decide) (by decide) w3.heap.size (.slice A5 j cap5) j (k.l.take j) rfl hownA (some ⟨y6.w.drew.heap.size, 0, none⟩) 1 1 [x] rfl (RowsAt.one y6.w.drew 54 x (itA x) rfl) rfl (by omega) hqA.size (fun w' hg => q_grown hqA (Nat.le_refl _) hownA hg) ?_
        intro A7 cap7 w7 hc7 hm7 hown7 hg7
        try simp only [Act.put, List.setIfInBounds_toArray, List.set_cons_succ, List.set_cons_zero]
        have hq7 : Q w3 w7 := q_grown hqA (Nat.le_refl _) hownA hg7
        have hS7 := rows_sliced (hK.items.rows.q (Q.trans HQ.out hq7)) j k.iC hlc.1
        refine held_append_rows 8 it_len it_one rfl (by kernel_rfl) rfl (.tmp 48) (.tmp 52) 23 54 i0 _ 568 rfl Tryz.underlying23 hi hz0 hz1 hz2 rfl (by decide) (by decide) w3.heap.size (.slice A7 (j + 1) cap7) (j + 1) (k.l.take j ++ [x]) rfl hown7 _ (k.l.length - j) (k.iC - j) (k.l.drop j) rfl hS7 (by rw [List.length_drop]) (by omega) hq7.size (fun w' hg => q_grown hq7 (Nat.le_refl _) hown7 hg) ?_
        intro A8 cap8 w8 hc8 hm8 hown8 hg8
        try simp only [Act.put, List.setIfInBounds_toArray, List.set_cons_succ, List.set_cons_zero]
        have hq8 : Q w3 w8 := q_grown hq7 (Nat.le_refl _) hown7 hg8
        refine held_run 9 rfl (by kernel_rfl) rfl (exec_assign (.tmp 53) (.slice A8 (j + 1 + (k.l.length - j)) cap8) rfl rfl) hq8 ?_
        try simp only [Act.put, List.setIfInBounds_toArray, List.set_cons_succ, List.set_cons_zero]
        refine wpAnyH_done (by kernel_rfl) ?_ _
        generalize (if k.iC = j then k.iA else k.iA.map (·.add (j * 49))) = A9 at *
        clear hown5 hownA hown7 hg7 hg8 hS7 hqA hz8 hq7
        obtain ⟨y8, rfl⟩ : ∃ y8 : Wd w3, w8 = y8.w := ⟨⟨w8, hq8⟩, rfl⟩
        clear hq8
        have e8 : insK k.l x = k.l.take j ++ x :: k.l.drop j := by unfold insK; rw [HDX.out, HC.out]
        have hlen : (insK k.l x).length = j + 1 + (k.l.length - j) := by
          rw [e8, List.length_append, List.length_cons, List.length_take, List.length_drop]
          omega
        have hfl : k.l.take j ++ [x] ++ k.l.drop j = insK k.l x := by rw [e8]; simp
        rw [hfl] at hown8
        have hbase : ∀ b o, A8 = some ⟨b, o, none⟩ → w3.heap.size ≤ b := fun b o e => (hown8.lt b (by rw [e]; rfl)).1
        have hr8 : RowsAt y8.w A8 49 ItemR.cells (insK k.l x) := Owns.rows it_len hown8 hlen.symm
        have hm8' : (insK k.l x).length ≤ cap8 := by rw [hlen]; exact hc8
        rw [← hlen]
        clear hown8 hfl e8 hlen hc8
        go_wp2_with (refine wpList_store_far (hBr y8) rfl 25 (.tmp 4) (.tmp 57) (KR.mk k.sv k.sA k.sC (insK k.l x) A8 cap8).cells rfl rfl rfl (by kernel_rfl) (kn_all _) (Nat.le_refl 2) ?_)
        intro W2 hW2 hbel2 hfar2
        rw [splice_all _ _ (by rfl)] at hW2
        have hq2 : Q w W2 := hbel2 _ _ (by omega) (Q.trans HQ.out y8.q)
        have hK2 : KIn W2 (KR.mk k.sv k.sA k.sC (insK k.l x) A8 cap8) := ⟨hK.sv.q hq2, ⟨RowsAt_far hr8 fun b o e => hfar2 b (by have := hbase b o e; omega), fun y hy => by
          rcases (mem_insK k.l x y).1 hy with rfl | hy
          · exact hI.q hq2
          · exact (hK.items.each y hy).q hq2⟩, hK.svC, hm8', hm8⟩
        clear hbel2 hfar2
        go_wp2_with fail
        exact bodyPost_ret (results_row_tmp rfl _ _ (w.heap.size + 1 + 1) 25 (knA (KR.mk k.sv k.sA k.sC (insK k.l x) A8 cap8)) (0, 0) _ _ rfl rfl hW2 Tryz.underlying25 rfl (by kernel_rfl)) rfl ⟨KR.mk k.sv k.sA k.sC (insK k.l x) A8 cap8, by rw [HOK.out]; rfl, rfl, HL.out.symm, hK2, hq2⟩
    · have hjn : j = k.l.length := by omega
      have hlj : ¬ (j : Int) < (k.l.length : Int) := by omega
      have HC := Lib.hid (show cutK d (digs k.l) = j by have := cut_le d k.l; have := hjc.out; omega)
      clear hjn
      go_upto_region 7 with (fail)
      obtain ⟨i0, hi, hz0, hz1, hz2⟩ := info_parts item_info
      have hlc := (hKy z).lC
      have hci : j ≤ k.iC := Nat.le_trans hj hlc.1
      have hcm : k.iC ≤ 9223372036854775807 := by have := hlc.2; simp only [maxLen] at this; omega
      have hown : Owns (z.w.alloc (.cells #[] 54)) w3.heap.size 54 49 (.slice (some ⟨z.w.heap.size, 0, none⟩) 0 0) 0 (([] : List ItemR).flatMap ItemR.cells) := Owns.zero z.w w3.heap.size 49 54 z.q.size
      have hq4 : Q w3 (z.w.alloc (.cells #[] 54)) := Q.trans z.q (q_new _ _ _)
      refine wp_region_lit ?_
      refine wpList_buildSlice_run 23 0 #[] #[] (.slice (some ⟨z.w.heap.size, 0, none⟩) 0 0) rfl rfl (by simp) (bs_none z.w) ?_
      dsimp only [Act.put]
      simp only [List.setIfInBounds_toArray, List.set_cons_succ, List.set_cons_zero]
      obtain ⟨y5, hy5⟩ : ∃ y5 : Wd w3, z.w.alloc (.cells #[] 54) = y5.w := ⟨⟨_, hq4⟩, rfl⟩
      rw [hy5] at hown ⊢
      clear hy5 hq4
      go_wp2_with (first | (refine wpList_slice_to 23 54 (.tmp 41) (.tmp 42) k.iA k.l.length k.iC j 49 rfl rfl Tryz.underlying23 (by kernel_rfl) Tryz.sizeOf54 rfl rfl hci ?_) | at_builtin; refine wpList_append_rows it_len it_one rfl (.tmp 39) (.tmp 43) 23 54 i0 _ 568 rfl Tryz.underlying23 hi hz0 hz1 hz2 rfl (by decide) (by decide) w3.heap.size _ 0 [] rfl hown k.iA j k.iC (k.l.take j) rfl ((hKy y5).items.rows.take j) (by rw [List.length_take]; omega) (by omega) y5.q.size ?_)
      intro A5 cap5 w5 hc5 hm5 hown5 hg5
      have hq5 : Q w3 w5 := q_grown y5.q (Nat.le_refl _) hown hg5
      obtain ⟨y6, rfl⟩ : ∃ y6 : Wd w3, w5 = y6.w := ⟨⟨w5, hq5⟩, rfl⟩
      clear hown hg5 hq5
      go_upto_region 8 with (fail)
      have hz8 : Q w3 y6.w.drew := y6.q.drew
      refine wp_region_H (fun z => Q w3 z) (by kernel_rfl) ?_
      refine held_pure 0 (v := .slice A5 j cap5) rfl (by kernel_rfl) (by kernel_rfl) (by kernel_rfl) (by intro c a d v w h; cases d <;> exact h) rfl hz8 (fun w => by rfl) ?_
      try simp only [Act.put, List.setIfInBounds_toArray, List.set_cons_succ, List.set_cons_zero]
      refine held_read 1 (v := .agg (itA x)) rfl (by kernel_rfl) (by kernel_rfl) (by kernel_rfl) (by intro c a d v w h; cases d <;> exact h) rfl hz8 (fun z hz => exec_load 54 (.tmp 3) _ _ rfl rfl (hIt ⟨z, hz⟩)) ?_
      try simp only [Act.put, List.setIfInBounds_toArray, List.set_cons_succ, List.set_cons_zero]
      refine held_pure 4 (v := .pointer (some ⟨w.heap.size, 1, none⟩)) rfl (by kernel_rfl) (by kernel_rfl) (by kernel_rfl) (by intro c a d v w h; cases d <;> exact h) rfl hz8 (fun w => by rfl) ?_
      try simp only [Act.put, List.setIfInBounds_toArray, List.set_cons_succ, List.set_cons_zero]
      refine held_read 5 (v := .slice k.iA k.l.length k.iC) rfl (by kernel_rfl) (by kernel_rfl) (by kernel_rfl) (by intro c a d v w h; cases d <;> exact h) rfl hz8 (fun z hz => exec_load 23 (.tmp 49) _ _ rfl rfl (run_loadAt_one z ⟨w.heap.size, 1, none⟩ 23 _ _ Tryz.underlying23 rfl (cI ⟨z, hz⟩))) ?_
      try simp only [Act.put, List.setIfInBounds_toArray, List.set_cons_succ, List.set_cons_zero]
      refine held_pure 6 (v := .int .i64 (j : Int)) rfl (by kernel_rfl) (by kernel_rfl) (by kernel_rfl) (by intro c a d v w h; cases d <;> exact h) rfl hz8 (fun w => by rfl) ?_
      try simp only [Act.put, List.setIfInBounds_toArray, List.set_cons_succ, List.set_cons_zero]
      refine held_pure 7 (v := .slice (if k.iC = j then k.iA else k.iA.map (·.add (j * 49))) (k.l.length - j) (k.iC - j)) rfl (by kernel_rfl) (by kernel_rfl) (by kernel_rfl) (by intro c a d v w h; cases d <;> exact h) rfl hz8 (fun w => exec_slice_from 23 54 (.tmp 50) (.tmp 51) k.iA k.l.length k.iC j 49 rfl Tryz.underlying23 (by kernel_rfl) Tryz.sizeOf54 rfl rfl hj hlc.1) ?_
      try simp only [Act.put, List.setIfInBounds_toArray, List.set_cons_succ, List.set_cons_zero]
      refine held_run 2 rfl (by kernel_rfl) rfl (exec_buildSlice_run 23 1 _ #[(0, .agg (itA x))] _ rfl (by simp only [List.map_toArray, List.map_cons, List.map_nil]; rfl) (bs_item x _)) (Q.trans hz8 (q_new _ _ _)) ?_
      try simp only [Act.put, List.setIfInBounds_toArray, List.set_cons_succ, List.set_cons_zero]
      have hownA := hown5.drew.alloc (.cells (itA x) 54)
      have hqA : Q w3 (y6.w.drew.alloc (.cells (itA x) 54)) := Q.trans hz8 (q_new _ _ _)
      refine held_append_rows 3 it_len it_one rfl (by kernel_rfl) rfl (.tmp 45) (.tmp 47) 23 54 i0 _ 568 rfl Tryz.underlying23 hi hz0 hz1 hz2 rfl (by decide) (by decide) w3.heap.size (.slice A5 j cap5) j (k.l.take j) rfl hownA (some ⟨y6.w.drew.heap.size, 0, none⟩) 1 1 [x] rfl (RowsAt.one y6.w.drew 54 x (itA x) rfl) rfl (by omega) hqA.size (fun w' hg => q_grown hqA (Nat.le_refl _) hownA hg) ?_
      intro A7 cap7 w7 hc7 hm7 hown7 hg7
      try simp only [Act.put, List.setIfInBounds_toArray, List.set_cons_succ, List.set_cons_zero]
      have hq7 : Q w3 w7 := q_grown hqA (Nat.le_refl _) hownA hg7
      have hS7 := rows_sliced (hK.items.rows.q (Q.trans HQ.out hq7)) j k.iC hlc.1
      refine held_append_rows 8 it_len it_one rfl (by kernel_rfl) rfl (.tmp 48) (.tmp 52) 23 54 i0 _ 568 rfl Tryz.underlying23 hi hz0 hz1 hz2 rfl (by decide) (by decide) w3.heap.size (.slice A7 (j + 1) cap7) (j + 1) (k.l.take j ++ [x]) rfl hown7 _ (k.l.length - j) (k.iC - j) (k.l.drop j) rfl hS7 (by rw [List.length_drop]) (by omega) hq7.size (fun w' hg => q_grown hq7 (Nat.le_refl _) hown7 hg) ?_
      intro A8 cap8 w8 hc8 hm8 hown8 hg8
      try simp only [Act.put, List.setIfInBounds_toArray, List.set_cons_succ, List.set_cons_zero]
      have hq8 : Q w3 w8 := q_grown hq7 (Nat.le_refl _) hown7 hg8
      refine held_run 9 rfl (by kernel_rfl) rfl (exec_assign (.tmp 53) (.slice A8 (j + 1 + (k.l.length - j)) cap8) rfl rfl) hq8 ?_
      try simp only [Act.put, List.setIfInBounds_toArray, List.set_cons_succ, List.set_cons_zero]
      refine wpAnyH_done (by kernel_rfl) ?_ _
      generalize (if k.iC = j then k.iA else k.iA.map (·.add (j * 49))) = A9 at *
      clear hown5 hownA hown7 hg7 hg8 hS7 hqA hz8 hq7
      obtain ⟨y8, rfl⟩ : ∃ y8 : Wd w3, w8 = y8.w := ⟨⟨w8, hq8⟩, rfl⟩
      clear hq8
      have e8 : insK k.l x = k.l.take j ++ x :: k.l.drop j := by unfold insK; rw [HDX.out, HC.out]
      have hlen : (insK k.l x).length = j + 1 + (k.l.length - j) := by
        rw [e8, List.length_append, List.length_cons, List.length_take, List.length_drop]
        omega
      have hfl : k.l.take j ++ [x] ++ k.l.drop j = insK k.l x := by rw [e8]; simp
      rw [hfl] at hown8
      have hbase : ∀ b o, A8 = some ⟨b, o, none⟩ → w3.heap.size ≤ b := fun b o e => (hown8.lt b (by rw [e]; rfl)).1
      have hr8 : RowsAt y8.w A8 49 ItemR.cells (insK k.l x) := Owns.rows it_len hown8 hlen.symm
      have hm8' : (insK k.l x).length ≤ cap8 := by rw [hlen]; exact hc8
      rw [← hlen]
      clear hown8 hfl e8 hlen hc8
      go_wp2_with (refine wpList_store_far (hBr y8) rfl 25 (.tmp 4) (.tmp 57) (KR.mk k.sv k.sA k.sC (insK k.l x) A8 cap8).cells rfl rfl rfl (by kernel_rfl) (kn_all _) (Nat.le_refl 2) ?_)
      intro W2 hW2 hbel2 hfar2
      rw [splice_all _ _ (by rfl)] at hW2
      have hq2 : Q w W2 := hbel2 _ _ (by omega) (Q.trans HQ.out y8.q)
      have hK2 : KIn W2 (KR.mk k.sv k.sA k.sC (insK k.l x) A8 cap8) := ⟨hK.sv.q hq2, ⟨RowsAt_far hr8 fun b o e => hfar2 b (by have := hbase b o e; omega), fun y hy => by
        rcases (mem_insK k.l x y).1 hy with rfl | hy
        · exact hI.q hq2
        · exact (hK.items.each y hy).q hq2⟩, hK.svC, hm8', hm8⟩
      clear hbel2 hfar2
      go_wp2_with fail
      exact bodyPost_ret (results_row_tmp rfl _ _ (w.heap.size + 1 + 1) 25 (knA (KR.mk k.sv k.sA k.sC (insK k.l x) A8 cap8)) (0, 0) _ _ rfl rfl hW2 Tryz.underlying25 rfl (by kernel_rfl)) rfl ⟨KR.mk k.sv k.sA k.sC (insK k.l x) A8 cap8, by rw [HOK.out]; rfl, rfl, HL.out.symm, hK2, hq2⟩
theorem radd_any (k : KR) (x : ItemR) (w : World) (hK : KIn w k) (hI : ItemIn w x) (ok : ∀ y ∈ k.l, ItemOk y) (ox : ItemOk x) (hn : k.l.length ≤ 100000) : Calls Tryz.prog 87 #[.agg (knA k), .agg (itA x)] w (AddIs k x w) := by
  cases h : signedB k.sv x
  · exact radd_no k x w hK hI ok ox (.inl h)
  · cases h2 : hasE k.l (digOf x)
    · exact radd_yes k x w hK hI ok ox hn h h2
    · exact radd_no k x w hK hI ok ox (.inr ⟨h, h2⟩)
end Go.Proofs.YtppnbdbigebhaaaGreatDoor.Known

namespace Go.Proofs.YtppnbdbigebhaaaGreatDoor.Known
open Go.RowKit Grp Mem _root_.Go.Proofs.YtppnbdbigebhaaaGreatDoor.Code Sha Sign _root_.Go.Proofs.YtppnbdbigebhaaaGreatDoor.Item

set_option maxRecDepth 100000 in
set_option maxHeartbeats 1000000 in
theorem rall_any (k : KR) (A : Option Addr) (c : Nat) (l : List ItemR) (w : World) (hK : KIn w k) (hI : ItemsIn w A l) (ok : ∀ y ∈ k.l, ItemOk y) (ol : ∀ y ∈ l, ItemOk y) (hn : k.l.length + l.length ≤ 100000) : Calls Tryz.prog 51 #[.agg (knA k), .slice A l.length c] w (KnownIs k.sv (fillK k.sv k.l l) w) := by
  have h1 := Blk.new w 25 (knA k)
  have q1 := q_new w (knA k) 25
  have h2 := Blk.new' (g := w.heap.size + 1) (w.alloc (.cells (knA k) 25)) 25 (knA known0) (by simp)
  have q2 := q_new (w.alloc (.cells (knA k) 25)) (knA known0) 25
  obtain ⟨w3, hw3⟩ : ∃ w3, w3 = ((w.alloc (.cells (knA k) 25)).alloc (.cells (knA known0) 25)) := ⟨_, rfl⟩
  have h1 := h1.q q2
  have hq := Q.trans q1 q2
  rw [← hw3] at h1 h2 hq
  have hst : FillSt w k.sv k.l l w3 0 k := ⟨hq, h1, h2, hK.q hq, rfl, rfl⟩
  obtain ⟨u, hu⟩ : ∃ u : Wd w3, u.w = w3 := ⟨⟨w3, Q.refl _⟩, rfl⟩
  have HX := Lib.hid (hu.trans hw3)
  have HU := Lib.hid hu
  have HST := Lib.hid hst
  clear hu hw3 h1 h2 q1 q2 hq hst
  go_enter Tryz.func51, Tryz.ntmps51
  go_upto_region 1 with (fail)
  refine (show Code.wp _ _ _ _ u.w → Code.wp _ _ _ _ _ from fun h => by rw [HX.out] at h; exact h) ?_
  go_wp2_with fail
  go_loopw [5] (fun i wr => ∃ (j : Nat) (kj : KR), i = .int .i64 j ∧ j ≤ l.length ∧ FillSt w k.sv k.l l wr j kj) (fun i _ => l.length - (intOf i).toNat)
  case atStart => exact ⟨0, k, rfl, Nat.zero_le _, by rw [HU.out]; exact HST.out⟩
  case round =>
    obtain ⟨j, kj, rfl, hj, hst⟩ := hrel
    by_cases hlt : j < l.length
    · obtain ⟨b, o, rfl, hb, hld⟩ := (hI.q hst.q).load j hlt
      have hio := (hI.q hst.q).each _ (List.getElem_mem hlt)
      have hLk : ∀ y : Wd wr, (Instr.loadAt 25 (.pointer (some ⟨w.heap.size, 0, none⟩))).run Tryz.prog y.w = .ok (.agg (knA kj)) y.w := Wd.load hst.blk.lt (Blk.range hst.blk) Tryz.underlying25 rfl (by kernel_rfl)
      have HF := Lib.hid (fill_at k.sv k.l l j hlt)
      have hit := ol _ (List.getElem_mem hlt)
      have hok : ∀ y ∈ kj.l, ItemOk y := fun y hy => by
        rw [hst.hl] at hy
        exact (fill_mem _ _ _ y hy).elim (ok y) fun h => ol y (List.mem_of_mem_take h)
      generalize l[j] = it at *
      go_wp2_with fail
      refine wp_region_open (C := fun w' => ∃ y : Wd wr, w' = y.w) 5 (by kernel_rfl) (by kernel_rfl) ((Wd.mk wr (Q.refl _)).next (Q.refl _).drew) ?_
      simp only [List.take_succ_cons, List.take_zero]
      repeat (first | (refine wpQuiet_load_run 25 (.tmp 2) (.pointer (some ⟨w.heap.size, 0, none⟩)) (.agg (knA kj)) ?_ ?_ ?_ ?_ ?_; rfl; rfl; rfl; exact hLk; dsimp only [Act.put]; simp only [List.setIfInBounds_toArray, List.set_cons_succ, List.set_cons_zero]) | (refine wpQuiet_load_run 54 (.tmp 16) (.pointer (some ⟨b, o + j * 49, none⟩)) (.agg (itA it)) ?_ ?_ ?_ ?_ ?_; rfl; rfl; rfl; exact hld; dsimp only [Act.put]; simp only [List.setIfInBounds_toArray, List.set_cons_succ, List.set_cons_zero]) | go_big_quiet_step (fail))
      refine wpQuiet_nil ?_
      rintro w' ⟨y, rfl⟩
      have hlen : kj.l.length ≤ 100000 := by
        rw [hst.hl]
        have := fillK_length k.sv (l.take j) k.l
        rw [List.length_take] at this
        omega
      refine any_one 5 rfl (by kernel_rfl) rfl (fun K' hK' => ?_)
      go_simp
      refine (radd_any kj it y.w (hst.inn.q y.q) (hio.q y.q) hok hit hlen).mono ?_
      rintro e w2 ⟨k', rfl, hsv, hl, hK2, hq2⟩
      refine hK' _ _ ?_
      clear hK' K'
      try simp only [Act.put, List.setIfInBounds_toArray, List.set_cons_succ, List.set_cons_zero]
      refine any_pure 6 (v := .tuple #[.agg (knA k'), .bool (addOk kj.sv kj.l it)]) rfl (by kernel_rfl) (by kernel_rfl) (by kernel_rfl) (by intro c d v a w h; cases d <;> exact h) rfl (fun w => by rfl) ?_
      try simp only [Act.put, List.setIfInBounds_toArray, List.set_cons_succ, List.set_cons_zero]
      refine any_pure 7 (v := .agg (knA k')) rfl (by kernel_rfl) (by kernel_rfl) (by kernel_rfl) (by intro c d v a w h; cases d <;> exact h) rfl (fun w => by rfl) ?_
      try simp only [Act.put, List.setIfInBounds_toArray, List.set_cons_succ, List.set_cons_zero]
      refine any_pure 8 (v := .bool (addOk kj.sv kj.l it)) rfl (by kernel_rfl) (by kernel_rfl) (by kernel_rfl) (by intro c d v a w h; cases d <;> exact h) rfl (fun w => by rfl) ?_
      try simp only [Act.put, List.setIfInBounds_toArray, List.set_cons_succ, List.set_cons_zero]
      have hqr : Q wr w2 := Q.trans y.q hq2
      have hb2 := hst.blk.q hqr
      have hr2 := hst.res.q hqr
      refine any_one 9 rfl (by kernel_rfl) rfl (fun K' hK' => ?_)
      refine wp_store_mid 25 (.tmp 2) (.tmp 19) rfl w.heap.size 0 k'.cells.toArray rfl rfl (by simpa using hb2.there (Nat.le_refl 2)) (by kernel_rfl) (kn_all _) ?_
      refine hK' _ _ ?_
      clear hK' K'
      refine any_done (by kernel_rfl) ?_ _
      have hsc : Blk (w2.setCells w.heap.size 0 k'.cells) w.heap.size 25 k'.cells.toArray := by
        have := Blk.setCells k'.cells 0 _ w2 hb2 (Nat.le_refl 2)
        rwa [splice_all _ _ (by rfl)] at this
      have hfar := fun b (hne : b ≠ w.heap.size) => setCells_far (g := w.heap.size) hne k'.cells 0 w2
      have hqs : Q w (w2.setCells w.heap.size 0 k'.cells) := below_setCells (Nat.le_refl _) k'.cells 0 w w2 (Q.trans hst.q hqr)
      have honly : ∀ o' v, w2.cell? ⟨w.heap.size, o', none⟩ = some v → ∃ A n c, v = .slice A n c := by
        intro o' v hv
        rw [hb2.cell] at hv
        rcases o' with _ | _ | n
        · exact ⟨_, _, _, (Option.some.inj hv).symm⟩
        · exact ⟨_, _, _, (Option.some.inj hv).symm⟩
        · simp [KR.cells] at hv
      have hside : Aside w2 (w2.setCells w.heap.size 0 k'.cells) w.heap.size := ⟨honly, hfar, (below_setCells (Nat.le_refl _) k'.cells 0 w2 w2 (Below.refl w.heap.size w2)).size⟩
      have hres : Blk (w2.setCells w.heap.size 0 k'.cells) (w.heap.size + 1) 25 known0.cells.toArray := (hfar _ (by omega)).trans hr2
      have HST2 := Lib.hid (FillSt.mk (sv := k.sv) (l0 := k.l) (l := l) hqs hsc hres (hside.known hK2) (hsv.trans hst.hsv) (by rw [hl, hst.hsv, hst.hl, HF.out]))
      go_wp2_with fail
      exact ⟨⟨j + 1, k', by go_num, by omega, HST2.out⟩, by simp only [intOf]; omega⟩
    · obtain rfl : j = l.length := by omega
      have hLk : ∀ y : Wd wr, (Instr.loadAt 25 (.pointer (some ⟨w.heap.size, 0, none⟩))).run Tryz.prog y.w = .ok (.agg (knA kj)) y.w := Wd.load hst.blk.lt (Blk.range hst.blk) Tryz.underlying25 rfl (by kernel_rfl)
      have hBr := hst.res
      have HST2 := Lib.hid hst
      clear hst
      go_wp2_with (first | (refine wpList_load_run 25 (.tmp 2) (.pointer (some ⟨w.heap.size, 0, none⟩)) (.agg (knA kj)) ?_ ?_ ?_ ?_ ?_; rfl; rfl; rfl; exact hLk ⟨wr, Q.refl _⟩) | (refine wpList_store_far hBr rfl 25 (.tmp 4) (.tmp 21) kj.cells rfl rfl rfl (by kernel_rfl) (kn_all _) (Nat.le_refl 2) ?_))
      intro W hW hbel hfar
      rw [splice_all _ _ (by rfl)] at hW
      have hst := HST2.out
      have honly : ∀ o' v, wr.cell? ⟨w.heap.size + 1, o', none⟩ = some v → ∃ A n c, v = .slice A n c := by
        intro o' v hv
        rw [hst.res.cell] at hv
        rcases o' with _ | _ | n
        · exact ⟨_, _, _, (Option.some.inj hv).symm⟩
        · exact ⟨_, _, _, (Option.some.inj hv).symm⟩
        · simp [KR.cells, known0] at hv
      have hside : Aside wr W (w.heap.size + 1) := ⟨honly, hfar, (hbel (w.heap.size + 1) wr (Nat.le_refl _) (Below.refl _ wr)).size⟩
      have hqW : Q w W := hbel _ _ (Nat.le_succ _) hst.q
      have hkW : KIn W kj := hside.known hst.inn
      have h3 : kj.sv = k.sv := hst.hsv
      have h4 : kj.l = fillK k.sv k.l l := by rw [hst.hl, List.take_length]
      clear hst
      go_wp2_with fail
      exact bodyPost_ret (results_cell_row rfl _ _ (w.heap.size + 1) 25 (knA kj) (0, 0) _ rfl hW Tryz.underlying25 rfl (by kernel_rfl)) rfl ⟨_, rfl, h3, h4, hkW, hqW⟩

set_option maxRecDepth 100000 in
set_option maxHeartbeats 2000000 in
theorem runion_any (a b : KR) (w : World) (hA : KIn w a) (hB : KIn w b) (oa : ∀ y ∈ a.l, ItemOk y) (ob : ∀ y ∈ b.l, ItemOk y) (hn : a.l.length + b.l.length ≤ 100000) : Calls Tryz.prog 11 #[.agg (knA a), .agg (knA b)] w (KnownIs a.sv (unionK a b) w) := by
  obtain ⟨w3, hC, hw3⟩ := UniCtx.new w a b
  have aS : ∀ y : Wd w3, y.w.cell? ⟨w.heap.size, 0, none⟩ = some (.slice a.sA a.sv.length a.sC) := fun y => (y.blk hC.ba).cell 0
  have bS : ∀ y : Wd w3, y.w.cell? ⟨w.heap.size + 1, 0, none⟩ = some (.slice b.sA b.sv.length b.sC) := fun y => (y.blk hC.bb).cell 0
  have bI : ∀ y : Wd w3, y.w.cell? ⟨w.heap.size + 1, 1, none⟩ = some (.slice b.iA b.l.length b.iC) := fun y => (y.blk hC.bb).cell 1
  have hLa : ∀ y : Wd w3, (Instr.loadAt 25 (.pointer (some ⟨w.heap.size, 0, none⟩))).run Tryz.prog y.w = .ok (.agg (knA a)) y.w := Wd.load hC.ba.lt (Blk.range hC.ba) Tryz.underlying25 rfl (by kernel_rfl)
  have hBr : ∀ y : Wd w3, Blk y.w (w.heap.size + 1 + 1) 25 known0.cells.toArray := fun y => y.blk hC.br
  have hs1 : a.sv.length ≤ 9223372036854775807 := by have h8 := hA.svC.1; have h9 := hA.svC.2; simp only [maxLen] at h9; omega
  have hs2 : b.sv.length ≤ 9223372036854775807 := by have h8 := hB.svC.1; have h9 := hB.svC.2; simp only [maxLen] at h9; omega
  have hsn := fun y : Wd w3 => rsameNums_any a.sA b.sA a.sC b.sC a.sv b.sv y.w hs1 hs2 (hA.sv.q (Q.trans hC.q y.q)) (hB.sv.q (Q.trans hC.q y.q))
  have hal := fun y : Wd w3 => rall_any a b.iA b.iC b.l y.w (hA.q (Q.trans hC.q y.q)) (hB.items.q (Q.trans hC.q y.q)) oa ob hn
  have HQ := Lib.hid hC.q
  have HBL := Lib.hid hC.br.lt
  obtain ⟨u, hu⟩ : ∃ u : Wd w3, u.w = w3 := ⟨⟨w3, Q.refl _⟩, rfl⟩
  have HX := Lib.hid (hu.trans hw3)
  clear hu hw3 hC
  cases hsv : decide (a.sv = b.sv)
  · rw [hsv] at hsn
    have HU := Lib.hid (show unionK a b = a.l by unfold unionK; rw [if_neg (of_decide_eq_false hsv)])
    have HK := Lib.hid (fun W (hq : Q w W) => hA.q hq)
    clear hsv hal hA hB
    go_enter Tryz.func11, Tryz.ntmps11
    go_upto_region 1 with (fail)
    refine (show Code.wp _ _ _ _ u.w → Code.wp _ _ _ _ _ from fun h => by rw [HX.out] at h; exact h) ?_
    go_wp2_with (first | (go_at_call 44; refine (hsn _).mono ?_; rintro e w' ⟨rfl, hq2⟩; obtain ⟨y, rfl⟩ := Wd.next _ hq2; clear hq2) | (refine wpList_load_run 25 (.tmp 2) (.pointer (some ⟨w.heap.size, 0, none⟩)) (.agg (knA a)) ?_ ?_ ?_ ?_ ?_; rfl; rfl; rfl; exact hLa _) | (refine wpList_store_far (hBr _) rfl 25 (.tmp 4) (.tmp 11) a.cells rfl rfl rfl (by kernel_rfl) (kn_all _) (Nat.le_refl 2) ?_))
    intro W hW hbel hfar
    rw [splice_all _ _ (by rfl)] at hW
    have hqW : Q w W := hbel _ _ (by omega) (Q.trans HQ.out (Wd.q _))
    clear hbel hfar
    go_wp2_with fail
    exact bodyPost_ret (results_cell_row rfl _ _ (w.heap.size + 1 + 1) 25 (knA a) (0, 0) _ rfl hW Tryz.underlying25 rfl (by kernel_rfl)) rfl ⟨a, rfl, rfl, HU.out.symm, HK.out _ hqW, hqW⟩
  · rw [hsv] at hsn
    have HU := Lib.hid (show unionK a b = fillK a.sv a.l b.l by unfold unionK; rw [if_pos (of_decide_eq_true hsv)])
    clear hsv hA hB
    go_enter Tryz.func11, Tryz.ntmps11
    go_upto_region 1 with (fail)
    refine (show Code.wp _ _ _ _ u.w → Code.wp _ _ _ _ _ from fun h => by rw [HX.out] at h; exact h) ?_
    go_wp2_with (first | (go_at_call 44; refine (hsn _).mono ?_; rintro e w' ⟨rfl, hq2⟩; obtain ⟨y, rfl⟩ := Wd.next _ hq2; clear hq2) | (refine wpList_load_run 25 (.tmp 2) (.pointer (some ⟨w.heap.size, 0, none⟩)) (.agg (knA a)) ?_ ?_ ?_ ?_ ?_; rfl; rfl; rfl; exact hLa _) | (go_at_call 51; refine (hal _).mono ?_; rintro e w' ⟨k2, rfl, hk1, hk2, hk3, hq3⟩; obtain ⟨y3, rfl⟩ := Wd.next _ hq3; clear hq3) | (refine wpList_store_far (hBr y3) rfl 25 (.tmp 4) (.tmp 15) k2.cells rfl rfl rfl (by kernel_rfl) (kn_all _) (Nat.le_refl 2) ?_))
    intro W hW hbel hfar
    rw [splice_all _ _ (by rfl)] at hW
    have hqW : Q w W := hbel _ _ (by omega) (Q.trans HQ.out y3.q)
    have honly : ∀ o' v, y3.w.cell? ⟨w.heap.size + 1 + 1, o', none⟩ = some v → ∃ A n c, v = .slice A n c := by
      intro o' v hv
      rw [(hBr y3).cell] at hv
      rcases o' with _ | _ | n
      · exact ⟨_, _, _, (Option.some.inj hv).symm⟩
      · exact ⟨_, _, _, (Option.some.inj hv).symm⟩
      · simp [KR.cells, known0] at hv
    have hside : Aside y3.w W (w.heap.size + 1 + 1) := ⟨honly, hfar, (hbel (w.heap.size + 1 + 1) y3.w (Nat.le_refl _) (Below.refl _ y3.w)).size⟩
    have hkW : KIn W k2 := hside.known hk3
    clear hbel hfar
    go_wp2_with fail
    exact bodyPost_ret (results_cell_row rfl _ _ (w.heap.size + 1 + 1) 25 (knA k2) (0, 0) _ rfl hW Tryz.underlying25 rfl (by kernel_rfl)) rfl ⟨k2, rfl, hk1, hk2.trans HU.out.symm, hkW, hqW⟩
end Go.Proofs.YtppnbdbigebhaaaGreatDoor.Known

namespace Go.Proofs.YtppnbdbigebhaaaGreatDoor.Known
open Go.RowKit Grp Mem _root_.Go.Proofs.YtppnbdbigebhaaaGreatDoor.Code Sha Sign _root_.Go.Proofs.YtppnbdbigebhaaaGreatDoor.Item

theorem ofNat_inj {n m : Nat} (hn : n < 256) (hm : m < 256) (h : UInt8.ofNat n = UInt8.ofNat m) : n = m := by
  have := congrArg UInt8.toNat h
  simp at this
  omega
/-- The text that is digested. -/
def setB (sv : List Int) (l : List ItemR) : ByteArray := ⟨(setL sv l).toArray⟩
end Go.Proofs.YtppnbdbigebhaaaGreatDoor.Known

namespace Go.Proofs.YtppnbdbigebhaaaGreatDoor.Known
open Go.RowKit Grp Mem _root_.Go.Proofs.YtppnbdbigebhaaaGreatDoor.Code Sha Sign _root_.Go.Proofs.YtppnbdbigebhaaaGreatDoor.Item

set_option maxRecDepth 100000 in
set_option maxHeartbeats 4000000 in
theorem rtext_any (k : KR) (w : World) (hK : KIn w k) (hO : KOk k) (hn : k.l.length ≤ 100000) (hsn : k.sv.length ≤ 1000000) : Calls Tryz.prog 57 #[.agg (knA k)] w fun e w' => e = .returned (.string (setB k.sv k.l)) ∧ Q w w' := by
  obtain ⟨w1, x, hx, hq1, hbk⟩ := boxedB w 25 k.cells
  have hx : w.alloc (.cells (knA k) 25) = x.w := hx
  have cS : ∀ y : Wd w1, y.w.cell? ⟨w.heap.size, 0, none⟩ = some (.slice k.sA k.sv.length k.sC) := fun y => (y.blk hbk).cell 0
  have cI : ∀ y : Wd w1, y.w.cell? ⟨w.heap.size, 1, none⟩ = some (.slice k.iA k.l.length k.iC) := fun y => (y.blk hbk).cell 1
  have hKy : ∀ y : Wd w1, KIn y.w k := fun y => hK.q (Q.trans hq1 y.q)
  have HQ := Lib.hid hq1
  obtain ⟨i0, hi, hz0, hz1, hz2⟩ := info_parts str_info
  clear hbk hq1
  go_enter Tryz.func57, Tryz.ntmps57
  go_wp2_with fail
  go_loopw [3, 4] (fun a i wr => ∃ (j c : Nat) (A : Option Addr) (z : Wd w1), a = .slice A j c ∧ i = .int .i64 j ∧ wr = z.w ∧ j ≤ k.l.length ∧ j ≤ c ∧ c ≤ maxLen ∧ Owns z.w w1.heap.size 9 1 (.slice A j c) j ((digs (k.l.take j)).flatMap strC)) (fun _ i _ => k.l.length - (intOf i).toNat)
  case atStart => exact ⟨0, 0, none, x, rfl, rfl, rfl, Nat.zero_le _, Nat.zero_le _, Nat.zero_le _, Owns.nil_ _ _ _ _⟩
  case round =>
    obtain ⟨j, c, A, z, rfl, rfl, rfl, hj, hjc, hcm, hown⟩ := hrel
    by_cases hlt : j < k.l.length
    · obtain ⟨b, o, eA, hb, hld⟩ := (hKy z).items.load j hlt
      have hio := fun y : Wd z.w => ((hKy z).items.each _ (List.getElem_mem hlt)).q y.q
      have hko := hO.items _ (List.getElem_mem hlt)
      rw [eA] at cI
      have hzs := z.q.size
      have HDS := Lib.hid (digs_snoc k.l j hlt)
      have hlt' : (j : Int) < (k.l.length : Int) := by omega
      generalize k.l[j] = it at *
      have hdg2 : ∀ y : Wd z.w, Calls Tryz.prog 53 #[.agg (itA it)] y.w fun e w' => e = .returned (.string (digOf it)) ∧ Q y.w w' := fun y => rdigest_any it y.w (hio y) hko
      have hownW : ∀ y : Wd z.w, Owns y.w w1.heap.size 9 1 (.slice A j c) j ((digs (k.l.take j)).flatMap strC) := fun y => hown.q y.q
      have HQ3 := Lib.hid z.q
      have hcI : ∀ y : Wd z.w, y.w.cell? ⟨w.heap.size, 1, none⟩ = some (.slice (some ⟨b, o, none⟩) k.l.length k.iC) := fun y => cI ⟨y.w, Q.trans z.q y.q⟩
      obtain ⟨v, hv⟩ := Wd.first z.w
      rw [hv]
      clear hv hio hown cI cS hKy
      generalize digOf it = d2 at *
      go_upto_region 5 with (fail)
      refine wp_region_lit ?_
      go_wp2_with (first | (refine wpList_index_rows 23 54 (.tmp 14) (.tmp 15) b o k.l.length k.iC j 49 rfl rfl rfl rfl Tryz.underlying23 (by kernel_rfl) Tryz.sizeOf54 hlt ?_) | (refine wpList_load_run 54 (.tmp 16) (.pointer (some ⟨b, o + j * 49, none⟩)) (.agg (itA it)) ?_ ?_ ?_ ?_ ?_; rfl; rfl; rfl; exact hld ⟨_, Wd.q _⟩) | (go_at_call 53; refine (hdg2 _).mono ?_; rintro e w' ⟨rfl, hq2⟩; obtain ⟨y, rfl⟩ := Wd.next _ hq2; clear hq2) | (at_builtin; refine wpList_append_rows str_len str_one rfl (.tmp 12) (.tmp 19) 43 9 i0 _ 16 rfl Tryz.underlying43 hi hz0 hz1 hz2 rfl (by decide) (by decide) w1.heap.size (.slice A j c) j (digs (k.l.take j)) rfl ((hownW y).alloc (.cells #[.string d2] 9)) (some ⟨y.w.heap.size, 0, none⟩) 1 1 [d2] rfl (RowsAt.one y.w 9 d2 _ rfl) rfl (by omega) (by have := y.q.size; simp; omega) ?_))
      intro A' c' w5 hc5 hm5 hown5 hg5
      have hq5 : Q w1 w5 := q_grown (Q.trans (Q.trans HQ3.out y.q) (q_new _ _ _)) (Nat.le_refl _) ((hownW y).alloc _) hg5
      obtain ⟨y5, rfl⟩ : ∃ y5 : Wd w1, w5 = y5.w := ⟨⟨w5, hq5⟩, rfl⟩
      have e5 : List.flatMap strC (digs (List.take j k.l)) ++ strC d2 = (digs (k.l.take (j + 1))).flatMap strC := by
        rw [HDS.out, List.flatMap_append, List.flatMap_cons, List.flatMap_nil, List.append_nil]
      rw [e5] at hown5
      clear e5 hownW hg5 hq5 hdg2 hld
      go_wp2_with fail
      exact ⟨⟨j + 1, c', A', y5, rfl, by go_num, rfl, by omega, hc5, hm5, hown5⟩, by simp only [intOf]; omega⟩
    · have hjn : j = k.l.length := by omega
      rw [hjn, List.take_length] at hown
      have hdl := digs_len k.l
      rw [← hdl] at hown
      have hSt := strs_of (Owns.rows str_len hown rfl)
      have hStz : ∀ y : Wd z.w, Strs y.w A (digs k.l) := fun y => hSt.q y.q
      have cSz : ∀ y : Wd z.w, y.w.cell? ⟨w.heap.size, 0, none⟩ = some (.slice k.sA k.sv.length k.sC) := fun y => cS ⟨y.w, Q.trans z.q y.q⟩
      have cIz : ∀ y : Wd z.w, y.w.cell? ⟨w.heap.size, 1, none⟩ = some (.slice k.iA k.l.length k.iC) := fun y => cI ⟨y.w, Q.trans z.q y.q⟩
      have hSv : ∀ y : Wd z.w, Ints y.w k.sA k.sv := fun y => (hKy ⟨y.w, Q.trans z.q y.q⟩).sv
      have hll := listL_le (digs k.l) 32 (fun s hs => by obtain ⟨x, _, rfl⟩ := List.mem_map.1 hs; exact dig_le x)
      have hll2 : (listL (digs k.l)).length ≤ 10 + 100000 * 42 := by
        have := Nat.mul_le_mul_right 42 (show (digs k.l).length ≤ 100000 by omega)
        omega
      have hnb : (numsB k.sv).size ≤ 10 + 10000000 := by
        unfold numsB
        rw [ba_size, ← numsL_upto]
        have := uptoN_bd k.sv k.sv.length (Nat.le_refl _)
        omega
      have hlB : (listB (digs k.l)).size ≤ 10 + 100000 * 42 := by rw [listB_size]; exact hll2
      have hsum : (numsB k.sv).size + (listB (digs k.l)).size ≤ 9223372036854775807 := by omega
      have HS := Lib.hid (show numsB k.sv ++ listB (digs k.l) = setB k.sv k.l by
        unfold setB setL numsB listB
        apply ba_ext
        rw [ba_append, ba_list, ba_list, ba_list])
      have hdn : (digs k.l).length ≤ 140737488355327 := by omega
      have hlm : (listL (digs k.l)).length ≤ 140737488355327 := by omega
      have hList : ∀ y : Wd z.w, Calls Tryz.prog 96 #[.slice A k.l.length c] y.w fun e w' => e = .returned (.string (listB (digs k.l))) ∧ Q y.w w' := fun y => by
        have := RList_any A c (digs k.l) y.w (hStz y) hlm hdn
        rwa [hdl] at this
      have hNums : ∀ y : Wd z.w, Calls Tryz.prog 95 #[.slice k.sA k.sv.length k.sC] y.w fun e w' => e = .returned (.string (numsB k.sv)) ∧ Q y.w w' := fun y => RNums_any _ _ _ _ (hSv y) hsn
      generalize listB (digs k.l) = LB at *
      generalize numsB k.sv = NB at *
      obtain ⟨z0, hz0'⟩ := Wd.first z.w
      rw [hz0']
      clear hown hSt hz0' hll cS cI hlt hll2 hlm hdn hStz hSv hdl
      subst hjn
      go_wp2_with (first | (go_at_call 95; refine (hNums _).mono ?_; rintro e w' ⟨rfl, hq2⟩; obtain ⟨y, rfl⟩ := Wd.next _ hq2; clear hq2) | (go_at_call 96; refine (hList _).mono ?_; rintro e w' ⟨rfl, hq2⟩; obtain ⟨y, rfl⟩ := Wd.next _ hq2; clear hq2))
      go_ret
      exact ⟨by rw [← HS.out]; rfl, Q.trans (Q.trans HQ.out z.q) (Wd.q _)⟩
end Go.Proofs.YtppnbdbigebhaaaGreatDoor.Known

namespace Go.Proofs.YtppnbdbigebhaaaGreatDoor.Known
open Go.RowKit Grp Mem _root_.Go.Proofs.YtppnbdbigebhaaaGreatDoor.Code Sha Sign _root_.Go.Proofs.YtppnbdbigebhaaaGreatDoor.Item

def lightB (x : ItemR) : Bool := decide (x.act.to.length ≤ 100) && (decide (x.act.wraps.length ≤ 100) && (decide (x.dec.to.length ≤ 100) && (decide (x.act.text.size ≤ 10000) && decide (x.dec.text.size ≤ 10000))))
def fewB (k : KR) : Bool := decide (k.l.length ≤ 20) && (decide (k.sv.length ≤ 30) && k.l.all lightB)
theorem few_facts {k : KR} (h : fewB k = true) : k.l.length ≤ 20 ∧ k.sv.length ≤ 30 := by
  unfold fewB at h
  simp only [Bool.and_eq_true, decide_eq_true_eq] at h
  exact ⟨h.1, h.2.1⟩
set_option maxRecDepth 100000 in
set_option maxHeartbeats 4000000 in
theorem light_any (x : ItemR) (w : World) : Calls Tryz.prog 42 #[.agg (itA x)] w fun e w' => e = .returned (.bool (lightB x)) ∧ Q w w' := by
  obtain ⟨w1, y, hx, hq1, hl, hr⟩ := boxed w 54 x.cells
  have hx : w.alloc (.cells (itA x) 54) = y.w := hx
  have c10 := Wd.at0 hl hr 10 rfl
  have c11 := Wd.at0 hl hr 11 rfl
  have c16 := Wd.at0 hl hr 16 rfl
  have c42 := Wd.at0 hl hr 42 rfl
  have c43 := Wd.at0 hl hr 43 rfl
  clear hl hr
  go_enter Tryz.func42, Tryz.ntmps42
  go_wp2
  all_goals
    go_ret
    refine ⟨?_, Q.trans hq1 y.q⟩
    clear c10 c11 c16 c42 c43 hx
    refine congrArg (fun b => Ending.returned (.bool b)) ?_
    unfold lightB
    rw [Bool.eq_iff_iff]
    simp
    omega
set_option maxRecDepth 100000 in
set_option maxHeartbeats 4000000 in
theorem few_any (k : KR) (w : World) (hK : KIn w k) : Calls Tryz.prog 8 #[.agg (knA k)] w fun e w' => e = .returned (.bool (fewB k)) ∧ Q w w' := by
  obtain ⟨w1, x, hx, hq1, hbk⟩ := boxedB w 25 k.cells
  have hx : w.alloc (.cells (knA k) 25) = x.w := hx
  have cS : ∀ y : Wd w1, y.w.cell? ⟨w.heap.size, 0, none⟩ = some (.slice k.sA k.sv.length k.sC) := fun y => (y.blk hbk).cell 0
  have cI : ∀ y : Wd w1, y.w.cell? ⟨w.heap.size, 1, none⟩ = some (.slice k.iA k.l.length k.iC) := fun y => (y.blk hbk).cell 1
  have hKy : ∀ y : Wd w1, KIn y.w k := fun y => hK.q (Q.trans hq1 y.q)
  have hlb : k.l.length ≤ 9223372036854775807 := by have h8 := hK.lC.1; have h9 := hK.lC.2; simp only [maxLen] at h9; omega
  have hsb : k.sv.length ≤ 9223372036854775807 := by have h8 := hK.svC.1; have h9 := hK.svC.2; simp only [maxLen] at h9; omega
  have HQ := Lib.hid hq1
  clear hbk hq1
  by_cases h1 : 20 < k.l.length
  · have HR := Lib.hid (show fewB k = false by unfold fewB; rw [decide_eq_false (by omega)]; rfl)
    go_enter Tryz.func8, Tryz.ntmps8
    go_wp2_with fail
    go_ret
    exact ⟨by rw [HR.out]; rfl, Q.trans HQ.out x.q⟩
  by_cases h2 : 30 < k.sv.length
  · have HR := Lib.hid (show fewB k = false by unfold fewB; rw [decide_eq_false (show ¬ k.sv.length ≤ 30 by omega)]; simp)
    go_enter Tryz.func8, Tryz.ntmps8
    go_wp2_with fail
    go_ret
    exact ⟨by rw [HR.out]; rfl, Q.trans HQ.out x.q⟩
  have HFE := Lib.hid (show fewB k = k.l.all lightB by unfold fewB; rw [decide_eq_true (show k.l.length ≤ 20 by omega), decide_eq_true (show k.sv.length ≤ 30 by omega)]; rfl)
  go_enter Tryz.func8, Tryz.ntmps8
  go_wp2_with fail
  go_loopw [3] (fun i wr => ∃ (j : Nat) (z : Wd w1), i = .int .i64 j ∧ wr = z.w ∧ j ≤ k.l.length ∧ Hid ((k.l.take j).all lightB = true)) (fun i _ => k.l.length - (intOf i).toNat)
  case atStart => exact ⟨0, x, rfl, rfl, Nat.zero_le _, Lib.hid rfl⟩
  case round =>
    obtain ⟨j, z, rfl, rfl, hj, hall⟩ := hrel
    by_cases hlt : j < k.l.length
    · obtain ⟨b, o, eA, hb, hld⟩ := (hKy z).items.load j hlt
      have hst := all_take_snoc k.l lightB j hlt
      rw [hall.out, Bool.true_and] at hst
      have HNO := Lib.hid (all_not k.l lightB j hlt)
      have HST := Lib.hid hst
      have hlt' : (j : Int) < (k.l.length : Int) := by omega
      have hcI : ∀ y : Wd z.w, y.w.cell? ⟨w.heap.size, 1, none⟩ = some (.slice (some ⟨b, o, none⟩) k.l.length k.iC) := fun y => eA ▸ cI ⟨y.w, Q.trans z.q y.q⟩
      have HQ3 := Lib.hid z.q
      clear hst hall eA
      generalize k.l[j] = it at *
      have hlg := fun y : Wd z.w => light_any it y.w
      obtain ⟨v, hv⟩ := Wd.first z.w
      rw [hv]
      clear hv cI cS hKy
      cases hL : lightB it
      all_goals
        rw [hL] at hlg
        go_upto_region 6 with (fail)
        refine wp_region_lit ?_
        go_wp2_with (first | (refine wpList_index_rows 23 54 (.tmp 22) (.tmp 23) b o k.l.length k.iC j 49 rfl rfl rfl rfl Tryz.underlying23 (by kernel_rfl) Tryz.sizeOf54 hlt ?_) | (refine wpList_load_run 54 (.tmp 24) (.pointer (some ⟨b, o + j * 49, none⟩)) (.agg (itA it)) ?_ ?_ ?_ ?_ ?_; rfl; rfl; rfl; exact hld _) | (go_at_call 42; refine (hlg _).mono ?_; rintro e w' ⟨rfl, hq2⟩; obtain ⟨y, rfl⟩ := Wd.next _ hq2; clear hq2))
      · go_ret
        exact ⟨by rw [HFE.out, HNO.out hL]; rfl, Q.trans HQ.out (Q.trans HQ3.out y.q)⟩
      · exact ⟨⟨j + 1, ⟨y.w, Q.trans HQ3.out y.q⟩, by go_num, rfl, by omega, Lib.hid (by rw [HST.out]; exact hL)⟩, by simp only [intOf]; omega⟩
    · have hjn : j = k.l.length := by omega
      have hall' := hall.out
      rw [hjn, List.take_length] at hall'
      have HR := Lib.hid hall'
      clear hjn hall'
      go_wp2_with fail
      go_ret
      exact ⟨by rw [HFE.out, HR.out]; rfl, Q.trans HQ.out z.q⟩

end Go.Proofs.YtppnbdbigebhaaaGreatDoor.Known

namespace Go.Proofs.YtppnbdbigebhaaaGreatDoor.Mem
open Go.RowKit Grp
section
variable {P : Program} {md : Region.Mode} {S : World → Prop}
/-! As held_one, held_pure and held_read, at operations with a guard that holds. -/
theorem held_oneW {K : Exit → Act → World → Prop} {l : List Oper} (k : Nat) {o : Oper} {f : Nat} {s : Array Bool} {a : Act} {w : World} (hi : l[k]? = some o) (hr : Region.ready md l.toArray s = [k]) (hg : Region.wanted o (yielded l.toArray a.tmps) = true)
    (h : ∀ K' : Act → World → Prop, (∀ a w, S w → wpAnyH P md l.toArray K S f (s.setIfInBounds k true) a w → K' a w) → o.wp P a w K' K) : wpAnyH P md l.toArray K S (f + 1) s a w := by
  refine wpAnyH_ready hr (by simp) (AllReadyH.cons (by simpa using hi) (fun K' hK => ?_) AllReadyH.nil)
  rw [if_pos hg]
  exact h K' fun a w hS hW => hK.out a w hS fun _ => hW
theorem held_pureW {K : Exit → Act → World → Prop} {l : List Oper} (k : Nat) {o : Oper} {v : Value} {f : Nat} {s : Array Bool} {a : Act} {w : World} (hi : l[k]? = some o) (hsel : Region.noSelect l.toArray = true) (hf : Region.free md l.toArray s k = true) (hr : (Region.ready md l.toArray s).contains k = true)
    (hQ : ∀ c (a : Act) d v w, K (.panic c) (Act.put a d v) w → K (.panic c) a w) (hg : Region.wanted o (yielded l.toArray a.tmps) = true) (hS : S w) (hv : ∀ w, (execOp a.eval o).run P w = .ok (.value v) w) (h : wpAnyH P md l.toArray K S f (s.setIfInBounds k true) (a.put o.dst v) w) : wpAnyH P md l.toArray K S (f + 1) s a w :=
  wpAnyH_take (by simpa using hi) hsel hf hr (fun c a w => hQ c a o.dst v w) (Or.inl ⟨hg, fun w _ => hv w⟩) hS h
theorem held_readW {K : Exit → Act → World → Prop} {l : List Oper} (k : Nat) {o : Oper} {v : Value} {f : Nat} {s : Array Bool} {a : Act} {w : World} (hi : l[k]? = some o) (hsel : Region.noSelect l.toArray = true) (hf : Region.free md l.toArray s k = true) (hr : (Region.ready md l.toArray s).contains k = true)
    (hQ : ∀ c (a : Act) d v w, K (.panic c) (Act.put a d v) w → K (.panic c) a w) (hg : Region.wanted o (yielded l.toArray a.tmps) = true) (hS : S w) (hv : ∀ z, S z → (execOp a.eval o).run P z = .ok (.value v) z) (h : wpAnyH P md l.toArray K S f (s.setIfInBounds k true) (a.put o.dst v) w) : wpAnyH P md l.toArray K S (f + 1) s a w :=
  wpAnyH_take (by simpa using hi) hsel hf hr (fun c a w => hQ c a o.dst v w) (Or.inl ⟨hg, hv⟩) hS h
end
end Go.Proofs.YtppnbdbigebhaaaGreatDoor.Mem

namespace Go.Proofs.YtppnbdbigebhaaaGreatDoor.Known
open Go.RowKit Grp Mem _root_.Go.Proofs.YtppnbdbigebhaaaGreatDoor.Code Sha Sign _root_.Go.Proofs.YtppnbdbigebhaaaGreatDoor.Item

theorem setB_sizeS (k : KR) (hn : k.l.length ≤ 100000) (hsn : k.sv.length ≤ 1000000) : (setB k.sv k.l).size ≤ 140737488355200 := by
  have hll := listL_le (digs k.l) 32 (fun s hs => by obtain ⟨x, _, rfl⟩ := List.mem_map.1 hs; exact dig_le x)
  have hdl := digs_len k.l
  have hll2 : (listL (digs k.l)).length ≤ 10 + 100000 * 42 := by
    have := Nat.mul_le_mul_right 42 (show (digs k.l).length ≤ 100000 by omega)
    omega
  have hnb := uptoN_bd k.sv k.sv.length (Nat.le_refl _)
  rw [numsL_upto] at hnb
  unfold setB setL
  rw [ba_size, List.length_append]
  omega
set_option maxRecDepth 100000 in
theorem rkdig_any (k : KR) (w : World) (hK : KIn w k) (hO : KOk k) (hn : k.l.length ≤ 100000) (hsn : k.sv.length ≤ 1000000) : Calls Tryz.prog 15 #[.agg (knA k)] w fun e w' => e = .returned (.string (setDig k.sv k.l)) ∧ Q w w' := by
  obtain ⟨w1, x, hx, hq1, hl1, hl2⟩ := boxed w 25 k.cells
  have hx : w.alloc (.cells (knA k) 25) = x.w := hx
  have hL : ∀ y : Wd w1, (Instr.loadAt 25 (.pointer (some ⟨w.heap.size, 0, none⟩))).run Tryz.prog y.w = .ok (.agg (knA k)) y.w := Wd.load hl1 hl2 Tryz.underlying25 rfl (by kernel_rfl)
  have hTx := fun y : Wd w1 => rtext_any k y.w (hK.q (Q.trans hq1 y.q)) hO hn hsn
  have hSh := fun y : Wd w1 => RSha_any (setB k.sv k.l) y.w (setB_sizeS k hn hsn)
  have HD := Lib.hid (show setDig k.sv k.l = sha (setB k.sv k.l) from rfl)
  have HQ := Lib.hid hq1
  clear hl1 hl2 hq1 hK hO
  generalize setB k.sv k.l = t at *
  go_enter Tryz.func15, Tryz.ntmps15
  go_wp2_with (first | (refine wpList_load_run 25 (.tmp 1) (.pointer (some ⟨w.heap.size, 0, none⟩)) (.agg (knA k)) ?_ ?_ ?_ ?_ ?_; rfl; rfl; rfl; exact hL _) | (go_at_call 57; refine (hTx _).mono ?_; rintro e w' ⟨rfl, hq2⟩; obtain ⟨y, rfl⟩ := Wd.next _ hq2; clear hq2) | (go_at_call 56; refine (hSh _).mono ?_; rintro e w' ⟨rfl, hq2⟩; obtain ⟨y2, rfl⟩ := Wd.next _ hq2; clear hq2))
  go_ret
  exact ⟨by rw [HD.out]; rfl, Q.trans HQ.out y2.q⟩
theorem exec_eql_bool (o : Oper) (a : Act) (w : World) (t t' : TypeId) (x y : Operand) (r : Bool) (ho : o.op = .binOp .eql t x y t') (hx : a.eval x = .bool r) (hy : a.eval y = .bool r) (hu : Tryz.prog.underlying t = some .bool) : (execOp a.eval o).run Tryz.prog w = .ok (.value (.bool true)) w := by
  have h := run_eql_bool (P := Tryz.prog) w t r r hu
  have hg : (eqGuard .eql t x y (.bool r) (.bool r)).run Tryz.prog w = .ok () w := by cases r <;> simp [eqGuard]
  rw [beq_self_eq_true] at h
  unfold execOp
  simp only [ho, hx, hy, Sem.run_bind, hg, h, Result.andThen_ok, Sem.run_pure]
theorem exec_eql_str (o : Oper) (a : Act) (w : World) (t t' : TypeId) (x y : Operand) (r : ByteArray) (ho : o.op = .binOp .eql t x y t') (hx : a.eval x = .string r) (hy : a.eval y = .string r) : (execOp a.eval o).run Tryz.prog w = .ok (.value (.bool true)) w := by
  have h := binOp_string_eql t r r
  have hg : (eqGuard .eql t x y (.string r) (.string r)).run Tryz.prog w = .ok () w := by simp [eqGuard]
  rw [beq_self_eq_true] at h
  unfold execOp
  simp only [ho, hx, hy, Sem.run_bind, hg, h, Result.andThen_ok, Sem.run_pure]
set_option maxRecDepth 100000 in
set_option maxHeartbeats 16000000 in
theorem merges_walk (a b : KR) (w : World) (hT : Tab w) (hA : KIn w a) (hB : KIn w b) (oa : KOk a) (ob : KOk b) : Calls Tryz.prog 3 #[.agg (knA a), .agg (knA b)] w fun e w' => e = .returned (.bool true) ∧ Q w w' := by
  obtain ⟨w1, x, hx, hq1, ⟨hA1, hA2⟩, hB1, hB2⟩ := boxed_two w 25 a.cells b.cells
  have hx : (w.alloc (.cells (knA a) 25)).alloc (.cells (knA b) 25) = x.w := hx
  have hLa : ∀ y : Wd w1, (Instr.loadAt 25 (.pointer (some ⟨w.heap.size, 0, none⟩))).run Tryz.prog y.w = .ok (.agg (knA a)) y.w := Wd.load hA1 hA2 Tryz.underlying25 rfl (by kernel_rfl)
  have hLb : ∀ y : Wd w1, (Instr.loadAt 25 (.pointer (some ⟨w.heap.size + 1, 0, none⟩))).run Tryz.prog y.w = .ok (.agg (knA b)) y.w := Wd.load hB1 hB2 Tryz.underlying25 rfl (by kernel_rfl)
  have hTy : ∀ z, Q w1 z → Tab z := fun z hz => hT.q (Q.trans hq1 hz)
  have hKa : ∀ z, Q w1 z → KIn z a := fun z hz => hA.q (Q.trans hq1 hz)
  have hKb : ∀ z, Q w1 z → KIn z b := fun z hz => hB.q (Q.trans hq1 hz)
  have hSm := fun y : Wd w1 => small_any y.w (hTy _ y.q)
  have hFa := fun y : Wd w1 => few_any a y.w (hKa _ y.q)
  have hFb := fun y : Wd w1 => few_any b y.w (hKb _ y.q)
  have HQ := Lib.hid hq1
  clear hA1 hA2 hB1 hB2 hq1 hA hB hT
  cases hfa : fewB a
  · rw [hfa] at hFa
    clear hKa hKb hTy hfa
    go_enter Tryz.func3, Tryz.ntmps3
    go_wp2_with (first | (go_at_call 7; refine (hSm _).mono ?_; rintro e w' ⟨rfl, hq2⟩; obtain ⟨y, rfl⟩ := Wd.next _ hq2; clear hq2) | (refine wpList_load_run 25 (.tmp 2) (.pointer (some ⟨w.heap.size, 0, none⟩)) (.agg (knA a)) ?_ ?_ ?_ ?_ ?_; rfl; rfl; rfl; exact hLa _) | (refine wpList_load_run 25 (.tmp 3) (.pointer (some ⟨w.heap.size + 1, 0, none⟩)) (.agg (knA b)) ?_ ?_ ?_ ?_ ?_; rfl; rfl; rfl; exact hLb _) | (go_at_call 8; (first | with_reducible refine (hFa _).mono ?_ | with_reducible refine (hFb _).mono ?_); rintro e w' ⟨rfl, hq2⟩; obtain ⟨y2, rfl⟩ := Wd.next _ hq2; clear hq2))
    go_ret
    exact ⟨rfl, Q.trans HQ.out y2.q⟩
  cases hfb : fewB b
  · rw [hfa] at hFa
    rw [hfb] at hFb
    clear hKa hKb hTy hfa hfb
    go_enter Tryz.func3, Tryz.ntmps3
    go_wp2_with (first | (go_at_call 7; refine (hSm _).mono ?_; rintro e w' ⟨rfl, hq2⟩; obtain ⟨y, rfl⟩ := Wd.next _ hq2; clear hq2) | (refine wpList_load_run 25 (.tmp 2) (.pointer (some ⟨w.heap.size, 0, none⟩)) (.agg (knA a)) ?_ ?_ ?_ ?_ ?_; rfl; rfl; rfl; exact hLa _) | (refine wpList_load_run 25 (.tmp 3) (.pointer (some ⟨w.heap.size + 1, 0, none⟩)) (.agg (knA b)) ?_ ?_ ?_ ?_ ?_; rfl; rfl; rfl; exact hLb _) | (go_at_call 8; (first | with_reducible refine (hFa _).mono ?_ | with_reducible refine (hFb _).mono ?_); rintro e w' ⟨rfl, hq2⟩; obtain ⟨y2, rfl⟩ := Wd.next _ hq2; clear hq2))
    go_ret
    exact ⟨rfl, Q.trans HQ.out y2.q⟩
  obtain ⟨na1, na2⟩ := few_facts hfa
  obtain ⟨nb1, nb2⟩ := few_facts hfb
  rw [hfa] at hFa
  rw [hfb] at hFb
  have hUn := fun z (hz : Q w1 z) => union_any a b z (hTy z hz) (hKa z hz) (hKb z hz) (by omega)
  have hRu := fun z (hz : Q w1 z) => runion_any a b z (hKa z hz) (hKb z hz) oa.items ob.items (by omega)
  have hSu := fun z (hz : Q w1 z) => sub_any a b z (hTy z hz) (hKa z hz) (hKb z hz)
  have hRs := fun z (hz : Q w1 z) => rsub_any a b z (hKa z hz) (hKb z hz) oa.items ob.items
  have hDg := fun z (hz : Q w1 z) => kdigest_any a z (hTy z hz) (hKa z hz) (by omega) (by omega)
  have hRd := fun z (hz : Q w1 z) => rkdig_any a z (hKa z hz) oa (by omega) (by omega)
  generalize subK a b = sb at *
  generalize setDig a.sv a.l = dg at *
  clear hKa hKb hTy hfa hfb oa ob
  go_enter Tryz.func3, Tryz.ntmps3
  go_upto_region 4 with (first | (go_at_call 7; refine (hSm _).mono ?_; rintro e w' ⟨rfl, hq2⟩; obtain ⟨y, rfl⟩ := Wd.next _ hq2; clear hq2) | (refine wpList_load_run 25 (.tmp 2) (.pointer (some ⟨w.heap.size, 0, none⟩)) (.agg (knA a)) ?_ ?_ ?_ ?_ ?_; rfl; rfl; rfl; exact hLa _) | (refine wpList_load_run 25 (.tmp 3) (.pointer (some ⟨w.heap.size + 1, 0, none⟩)) (.agg (knA b)) ?_ ?_ ?_ ?_ ?_; rfl; rfl; rfl; exact hLb _) | (go_at_call 8; (first | with_reducible refine (hFa _).mono ?_ | with_reducible refine (hFb _).mono ?_); rintro e w' ⟨rfl, hq2⟩; obtain ⟨y2, rfl⟩ := Wd.next _ hq2; clear hq2))
  have hLaz : ∀ z, Q w1 z → (Instr.loadAt 25 (.pointer (some ⟨w.heap.size, 0, none⟩))).run Tryz.prog z = .ok (.agg (knA a)) z := fun z hz => hLa ⟨z, hz⟩
  have hLbz : ∀ z, Q w1 z → (Instr.loadAt 25 (.pointer (some ⟨w.heap.size + 1, 0, none⟩))).run Tryz.prog z = .ok (.agg (knA b)) z := fun z hz => hLb ⟨z, hz⟩
  obtain ⟨W0, hW0⟩ : ∃ W0, y2.w = W0 := ⟨_, rfl⟩
  have g0 : Q w1 W0 := hW0 ▸ y2.q
  rw [hW0]
  clear hLa hLb hSm hFa hFb hW0 hx
  refine wp_region_H (fun z => Q W0 z) (by kernel_rfl) ?_
  have hz : Q W0 W0.drew := (Q.refl _).drew
  obtain ⟨z, hze⟩ : ∃ z, W0.drew = z := ⟨_, rfl⟩
  rw [hze] at hz
  rw [hze]
  clear hze
  refine held_pureW 0 (v := .bool true) rfl (by kernel_rfl) (by kernel_rfl) (by kernel_rfl) (by intro c a d v w h; cases d <;> exact h) rfl hz (fun w => by rfl) ?_
  try simp only [Act.put, List.setIfInBounds_toArray, List.set_cons_succ, List.set_cons_zero]
  refine held_pureW 1 (v := .bool true) rfl (by kernel_rfl) (by kernel_rfl) (by kernel_rfl) (by intro c a d v w h; cases d <;> exact h) rfl hz (fun w => by rfl) ?_
  try simp only [Act.put, List.setIfInBounds_toArray, List.set_cons_succ, List.set_cons_zero]
  refine held_readW 2 (v := .agg (knA a)) rfl (by kernel_rfl) (by kernel_rfl) (by kernel_rfl) (by intro c a d v w h; cases d <;> exact h) rfl hz (fun z hz => exec_load 25 (.tmp 2) _ _ rfl rfl (hLaz z (Q.trans g0 hz))) ?_
  try simp only [Act.put, List.setIfInBounds_toArray, List.set_cons_succ, List.set_cons_zero]
  refine held_readW 3 (v := .agg (knA b)) rfl (by kernel_rfl) (by kernel_rfl) (by kernel_rfl) (by intro c a d v w h; cases d <;> exact h) rfl hz (fun z hz => exec_load 25 (.tmp 3) _ _ rfl rfl (hLbz z (Q.trans g0 hz))) ?_
  try simp only [Act.put, List.setIfInBounds_toArray, List.set_cons_succ, List.set_cons_zero]
  refine held_readW 5 (v := .agg (knA a)) rfl (by kernel_rfl) (by kernel_rfl) (by kernel_rfl) (by intro c a d v w h; cases d <;> exact h) rfl hz (fun z hz => exec_load 25 (.tmp 2) _ _ rfl rfl (hLaz z (Q.trans g0 hz))) ?_
  try simp only [Act.put, List.setIfInBounds_toArray, List.set_cons_succ, List.set_cons_zero]
  refine held_readW 6 (v := .agg (knA b)) rfl (by kernel_rfl) (by kernel_rfl) (by kernel_rfl) (by intro c a d v w h; cases d <;> exact h) rfl hz (fun z hz => exec_load 25 (.tmp 3) _ _ rfl rfl (hLbz z (Q.trans g0 hz))) ?_
  try simp only [Act.put, List.setIfInBounds_toArray, List.set_cons_succ, List.set_cons_zero]
  refine held_oneW 4 rfl (by kernel_rfl) rfl (fun K' hK' => ?_)
  go_simp
  refine (hUn _ (Q.trans g0 hz)).mono ?_
  rintro e z1 ⟨k1, rfl, s1, l1, i1, q2⟩
  replace hz := Q.trans hz q2
  refine hK' _ _ hz ?_
  clear hK' K'
  try simp only [Act.put, List.setIfInBounds_toArray, List.set_cons_succ, List.set_cons_zero]
  refine held_oneW 7 rfl (by kernel_rfl) rfl (fun K' hK' => ?_)
  go_simp
  refine (hRu _ (Q.trans g0 hz)).mono ?_
  rintro e z2 ⟨k2, rfl, s2, l2, i2, q2⟩
  replace hz := Q.trans hz q2
  refine hK' _ _ hz ?_
  clear hK' K'
  try simp only [Act.put, List.setIfInBounds_toArray, List.set_cons_succ, List.set_cons_zero]
  replace i1 := i1.q q2
  have hSm := rknSame_any k1 k2 z2 i1 i2 (l2.trans l1.symm) (s2.trans s1.symm)
  refine held_oneW 8 rfl (by kernel_rfl) rfl (fun K' hK' => ?_)
  go_simp
  refine (hSm).mono ?_
  rintro e z3 ⟨rfl, q2⟩
  replace hz := Q.trans hz q2
  refine hK' _ _ hz ?_
  clear hK' K'
  try simp only [Act.put, List.setIfInBounds_toArray, List.set_cons_succ, List.set_cons_zero]
  refine held_pureW 9 (v := .bool true) rfl (by kernel_rfl) (by kernel_rfl) (by kernel_rfl) (by intro c a d v w h; cases d <;> exact h) rfl hz (fun w => by rfl) ?_
  try simp only [Act.put, List.setIfInBounds_toArray, List.set_cons_succ, List.set_cons_zero]
  refine held_pureW 10 (v := .bool true) rfl (by kernel_rfl) (by kernel_rfl) (by kernel_rfl) (by intro c a d v w h; cases d <;> exact h) rfl hz (fun w => by rfl) ?_
  try simp only [Act.put, List.setIfInBounds_toArray, List.set_cons_succ, List.set_cons_zero]
  refine held_readW 11 (v := .agg (knA a)) rfl (by kernel_rfl) (by kernel_rfl) (by kernel_rfl) (by intro c a d v w h; cases d <;> exact h) rfl hz (fun z hz => exec_load 25 (.tmp 2) _ _ rfl rfl (hLaz z (Q.trans g0 hz))) ?_
  try simp only [Act.put, List.setIfInBounds_toArray, List.set_cons_succ, List.set_cons_zero]
  refine held_readW 12 (v := .agg (knA b)) rfl (by kernel_rfl) (by kernel_rfl) (by kernel_rfl) (by intro c a d v w h; cases d <;> exact h) rfl hz (fun z hz => exec_load 25 (.tmp 3) _ _ rfl rfl (hLbz z (Q.trans g0 hz))) ?_
  try simp only [Act.put, List.setIfInBounds_toArray, List.set_cons_succ, List.set_cons_zero]
  refine held_readW 14 (v := .agg (knA a)) rfl (by kernel_rfl) (by kernel_rfl) (by kernel_rfl) (by intro c a d v w h; cases d <;> exact h) rfl hz (fun z hz => exec_load 25 (.tmp 2) _ _ rfl rfl (hLaz z (Q.trans g0 hz))) ?_
  try simp only [Act.put, List.setIfInBounds_toArray, List.set_cons_succ, List.set_cons_zero]
  refine held_readW 15 (v := .agg (knA b)) rfl (by kernel_rfl) (by kernel_rfl) (by kernel_rfl) (by intro c a d v w h; cases d <;> exact h) rfl hz (fun z hz => exec_load 25 (.tmp 3) _ _ rfl rfl (hLbz z (Q.trans g0 hz))) ?_
  try simp only [Act.put, List.setIfInBounds_toArray, List.set_cons_succ, List.set_cons_zero]
  refine held_oneW 13 rfl (by kernel_rfl) rfl (fun K' hK' => ?_)
  go_simp
  refine (hSu _ (Q.trans g0 hz)).mono ?_
  rintro e z4 ⟨rfl, q2⟩
  replace hz := Q.trans hz q2
  refine hK' _ _ hz ?_
  clear hK' K'
  try simp only [Act.put, List.setIfInBounds_toArray, List.set_cons_succ, List.set_cons_zero]
  refine held_oneW 16 rfl (by kernel_rfl) rfl (fun K' hK' => ?_)
  go_simp
  refine (hRs _ (Q.trans g0 hz)).mono ?_
  rintro e z5 ⟨rfl, q2⟩
  replace hz := Q.trans hz q2
  refine hK' _ _ hz ?_
  clear hK' K'
  try simp only [Act.put, List.setIfInBounds_toArray, List.set_cons_succ, List.set_cons_zero]
  refine held_pureW 17 (v := .bool true) rfl (by kernel_rfl) (by kernel_rfl) (by kernel_rfl) (by intro c a d v w h; cases d <;> exact h) rfl hz (fun w => exec_eql_bool _ _ w 4 4 (.tmp 29) (.tmp 32) sb rfl rfl rfl Tryz.underlying4) ?_
  try simp only [Act.put, List.setIfInBounds_toArray, List.set_cons_succ, List.set_cons_zero]
  refine held_pureW 18 (v := .bool true) rfl (by kernel_rfl) (by kernel_rfl) (by kernel_rfl) (by intro c a d v w h; cases d <;> exact h) rfl hz (fun w => by rfl) ?_
  try simp only [Act.put, List.setIfInBounds_toArray, List.set_cons_succ, List.set_cons_zero]
  refine held_pureW 19 (v := .bool true) rfl (by kernel_rfl) (by kernel_rfl) (by kernel_rfl) (by intro c a d v w h; cases d <;> exact h) rfl hz (fun w => by rfl) ?_
  try simp only [Act.put, List.setIfInBounds_toArray, List.set_cons_succ, List.set_cons_zero]
  refine held_readW 20 (v := .agg (knA a)) rfl (by kernel_rfl) (by kernel_rfl) (by kernel_rfl) (by intro c a d v w h; cases d <;> exact h) rfl hz (fun z hz => exec_load 25 (.tmp 2) _ _ rfl rfl (hLaz z (Q.trans g0 hz))) ?_
  try simp only [Act.put, List.setIfInBounds_toArray, List.set_cons_succ, List.set_cons_zero]
  refine held_readW 22 (v := .agg (knA a)) rfl (by kernel_rfl) (by kernel_rfl) (by kernel_rfl) (by intro c a d v w h; cases d <;> exact h) rfl hz (fun z hz => exec_load 25 (.tmp 2) _ _ rfl rfl (hLaz z (Q.trans g0 hz))) ?_
  try simp only [Act.put, List.setIfInBounds_toArray, List.set_cons_succ, List.set_cons_zero]
  refine held_oneW 21 rfl (by kernel_rfl) rfl (fun K' hK' => ?_)
  go_simp
  refine (hDg _ (Q.trans g0 hz)).mono ?_
  rintro e z6 ⟨rfl, q2⟩
  replace hz := Q.trans hz q2
  refine hK' _ _ hz ?_
  clear hK' K'
  try simp only [Act.put, List.setIfInBounds_toArray, List.set_cons_succ, List.set_cons_zero]
  refine held_oneW 23 rfl (by kernel_rfl) rfl (fun K' hK' => ?_)
  go_simp
  refine (hRd _ (Q.trans g0 hz)).mono ?_
  rintro e z7 ⟨rfl, q2⟩
  replace hz := Q.trans hz q2
  refine hK' _ _ hz ?_
  clear hK' K'
  try simp only [Act.put, List.setIfInBounds_toArray, List.set_cons_succ, List.set_cons_zero]
  refine held_pureW 24 (v := .bool true) rfl (by kernel_rfl) (by kernel_rfl) (by kernel_rfl) (by intro c a d v w h; cases d <;> exact h) rfl hz (fun w => exec_eql_str _ _ w 9 9 (.tmp 37) (.tmp 39) dg rfl rfl rfl) ?_
  try simp only [Act.put, List.setIfInBounds_toArray, List.set_cons_succ, List.set_cons_zero]
  refine held_pureW 25 (v := .bool true) rfl (by kernel_rfl) (by kernel_rfl) (by kernel_rfl) (by intro c a d v w h; cases d <;> exact h) rfl hz (fun w => by rfl) ?_
  try simp only [Act.put, List.setIfInBounds_toArray, List.set_cons_succ, List.set_cons_zero]
  refine held_pureW 26 (v := .bool true) rfl (by kernel_rfl) (by kernel_rfl) (by kernel_rfl) (by intro c a d v w h; cases d <;> exact h) rfl hz (fun w => by rfl) ?_
  try simp only [Act.put, List.setIfInBounds_toArray, List.set_cons_succ, List.set_cons_zero]
  refine wpAnyH_done (by kernel_rfl) ?_ _
  go_wp2_with fail
  go_ret
  exact ⟨rfl, Q.trans HQ.out (Q.trans g0 hz)⟩
end Go.Proofs.YtppnbdbigebhaaaGreatDoor.Known

namespace Go.Proofs.YtppnbdbigebhaaaGreatDoor.knownMerges
open Go.ChangeShapes Go.WideShapes Go.ChangeAt Go.RowKit
open Go.ChangeMaps (open_string)

theorem open_sl {α : Type} {H : Type} {enc : TypeId × Value → H} {P : Program} {W : World} {r : Reach} {b0 base : Nat} {held : Bool} {t e : TypeId} {k : Nat} {f : α → List Value} {G : α → Prop} {v : Value} {d : DataW H} {p : List MemPlace}
    (ht : P.underlying t = some (.slice e)) (hO : Mem.Opens enc P W base (fun _ => true) held t Mem.SliceR.cells (Mem.SliceR.Good W k f G)) (hval : Value.okWide P W r b0 t v) (h : DataW.Trod enc P W base (fun _ => true) held t v d p) :
    ∃ (A : Option Addr) (c : Nat) (l : List α), v = .slice A l.length c ∧ l.length ≤ c ∧ c ≤ maxLen ∧ Mem.RowsAt W A k f l ∧ ∀ a ∈ l, G a := by
  obtain ⟨A, n, c, rfl⟩ := okWide_slice ht hval
  obtain ⟨fuel, hf⟩ := h
  obtain ⟨s, hs, hg⟩ := hO fuel _ _ hf
  simp [Value.cells, Mem.SliceR.cells] at hs
  obtain ⟨rfl, rfl, rfl⟩ := hs
  exact ⟨s.A, s.c, s.l, rfl, hg.le, hg.cap, hg.rows, hg.all⟩

theorem laid_met (os : Os) : laidMet Tryz.prog Rows.knownMergesRow.laid ((Laid.laidWorld os #[.agg #[.slice none 0 0, .slice none 0 0], .agg #[.slice none 0 0, .slice none 0 0]]).forCall (fun _ _ => 0) ⟨#[], #[.agg #[.slice none 0 0, .slice none 0 0], .agg #[.slice none 0 0, .slice none 0 0]], []⟩).memory :=
  laidMet_of_run' 8 (by kernel_rfl) (by kernel_rfl)
theorem reads (os : Os) {H : Type} (enc : TypeId × Value → H) : ∃ places, DataW.whole enc Tryz.prog ((Laid.laidWorld os #[.agg #[.slice none 0 0, .slice none 0 0], .agg #[.slice none 0 0, .slice none 0 0]]).forCall (fun _ _ => 0) ⟨#[], #[.agg #[.slice none 0 0, .slice none 0 0], .agg #[.slice none 0 0, .slice none 0 0]], []⟩).memory Tryz.f3.params.toList Rows.knownMergesSpec.vars false #[Value.agg #[.slice none 0 0, .slice none 0 0], .agg #[.slice none 0 0, .slice none 0 0]].toList 8 = some ([.agg [.nil, .nil], .agg [.nil, .nil]], [], places) :=
  ⟨[], by kernel_rfl⟩

set_option maxRecDepth 100000 in
theorem contract (H : Type) (enc : TypeId × Value → H) (W : World) (base : Nat) (args : Array Value) (ds gs : List (DataW H)) (before : List MemPlace)
    (hval : ∀ (j : Nat) t v, Tryz.f3.params[j]? = some t → args[j]? = some v → Value.okWide Tryz.prog W .any base t v)
    (hW : DataW.Whole enc Tryz.prog Tryz.f3.params.toList Rows.knownMergesSpec.vars false W args.toList ds gs before) (hL : laidMetH Tryz.prog Rows.knownMergesRow.laid W) :
    Calls Tryz.prog 3 args W fun e W' => ∃ v, e = .returned v ∧ Rows.knownMergesSpec.post enc Tryz.prog Tryz.f3 false true false false W args v W' := by
  have hW' := hW
  obtain ⟨p, q, hA0, hV, rfl, hfz, hnd⟩ := hW
  have hA : DataW.TrodAll enc Tryz.prog W 0 (fun _ => true) true Tryz.f3.params.toList args.toList ds p := hA0
  rw [Tryz.params3] at hA hval
  obtain ⟨v0, vs0, d0, ds0, p0, q0, hargs, rfl, rfl, h0, r0⟩ := trodAll_cons hA
  obtain ⟨v1, vs1, d1, ds1, p1, q1, rfl, rfl, rfl, h1, r1⟩ := trodAll_cons r0
  obtain ⟨rfl, rfl, rfl⟩ := trodAll_nil r1
  obtain rfl : args = #[v0, v1] := by cases args; simp_all
  obtain ⟨rfl, rfl⟩ := trodVars_none hV
  obtain ⟨k0, rfl, in0, ok0⟩ := Known.open_kn (hval 0 25 v0 rfl rfl) h0
  obtain ⟨k1, rfl, in1, ok1⟩ := Known.open_kn (hval 1 25 v1 rfl rfl) h1
  clear hA0
  refine (Known.merges_walk k0 k1 W (Laid.tab hL) in0 in1 ok0 ok1).mono fun e W' ⟨he, hg⟩ => ?_
  subst he
  exact ⟨_, rfl, Post.law_post (tb := 4) Laid.laidOut (by kernel_rfl) (by kernel_rfl) (by kernel_rfl) (by kernel_rfl) Tryz.underlying4 hW' rfl rfl rfl hg⟩

set_option maxRecDepth 100000 in
theorem lifted (os : Os) (started : os.Started) (H : Type) (enc : TypeId × Value → H) (F : Stop.Interp) :
    ReturnsInHanded {} Tryz.checked os 3 .any ((OpenSpec.ofChange Rows.knownMergesSpec).preRow enc Tryz.prog Tryz.f3 Rows.knownMergesRow.domain false Rows.knownMergesRow.laid) (((OpenSpec.ofChange Rows.knownMergesSpec).at F).post enc Tryz.prog Tryz.f3 false true false false) := by
  obtain ⟨places, hx⟩ := reads os enc
  refine returnsInHanded_of_row (C := Tryz.checked) (s := OpenSpec.ofChange Rows.knownMergesSpec) Laid.own started (by kernel_rfl) Tryz.func3
    (witness_row_at (enc := enc) (C := Tryz.checked) false (Laid.laidWorld os #[.agg #[.slice none 0 0, .slice none 0 0], .agg #[.slice none 0 0, .slice none 0 0]]) #[.agg #[.slice none 0 0, .slice none 0 0], .agg #[.slice none 0 0, .slice none 0 0]] rfl (by kernel_rfl) (by kernel_rfl) (by kernel_rfl)
      (OpenSpec.preRow_of_cond 8 hx (by kernel_rfl) (fun k hk => by cases hk) (by kernel_rfl) (laid_met os))) ?_
  intro W base args ds gs before hval hW _ _ _ hL _ _
  exact contract H enc W base args ds gs before hval hW hL

theorem c10 : (Rows.knownMergesRow.inPlace == Tryz.prog.inPlace 3) = true := by kernel_rfl
theorem c11 : (Rows.knownMergesRow.unfollowed == Tryz.prog.unfollowed 3) = true := by kernel_rfl
theorem c12 : (Rows.knownMergesRow.recurses == Tryz.prog.recurses 3) = true := by kernel_rfl
theorem c13 : (Rows.knownMergesRow.named == Tryz.prog.varsNamed 3) = true := by kernel_rfl
theorem closed : joinedFacts Tryz.prog 3 Tryz.f3 (OpenSpec.ofChange Rows.knownMergesSpec).bare Rows.knownMergesRow = true := by
  unfold joinedFacts
  rw [c10, c11, c12, c13]
  kernel_rfl
set_option maxRecDepth 100000 in
theorem said : Rows.KnownMergesSaid :=
  OpenClaim.holds_of_cond 3 Tryz.f3 rfl rfl rfl rfl rfl rfl rfl ⟨rfl, rfl, rfl, rfl, rfl⟩ rfl rfl rfl rfl rfl (by kernel_rfl) Tryz.func3 closed
    (of_decide_eq_true (by kernel_rfl)) (by unfold Func.isWrapper; first | (rw [if_pos (by decide +kernel)]; kernel_rfl) | (rw [if_neg (by decide +kernel)]; exact ⟨rfl, rfl⟩))
    (fun os started H enc _ F => by rw [OpenClaim.pre_eq_preRow]; exact lifted os started H enc F)

theorem plain (f : FuncId) (fn : Func) (hf : Tryz.pinned.checked.prog.funcNamed "agora/agoralaw14.KnownMerges" = some f) (hfn : Tryz.pinned.checked.prog.funcs[f]? = some fn) :
    false = Tryz.pinned.checked.prog.looks [] ∧ ∀ (j : Nat) t, fn.params[j]? = some t → Tryz.pinned.checked.prog.wantsStandIn t = false := by
  obtain rfl : f = 3 := Option.some.inj ((show Tryz.prog.funcNamed "agora/agoralaw14.KnownMerges" = some 3 by kernel_rfl).symm.trans hf) |>.symm
  obtain rfl : fn = Tryz.f3 := (Option.some.inj (Tryz.func3.symm.trans hfn)).symm
  refine ⟨by kernel_rfl, fun j t ht => ?_⟩
  rw [Tryz.params3] at ht
  have hm := Array.mem_of_getElem? ht
  have hall : (#[25, 25] : Array TypeId).all (fun t => !Tryz.prog.wantsStandIn t) = true := by kernel_rfl
  have hb := (Array.all_eq_true_iff_forall_mem.mp hall) t hm
  show Tryz.prog.wantsStandIn t = false
  simpa using hb

theorem proved : Rows.KnownMergesCardSaid :=
  Claim7.holds_tied_plain_at .later [] _ _ _ _ said (fun _ h => by cases h) (by kernel_rfl) (fun _ h => by cases h) knownMerges_row_tie rfl ⟨rfl, rfl⟩ (by kernel_rfl) rfl plain (by kernel_rfl)
#print axioms proved
end Go.Proofs.YtppnbdbigebhaaaGreatDoor.knownMerges
