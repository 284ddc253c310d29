/-
  The contract of package sum's Num.
-/
import Derived.Test.YtjfcllanochhmaaGreatDoorShaSpec
import Derived.Test.YtjfcllanochhmaaGreatDoorGrpBase
set_option linter.unusedVariables false
set_option linter.unusedSimpArgs false
namespace Go.Proofs.YtjfcllanochhmaaGreatDoor.Sha
open Go.RowKit Grp

/-- The integer of the first k bytes, most significant first. -/
def acc (s : ByteArray) : Nat → Int
  | 0 => 0
  | k + 1 => acc s k * 256 + byteAt s k
def numOf (s : ByteArray) : Int := acc s 8 / 8
theorem acc_bd (s : ByteArray) : ∀ k, 0 ≤ acc s k ∧ acc s k < ((256 ^ k : Nat) : Int) := by
  intro k
  induction k with
  | zero => exact ⟨Int.le_refl _, by rw [acc, Nat.pow_zero]; decide⟩
  | succ k ih =>
    have hb := byteAt_bd s k
    rw [acc, Nat.pow_succ]
    omega
theorem acc_bd8 (s : ByteArray) (k : Nat) (h : k ≤ 7) : 0 ≤ acc s k ∧ acc s k ≤ 72057594037927935 := by
  have h1 := acc_bd s k
  have h2 : 256 ^ k ≤ 256 ^ 7 := Nat.pow_le_pow_right (by decide) h
  have h3 : 256 ^ 7 = 72057594037927936 := by decide
  omega
theorem numOf_bd (s : ByteArray) : 0 ≤ numOf s ∧ numOf s < 2305843009213693952 := by
  have h1 := acc_bd s 8
  have h3 : 256 ^ 8 = 18446744073709551616 := by decide
  unfold numOf
  omega
theorem byteAt_lt (s : ByteArray) (k : Nat) (h : k < s.size) : byteAt s k = (s[k].toNat : Int) := by
  unfold byteAt
  rw [List.getD_eq_getElem?_getD]
  have h2 : s.data.toList[k]? = some s[k] := by
    rw [Array.getElem?_toList]
    exact Array.getElem?_eq_getElem (by have : s.data.size = s.size := rfl; omega)
  rw [h2]
  rfl
theorem byteAt_ge (s : ByteArray) (k : Nat) (h : ¬ k < s.size) : byteAt s k = 0 := by
  unfold byteAt
  rw [List.getD_eq_getElem?_getD, List.getElem?_eq_none (by rw [Array.length_toList]; have : s.data.size = s.size := rfl; omega)]
  rfl
theorem or_byte (a b : Int) (ha : 0 ≤ a) (ha' : a ≤ 72057594037927935) (hb : 0 ≤ b) (hb' : b < 256) : bits .or .u64 (a * 256) (IntKind.u64.wrap b) = a * 256 + b := by
  rw [IntWalk.u64_in b ⟨hb, by omega⟩]
  obtain ⟨x, rfl⟩ := Int.eq_ofNat_of_zero_le ha
  obtain ⟨y, rfl⟩ := Int.eq_ofNat_of_zero_le hb
  have e1 : ((x : Int) * 256) = ((x * 256 : Nat) : Int) := by omega
  rw [e1, bits_or_u64_nat _ _ (by omega) (by omega)]
  have e3 : x * 256 ||| y = x * 256 + y := by
    have := Nat.two_pow_add_eq_or_of_lt (i := 8) (b := y) (by omega) x
    rw [Nat.mul_comm x 256]
    exact this.symm
  rw [e3]
  omega

set_option maxRecDepth 100000 in
set_option maxHeartbeats 1000000 in
theorem sumNum_any (s : ByteArray) (w : World) (hs : s.size ≤ 140737488355327) :
    Calls Tryz.prog 117 #[.string s] w fun e w' => e = .returned (.int .i64 (numOf s)) ∧ w = w' := by
  go_enter Tryz.func117, Tryz.ntmps117
  go_wp2_with fail
  go_loop [3, 5] (fun x i => ∃ k : Nat, k ≤ 8 ∧ i = .int .i64 k ∧ x = .int .u64 (acc s k)) (fun _ i => 8 - (intOf i).toNat)
  case atStart => exact ⟨0, by omega, rfl, rfl⟩
  case round =>
    obtain ⟨k, hk, rfl, rfl⟩ := hrel
    by_cases hlt : k < 8
    · obtain ⟨a0, a1⟩ := acc_bd8 s k (by omega)
      have hs1 : acc s (k + 1) = acc s k * 256 + byteAt s k := rfl
      have HS := Lib.hid hs1
      clear hs1
      by_cases hin : k < s.size
      · have hb := byteAt_lt s k hin
        have hbb := byteAt_bd s k
        rw [hb] at hbb
        have ho := or_byte (acc s k) (s[k].toNat : Int) a0 a1 hbb.1 hbb.2
        have HB := Lib.hid hb
        have HO := Lib.hid ho
        clear hb ho hbb
        generalize hx : acc s k = x at *
        clear hx
        go_wp2
        exact ⟨⟨k + 1, by omega, by go_num, by rw [HO.out, HS.out, HB.out]⟩, by simp only [intOf]; omega⟩
      · have hb := byteAt_ge s k hin
        have HB := Lib.hid hb
        clear hb
        generalize hx : acc s k = x at *
        clear hx
        go_wp2
        exact ⟨⟨k + 1, by omega, by go_num, by rw [HS.out, HB.out, Int.add_zero]⟩, by simp only [intOf]; omega⟩
    · obtain rfl : k = 8 := by omega
      have hb := acc_bd s 8
      rw [show ((256 ^ 8 : Nat) : Int) = 18446744073709551616 from rfl] at hb
      have HB := Lib.hid hb
      have h0 := hb.1
      clear hb
      have hn : numOf s = acc s 8 / 8 := rfl
      have hq0 : 0 ≤ acc s 8 / 8 := by omega
      have hq1 : acc s 8 / 8 ≤ 9223372036854775807 := by have := HB.out; omega
      go_wp2
      go_ret
      exact ⟨rfl, rfl⟩

end Go.Proofs.YtjfcllanochhmaaGreatDoor.Sha
