/-
  The contract of package agoraref03's Num.
-/
import Derived.Test.YtppbplchdfhnkaaDoorSumNum
set_option linter.unusedVariables false
set_option linter.unusedSimpArgs false
namespace Go.Proofs.YtppbplchdfhnkaaDoor.Sha
open Go.RowKit Grp

/-- What stands in n behind k rounds. -/
def accR (s : ByteArray) (k : Nat) : Int := if k < 8 then acc s k else numOf s
theorem acc_bd6 (s : ByteArray) (k : Nat) (h : k ≤ 6) : 0 ≤ acc s k ∧ acc s k ≤ 281474976710655 := by
  have h1 := acc_bd s k
  have h2 : 256 ^ k ≤ 256 ^ 6 := Nat.pow_le_pow_right (by decide) h
  have h3 : 256 ^ 6 = 281474976710656 := by decide
  omega
theorem accR_lo (s : ByteArray) (k : Nat) (h : k ≤ 7) : accR s k = acc s k := by unfold accR; rw [if_pos (by omega)]
theorem accR_end (s : ByteArray) : accR s 8 = 32 * acc s 7 + byteAt s 7 / 8 := by
  unfold accR numOf
  rw [if_neg (by decide), show acc s 8 = acc s 7 * 256 + byteAt s 7 from rfl]
  omega

set_option maxRecDepth 100000 in
set_option maxHeartbeats 1000000 in
theorem RsumNum_any (s : ByteArray) (w : World) (hs : s.size ≤ 140737488355327) :
    Calls Tryd.prog 73 #[.string s] w fun e w' => e = .returned (.int .i64 (numOf s)) ∧ w = w' := by
  go_enter Tryd.func73, Tryd.ntmps73
  go_wp2_with fail
  go_loop [3, 4] (fun x i => ∃ k : Nat, k ≤ 8 ∧ i = .int .i64 k ∧ x = .int .i64 (accR s k)) (fun _ i => 8 - (intOf i).toNat)
  case atStart => exact ⟨0, by omega, rfl, rfl⟩
  case round =>
    obtain ⟨k, hk, rfl, rfl⟩ := hrel
    by_cases hlt : k < 8
    · obtain ⟨a0, a1⟩ := acc_bd8 s k (by omega)
      have hbb := byteAt_bd s k
      rw [accR_lo s k (by omega)]
      by_cases hin : k < s.size
      · have hb := byteAt_lt s k hin
        rw [hb] at hbb
        obtain ⟨p0, p1⟩ := hbb
        by_cases h7 : k < 7
        · have hs1 : accR s (k + 1) = 256 * acc s k + (s[k].toNat : Int) := by
            rw [accR_lo s _ (by omega), ← hb, show acc s (k + 1) = acc s k * 256 + byteAt s k from rfl, Int.mul_comm]
          have HS := Lib.hid hs1
          have a6 := (acc_bd6 s k (by omega)).2
          clear hs1 hb a1
          generalize acc s k = x at *
          go_wp2
          exact ⟨⟨k + 1, by omega, by go_num, by rw [HS.out]⟩, by simp only [intOf]; omega⟩
        · obtain rfl : k = 7 := by omega
          have hs1 : accR s (7 + 1) = (32 : Int) * acc s 7 + (s[7].toNat : Int) / 8 := by rw [accR_end, hb]
          have HS := Lib.hid hs1
          clear hs1 hb
          generalize acc s 7 = x at *
          go_wp2
          exact ⟨⟨7 + 1, by omega, by go_num, by rw [HS.out]⟩, by simp only [intOf]; omega⟩
      · have hb := byteAt_ge s k hin
        by_cases h7 : k < 7
        · have hs1 : accR s (k + 1) = 256 * acc s k := by
            rw [accR_lo s _ (by omega), show acc s (k + 1) = acc s k * 256 + byteAt s k from rfl, hb, Int.mul_comm, Int.add_zero]
          have HS := Lib.hid hs1
          have a6 := (acc_bd6 s k (by omega)).2
          clear hs1 hb a1
          generalize acc s k = x at *
          go_wp2
          exact ⟨⟨k + 1, by omega, by go_num, by rw [HS.out]⟩, by simp only [intOf]; omega⟩
        · obtain rfl : k = 7 := by omega
          have hs1 : accR s (7 + 1) = (32 : Int) * acc s 7 := by rw [accR_end, hb]; omega
          have HS := Lib.hid hs1
          clear hs1 hb
          generalize acc s 7 = x at *
          go_wp2
          exact ⟨⟨7 + 1, by omega, by go_num, by rw [HS.out]⟩, by simp only [intOf]; omega⟩
    · obtain rfl : k = 8 := by omega
      go_wp2
      go_ret
      exact ⟨rfl, rfl⟩

end Go.Proofs.YtppbplchdfhnkaaDoor.Sha
