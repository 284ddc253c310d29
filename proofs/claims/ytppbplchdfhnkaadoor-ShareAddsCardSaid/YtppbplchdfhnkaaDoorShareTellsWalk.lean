/-
  The walk of agoralaw07.ShareTells.
-/
import Derived.Test.YtppbplchdfhnkaaDoorShareRef3
import Derived.Test.YtppbplchdfhnkaaDoorShareOpen
set_option linter.unusedVariables false
set_option linter.unusedSimpArgs false
namespace Go.Proofs.YtppbplchdfhnkaaDoor.Share
open Go.RowKit Grp Mem _root_.Go.Proofs.YtppbplchdfhnkaaDoor.Code Sha

/-- Whether a split is made; its shares. -/
def splitOk (s t n : Int) : Bool := !(decide (t < 1) || decide (n < t) || decide (64 < n) || decide (s < 0) || decide (2305843009213693951 ≤ s))
def splitI (s t n : Int) (seed : ByteArray) : List (Int × Int) := if splitOk s t n = true then splitL s seed t.toNat n.toNat else []
theorem splitOk_true {s t n : Int} (h : splitOk s t n = true) : 1 ≤ t ∧ t ≤ n ∧ n ≤ 64 ∧ 0 ≤ s ∧ s < 2305843009213693951 := by
  simp [splitOk] at h
  omega
theorem splitOk_false {s t n : Int} (h : splitOk s t n = false) : (decide (t < 1) || decide (n < t) || decide (64 < n) || decide (s < 0) || decide (2305843009213693951 ≤ s)) = true := by
  simp only [splitOk, Bool.not_eq_false'] at h
  exact h
theorem splitI_le (s t n : Int) (seed : ByteArray) : (splitI s t n seed).length ≤ 64 := by
  unfold splitI
  split
  · rename_i h
    have := splitOk_true h
    rw [splitL_length]
    omega
  · simp
theorem Split_any (s t n : Int) (seed : ByteArray) (w : World) (hT : Tab w) (hsd : seed.size ≤ 140737488355000) :
    Calls Tryd.prog 36 #[.int .i64 s, .int .i64 t, .int .i64 n, .string seed] w fun e w' => ∃ A c, e = .returned (.tuple #[.slice A (splitI s t n seed).length c, .bool (splitOk s t n)]) ∧ Shares w' A (splitI s t n seed) ∧ (splitI s t n seed).length ≤ c ∧ c ≤ maxLen ∧ Q w w' := by
  unfold splitI
  cases h : splitOk s t n with
  | false =>
    refine (Split_no s t n seed w (splitOk_false h)).mono fun e w' ⟨he, hq⟩ => ⟨none, 0, ?_, ?_, ?_, ?_, hq⟩
    · rw [he]; rfl
    · exact fun h => by simp at h
    · exact Nat.le_refl _
    · exact Nat.zero_le _
  | true =>
    obtain ⟨h1, h2, h3, h4, h5⟩ := splitOk_true h
    refine (Split_yes s t n seed w hT h1 h2 h3 h4 h5 hsd).mono fun e w' ⟨A, c, he, hown, hq⟩ => ?_
    obtain ⟨A', c', e', hc1, hc2⟩ := hown.shape
    injection e' with eA _ ec
    subst ec eA
    have hl := splitL_length s seed t.toNat n.toNat
    refine ⟨A, c, ?_, Shares.owns hown hl, ?_, hc2, hq⟩
    · rw [he]; simp [hl]
    · simp [hl]; omega
theorem RSplit_any (s t n : Int) (seed : ByteArray) (w : World) (hsd : seed.size ≤ 140737488355000) :
    Calls Tryd.prog 37 #[.int .i64 s, .int .i64 t, .int .i64 n, .string seed] w fun e w' => ∃ A c, e = .returned (.tuple #[.slice A (splitI s t n seed).length c, .bool (splitOk s t n)]) ∧ Shares w' A (splitI s t n seed) ∧ (splitI s t n seed).length ≤ c ∧ c ≤ maxLen ∧ Q w w' := by
  unfold splitI
  cases h : splitOk s t n with
  | false =>
    refine (RSplit_no s t n seed w (splitOk_false h)).mono fun e w' ⟨he, hq⟩ => ⟨none, 0, ?_, ?_, ?_, ?_, hq⟩
    · rw [he]; rfl
    · exact fun h => by simp at h
    · exact Nat.le_refl _
    · exact Nat.zero_le _
  | true =>
    obtain ⟨h1, h2, h3, h4, h5⟩ := splitOk_true h
    refine (RSplit_yes s t n seed w h1 h2 h3 h4 h5 hsd).mono fun e w' ⟨A, c, he, hown, hq⟩ => ?_
    obtain ⟨A', c', e', hc1, hc2⟩ := hown.shape
    injection e' with eA _ ec
    subst ec eA
    have hl := splitL_length s seed t.toNat n.toNat
    refine ⟨A, c, ?_, Shares.owns hown hl, ?_, hc2, hq⟩
    · rw [he]; simp [hl]
    · simp [hl]; omega
theorem Join_at (A : Option Addr) (n c : Nat) (l : List (Int × Int)) (t v : Int) (r : Bool) (w : World) (hn : l.length = n) (hj : joinI l t = (v, r)) (hS : Shares w A l) (hlc : n ≤ c) (hcm : c ≤ maxLen) (h : n ≤ 1000000) :
    Calls Tryd.prog 39 #[.slice A n c, .int .i64 t] w fun e w' => e = .returned (.tuple #[.int .i64 v, .bool r]) ∧ Q w w' := by
  subst hn
  have := Join_any A c l t w hS hlc hcm h
  rw [hj] at this
  exact this
theorem RJoin_at (A : Option Addr) (n c : Nat) (l : List (Int × Int)) (t v : Int) (r : Bool) (w : World) (hn : l.length = n) (hj : joinI l t = (v, r)) (hS : Shares w A l) (hlc : n ≤ c) (hcm : c ≤ maxLen) (h : n ≤ 1000000) :
    Calls Tryd.prog 40 #[.slice A n c, .int .i64 t] w fun e w' => e = .returned (.tuple #[.int .i64 v, .bool r]) ∧ Q w w' := by
  subst hn
  have := RJoin_any A c l t w hS hlc hcm h
  rw [hj] at this
  exact this
theorem RFits_at (A : Option Addr) (n c : Nat) (l : List (Int × Int)) (t : Int) (r : Bool) (w : World) (hn : l.length = n) (hf : fitsI l t = r) (hS : Shares w A l) (hlc : n ≤ c) (hcm : c ≤ maxLen) (h : n ≤ 1000000) (ht : t ≤ 9223372036854775807) :
    Calls Tryd.prog 42 #[.slice A n c, .int .i64 t] w fun e w' => e = .returned (.bool r) ∧ Q w w' := by
  subst hn hf
  exact RFits_any A c l t w hS hlc hcm h ht

set_option maxRecDepth 100000 in
set_option maxHeartbeats 4000000 in
theorem tells_core (s t n : Int) (seed : ByteArray) (A : Option Addr) (c : Nat) (l : List (Int × Int)) (w : World) (hT : Tab w) (hS : Shares w A l) (hlc : l.length ≤ c) (hcm : c ≤ maxLen) (hs : seed.size ≤ 1000) (hl : l.length ≤ 24) (ht : t ≤ 9223372036854775807) :
    Calls Tryd.prog 8 #[.int .i64 s, .int .i64 t, .int .i64 n, .string seed, .slice A l.length c] w fun e w' => e = .returned (.bool true) ∧ Q w w' := by
  have hz := splitI_le s t n seed
  obtain ⟨jv, jr, hj⟩ : ∃ jv jr, joinI l t = (jv, jr) := ⟨_, _, rfl⟩
  obtain ⟨fr, hf⟩ : ∃ fr, fitsI l t = fr := ⟨_, rfl⟩
  have hSp := fun W h => Split_any s t n seed W h (by omega)
  have hRp := fun W => RSplit_any s t n seed W (by omega)
  generalize splitI s t n seed = L at *
  generalize splitOk s t n = ok at *
  have HSP := Lib.hid hSp
  have HRP := Lib.hid hRp
  have HJ := Lib.hid hj
  have HF := Lib.hid hf
  clear hSp hRp hj hf
  go_enter Tryd.func8, Tryd.ntmps8
  go_wp2_with fail
  refine (small_any _ hT).mono ?_
  rintro e w1 ⟨rfl, hq1⟩
  go_wp2_with fail
  refine (HSP.out _ (hT.q hq1)).mono ?_
  rintro e w2 ⟨A1, c1, rfl, hS1, hc1, hm1, hq2⟩
  go_wp2_with fail
  refine (HRP.out _).mono ?_
  rintro e w3 ⟨A2, c2, rfl, hS2, hc2, hm2, hq3⟩
  go_wp2_with fail
  refine (Same_at _ _ _ _ _ _ L L true _ rfl rfl (by simp) (hS1.q hq3) hS2 (by omega) (by omega)).mono ?_
  rintro e w4 ⟨rfl, hq4⟩
  have hq := Q.trans hq1 (Q.trans hq2 (Q.trans hq3 hq4))
  clear hq1 hq2 hq3 hq4 hS1 hS2
  go_wp2_with fail
  refine (Join_at _ _ _ l _ jv jr _ rfl HJ.out (hS.q hq) hlc hcm (by omega)).mono ?_
  rintro e w5 ⟨rfl, hq5⟩
  have hq := Q.trans hq hq5
  go_wp2_with fail
  refine (RJoin_at _ _ _ l _ jv jr _ rfl HJ.out (hS.q hq) hlc hcm (by omega)).mono ?_
  rintro e w6 ⟨rfl, hq6⟩
  have hq := Q.trans hq hq6
  clear hq5 hq6
  go_wp2_with fail
  refine (Fits_at _ _ _ l _ fr _ rfl HF.out (hS.q hq) hlc hcm (by omega)).mono ?_
  rintro e w7 ⟨rfl, hq7⟩
  have hq := Q.trans hq hq7
  go_wp2_with fail
  refine (RFits_at _ _ _ l _ fr _ rfl HF.out (hS.q hq) hlc hcm (by omega) ht).mono ?_
  rintro e w8 ⟨rfl, hq8⟩
  have hq := Q.trans hq hq8
  go_wp2
  go_ret
  exact ⟨by first | rfl | simp, hq⟩
set_option maxHeartbeats 1000000 in
theorem tells_big (s t n : Int) (seed : ByteArray) (A : Option Addr) (c k : Nat) (w : World) (hT : Tab w) (h : (decide ((1000 : Int) < (seed.size : Int)) || decide ((24 : Int) < (k : Int))) = true) :
    Calls Tryd.prog 8 #[.int .i64 s, .int .i64 t, .int .i64 n, .string seed, .slice A k c] w fun e w' => e = .returned (.bool true) ∧ Q w w' := by
  go_enter Tryd.func8, Tryd.ntmps8
  go_wp2_with fail
  refine (small_any _ hT).mono ?_
  rintro e w1 ⟨rfl, hq1⟩
  go_wp2
  all_goals
    go_ret
    exact ⟨rfl, hq1⟩
theorem tells_any (s t n : Int) (seed : ByteArray) (A : Option Addr) (c : Nat) (l : List (Int × Int)) (w : World) (hT : Tab w) (hS : Shares w A l) (hlc : l.length ≤ c) (hcm : c ≤ maxLen) (ht : -9223372036854775808 ≤ t ∧ t ≤ 9223372036854775807) :
    Calls Tryd.prog 8 #[.int .i64 s, .int .i64 t, .int .i64 n, .string seed, .slice A l.length c] w fun e w' => e = .returned (.bool true) ∧ Q w w' := by
  by_cases h : 1000 < seed.size ∨ 24 < l.length
  · exact tells_big s t n seed A c l.length w hT (by simp; omega)
  · exact tells_core s t n seed A c l w hT hS hlc hcm (by omega) (by omega) ht.2
end Go.Proofs.YtppbplchdfhnkaaDoor.Share
