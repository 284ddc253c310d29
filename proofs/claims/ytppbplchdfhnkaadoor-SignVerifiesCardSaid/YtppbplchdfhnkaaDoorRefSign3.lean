/-
  The contracts of package agoraref05's Ranges, Verify and Sign.
-/
import Derived.Test.YtppbplchdfhnkaaDoorRefSign2
import Derived.Test.YtppbplchdfhnkaaDoorSignMovesWalk
set_option linter.unusedVariables false
set_option linter.unusedSimpArgs false
namespace Go.Proofs.YtppbplchdfhnkaaDoor.Sign
open Go.RowKit Grp Mem _root_.Go.Proofs.YtppbplchdfhnkaaDoor.Code Sha

set_option maxHeartbeats 1000000 in
theorem RRanges_any (p x y : Int) (w : World) :
    Calls Tryd.prog 104 #[.int .i64 p, .agg #[.int .i64 x, .int .i64 y]] w fun e w' => e = .returned (.bool (rangeI p (x, y))) ∧ Q w w' := by
  have hq0 := q_new w #[.int .i64 x, .int .i64 y] 71
  unfold rangeI inI
  dsimp only
  by_cases h1 : 1 ≤ p
  · have e1 : decide (1 ≤ p) = true := by simp [h1]
    by_cases h2 : p < 2305843009213693951
    · have e2 : decide (p < 2305843009213693951) = true := by simp [h2]
      by_cases h3 : 0 ≤ x
      · have e3 : decide (0 ≤ x) = true := by simp [h3]
        by_cases h4 : x < 2305843009213693950
        · have e4 : decide (x < 2305843009213693950) = true := by simp [h4]
          by_cases h5 : 0 ≤ y
          · have e5 : decide (0 ≤ y) = true := by simp [h5]
            rw [e1, e2, e3, e4, e5]
            simp only [Bool.true_and]
            go_enter Tryd.func104, Tryd.ntmps104
            go_wp2
            go_ret
            exact ⟨rfl, hq0⟩
          · have e5 : decide (0 ≤ y) = false := by simp; omega
            rw [e5]
            simp only [Bool.and_false, Bool.false_and]
            go_enter Tryd.func104, Tryd.ntmps104
            go_wp2
            go_ret
            exact ⟨rfl, hq0⟩
        · have e4 : decide (x < 2305843009213693950) = false := by simp; omega
          rw [e4]
          simp only [Bool.and_false, Bool.false_and]
          go_enter Tryd.func104, Tryd.ntmps104
          go_wp2
          go_ret
          exact ⟨rfl, hq0⟩
      · have e3 : decide (0 ≤ x) = false := by simp; omega
        rw [e3]
        simp only [Bool.and_false, Bool.false_and]
        go_enter Tryd.func104, Tryd.ntmps104
        go_wp2
        go_ret
        exact ⟨rfl, hq0⟩
    · have e2 : decide (p < 2305843009213693951) = false := by simp; omega
      rw [e2]
      simp only [Bool.and_false, Bool.false_and]
      go_enter Tryd.func104, Tryd.ntmps104
      go_wp2
      go_ret
      exact ⟨rfl, hq0⟩
  · have e1 : decide (1 ≤ p) = false := by simp; omega
    rw [e1]
    simp only [Bool.and_false, Bool.false_and]
    go_enter Tryd.func104, Tryd.ntmps104
    go_wp2
    go_ret
    exact ⟨rfl, hq0⟩
theorem RRanges_at (p x y : Int) (b : Bool) (w : World) (h : rangeI p (x, y) = b) :
    Calls Tryd.prog 104 #[.int .i64 p, .agg #[.int .i64 x, .int .i64 y]] w fun e w' => e = .returned (.bool b) ∧ Q w w' := h ▸ RRanges_any p x y w

set_option maxHeartbeats 1000000 in
theorem RVerify_any (p : Int) (m : ByteArray) (x y : Int) (w : World) (hm : m.size ≤ 140737488355100) :
    Calls Tryd.prog 60 #[.int .i64 p, .string m, .agg #[.int .i64 x, .int .i64 y]] w fun e w' => e = .returned (.bool (verI p m (x, y))) ∧ Q w w' := by
  unfold verI
  dsimp only
  have hb := Blk.new w 71 #[.int .i64 x, .int .i64 y]
  have hq0 := q_new w #[.int .i64 x, .int .i64 y] 71
  cases h : rangeI p (x, y) with
  | false =>
    rw [Bool.false_and]
    go_enter Tryd.func60, Tryd.ntmps60
    go_wp2_with fail
    refine (RRanges_at _ _ _ _ _ h).mono ?_
    rintro e w1 ⟨rfl, hq1⟩
    go_wp2
    go_ret
    exact ⟨rfl, Q.trans hq0 hq1⟩
  | true =>
    rw [Bool.true_and]
    have h' := h
    unfold rangeI at h'
    simp only [Bool.and_eq_true, decide_eq_true_eq] at h'
    obtain ⟨⟨h1, h2⟩, hE, hS⟩ := h'
    obtain ⟨hx0, hx1⟩ : 0 ≤ x ∧ x < 2305843009213693950 := by unfold inI at hE; simpa using hE
    obtain ⟨hy0, hy1⟩ : 0 ≤ y ∧ y < 2305843009213693950 := by unfold inI at hS; simpa using hS
    have hgb : 0 ≤ commI p (x, y) ∧ commI p (x, y) < 2305843009213693951 := emod_bd _ (by decide)
    obtain ⟨r, hr⟩ : ∃ r, commI p (x, y) = r := ⟨_, rfl⟩
    obtain ⟨c, hc⟩ : ∃ c, chalI r p m = c := ⟨_, rfl⟩
    have hEq : decide (x = chalI (commI p (x, y)) p m) = (c == x) := by
      rw [hr, hc]
      by_cases e : x = c
      · subst e; simp
      · have e2 : ¬ c = x := fun h => e h.symm
        simp [e, e2]
    rw [hEq]
    rw [hr] at hgb
    have HGB := Lib.hid hgb
    clear hgb hEq hE hS
    go_enter Tryd.func60, Tryd.ntmps60
    go_wp2_with fail
    refine (RRanges_at _ _ _ _ _ h).mono ?_
    rintro e w1 ⟨rfl, hq1⟩
    have hb := hb.q hq1
    have hc0 := hb.cell 0
    have hc1 := hb.cell 1
    simp only [List.getElem?_toArray, List.getElem?_cons_zero, List.getElem?_cons_succ] at hc0 hc1
    have hlt := hb.lt
    have hq := Q.trans hq0 hq1
    clear hb hq0 hq1
    go_wp2_with fail
    go_region_held3 (fun w' => w'.cell? ⟨w.heap.size, 0, none⟩ = some (.int .i64 x) ∧ w'.cell? ⟨w.heap.size, 1, none⟩ = some (.int .i64 y) ∧ w.heap.size < w'.heap.size ∧ Q w w') (first | exact ⟨hc0, hc1, hlt, hq.drew⟩ | exact held2 (by assumption) hq) (first | (go_at_call 61; refine (RComm_at _ _ _ _ _ (by with_reducible exact hr) hx0 hx1 (by omega) (by omega)).mono ?_; rintro e w' ⟨rfl, hq⟩) | (go_at_call 62; refine (RChal_at _ _ _ _ _ (by with_reducible exact hc) (by have := HGB.out; omega) (by omega) hm).mono ?_; rintro e w' ⟨rfl, hq⟩))
    go_wp2
    go_ret
    exact ⟨by first | rfl | simp, by rename_i hh; exact hh.2.2.2⟩
theorem RVerify_at (p x y : Int) (m : ByteArray) (b : Bool) (w : World) (h : verI p m (x, y) = b) (hm : m.size ≤ 140737488355100) :
    Calls Tryd.prog 60 #[.int .i64 p, .string m, .agg #[.int .i64 x, .int .i64 y]] w fun e w' => e = .returned (.bool b) ∧ Q w w' := h ▸ RVerify_any p m x y w hm
end Go.Proofs.YtppbplchdfhnkaaDoor.Sign
