/-
  The walk of agoralaw05.SignKeys.
-/
import Derived.Test.YtppbplchdfhnkaaDoorRefSign2
set_option linter.unusedVariables false
set_option linter.unusedSimpArgs false
namespace Go.Proofs.YtppbplchdfhnkaaDoor.Sign
open Go.RowKit Grp Mem _root_.Go.Proofs.YtppbplchdfhnkaaDoor.Code Sha

theorem RKey_at (s : ByteArray) (x y : Int) (w : World) (h : keyOf (seedKey s) = (x, y)) (hm : s.size ≤ 140737488355100) :
    Calls Tryd.prog 53 #[.string s] w fun e w' => e = .returned (.agg #[.int .i64 x, .int .i64 y]) ∧ Q w w' :=
  (RKey_any s w hm).mono fun e w' ⟨h1, h2⟩ => ⟨by rw [h1, h]; rfl, h2⟩
theorem ROf_at (n x y : Int) (w : World) (h : keyOf n = (x, y)) :
    Calls Tryd.prog 54 #[.int .i64 n] w fun e w' => e = .returned (.agg #[.int .i64 x, .int .i64 y]) ∧ Q w w' :=
  (ROf_any n w).mono fun e w' ⟨h1, h2⟩ => ⟨by rw [h1, h]; rfl, h2⟩
theorem RRight_at (x y : Int) (b : Bool) (w : World) (h : rightI (x, y) = b) :
    Calls Tryd.prog 56 #[.agg #[.int .i64 x, .int .i64 y]] w fun e w' => e = .returned (.bool b) ∧ Q w w' :=
  h ▸ RRight_any (x, y) w

/-- Three keys are kept. -/
def Kys (w0 w : World) (g0 g1 g2 : Nat) (c d x y x2 y2 : Int) : Prop := Q w0 w ∧ Tab w ∧ Blk w g0 65 #[.int .i64 c, .int .i64 d] ∧ Blk w g1 65 #[.int .i64 x, .int .i64 y] ∧ Blk w g2 65 #[.int .i64 x2, .int .i64 y2]
section
variable {w0 w w' : World} {g0 g1 g2 : Nat} {c d x y x2 y2 : Int}
theorem Kys.q (h : Kys w0 w g0 g1 g2 c d x y x2 y2) (hq : Q w w') : Kys w0 w' g0 g1 g2 c d x y x2 y2 := ⟨Q.trans h.1 hq, h.2.1.q hq, h.2.2.1.q hq, h.2.2.2.1.q hq, h.2.2.2.2.q hq⟩
theorem Kys.held (h : Kys w0 w g0 g1 g2 c d x y x2 y2) : w.cell? ⟨g0, 0, none⟩ = some (.int .i64 c) ∧ w.cell? ⟨g0, 1, none⟩ = some (.int .i64 d) ∧ w.cell? ⟨g1, 0, none⟩ = some (.int .i64 x) ∧ w.cell? ⟨g1, 1, none⟩ = some (.int .i64 y) ∧ w.cell? ⟨g2, 0, none⟩ = some (.int .i64 x2) ∧ w.cell? ⟨g2, 1, none⟩ = some (.int .i64 y2) ∧ Kys w0 w g0 g1 g2 c d x y x2 y2 :=
  ⟨h.2.2.1.cell 0, h.2.2.1.cell 1, h.2.2.2.1.cell 0, h.2.2.2.1.cell 1, h.2.2.2.2.cell 0, h.2.2.2.2.cell 1, h⟩
theorem Kys.step (h : w.cell? ⟨g0, 0, none⟩ = some (.int .i64 c) ∧ w.cell? ⟨g0, 1, none⟩ = some (.int .i64 d) ∧ w.cell? ⟨g1, 0, none⟩ = some (.int .i64 x) ∧ w.cell? ⟨g1, 1, none⟩ = some (.int .i64 y) ∧ w.cell? ⟨g2, 0, none⟩ = some (.int .i64 x2) ∧ w.cell? ⟨g2, 1, none⟩ = some (.int .i64 y2) ∧ Kys w0 w g0 g1 g2 c d x y x2 y2) (hq : Q w w') :
    w'.cell? ⟨g0, 0, none⟩ = some (.int .i64 c) ∧ w'.cell? ⟨g0, 1, none⟩ = some (.int .i64 d) ∧ w'.cell? ⟨g1, 0, none⟩ = some (.int .i64 x) ∧ w'.cell? ⟨g1, 1, none⟩ = some (.int .i64 y) ∧ w'.cell? ⟨g2, 0, none⟩ = some (.int .i64 x2) ∧ w'.cell? ⟨g2, 1, none⟩ = some (.int .i64 y2) ∧ Kys w0 w' g0 g1 g2 c d x y x2 y2 := (h.2.2.2.2.2.2.q hq).held
end

set_option maxHeartbeats 4000000 in
theorem keys_in (seed : ByteArray) (n c d : Int) (w : World) (hT : Tab w) (hs : seed.size ≤ 2000)
    (x y x2 y2 : Int) (inB rk : Bool) (hk : keyOf (seedKey seed) = (x, y)) (hk2 : keyOf n = (x2, y2)) (hra : rightI (x, y) = true) (hrb : rightI (x2, y2) = inB) (hrk : rightI (c, d) = rk) (e1 : decide (1 ≤ n) = true) (e2 : decide (n < 2305843009213693950) = inB) :
    Calls Tryd.prog 13 #[.string seed, .int .i64 n, .agg #[.int .i64 c, .int .i64 d]] w fun e w' => e = .returned (.bool true) ∧ Q w w' := by
  have hEq := keyEq
  have hG := keyGuard
  have hqn := q_new w #[.int .i64 c, .int .i64 d] 65
  have hb0 := Blk.new w 65 #[.int .i64 c, .int .i64 d]
  have hT0 := hT.q hqn
  go_enter Tryd.func13, Tryd.ntmps13
  go_wp2_with fail
  refine (small_any _ hT0).mono ?_
  rintro e w1 ⟨rfl, hq1⟩
  have hT1 := hT0.q hq1
  have hb0 := hb0.q hq1
  have hq := Q.trans hqn hq1
  clear hqn hq1 hT0
  go_wp2_with fail
  refine (Key_at _ _ _ _ hk hT1 (by omega)).mono ?_
  rintro e w2 ⟨rfl, hq2⟩
  have hT1 := hT1.q (Q.trans hq2 (q_new w2 #[.int .i64 x, .int .i64 y] 65))
  have hb0 := hb0.q (Q.trans hq2 (q_new w2 #[.int .i64 x, .int .i64 y] 65))
  have hb1 := Blk.new w2 65 #[.int .i64 x, .int .i64 y]
  have hq := Q.trans hq (Q.trans hq2 (q_new w2 #[.int .i64 x, .int .i64 y] 65))
  clear hq2
  go_wp2_with fail
  refine (Of_at _ _ _ _ hk2).mono ?_
  rintro e w3 ⟨rfl, hq3⟩
  have hqq := Q.trans hq3 (q_new w3 #[.int .i64 x2, .int .i64 y2] 65)
  have hY : Kys w (w3.alloc (.cells #[.int .i64 x2, .int .i64 y2] 65)) w.heap.size w2.heap.size w3.heap.size c d x y x2 y2 := ⟨Q.trans hq hqq, hT1.q hqq, hb0.q hqq, hb1.q hqq, Blk.new w3 _ _⟩
  clear hqq hq3 hq hb0 hb1 hT1
  go_wp2_with fail
  go_region_held3 (fun w' => w'.cell? ⟨w.heap.size, 0, none⟩ = some (.int .i64 c) ∧ w'.cell? ⟨w.heap.size, 1, none⟩ = some (.int .i64 d) ∧ w'.cell? ⟨w2.heap.size, 0, none⟩ = some (.int .i64 x) ∧ w'.cell? ⟨w2.heap.size, 1, none⟩ = some (.int .i64 y) ∧ w'.cell? ⟨w3.heap.size, 0, none⟩ = some (.int .i64 x2) ∧ w'.cell? ⟨w3.heap.size, 1, none⟩ = some (.int .i64 y2) ∧ Kys w w' w.heap.size w2.heap.size w3.heap.size c d x y x2 y2)
    (first | exact (hY.q (Q.refl _).drew).held | exact Kys.step (by assumption) hq)
    (first
      | (go_at_call 53; refine (RKey_at _ _ _ _ hk (by omega)).mono ?_; rintro e w' ⟨rfl, hq⟩)
      | (go_at_call 54; refine (ROf_at _ _ _ _ hk2).mono ?_; rintro e w' ⟨rfl, hq⟩)
      | (go_at_call 55; refine (Right_at _ _ _ _ (by with_reducible first | exact hra | exact hrb | exact hrk)).mono ?_; rintro e w' ⟨rfl, hq⟩)
      | (go_at_call 56; refine (RRight_at _ _ _ _ (by with_reducible exact hrk)).mono ?_; rintro e w' ⟨rfl, hq⟩))
  all_goals
    go_wp2
    go_ret
    exact ⟨by first | rfl | simp, by rename_i hh; exact hh.2.2.2.2.2.2.1⟩

set_option maxHeartbeats 4000000 in
theorem keys_out (seed : ByteArray) (n c d : Int) (w : World) (hT : Tab w) (hs : seed.size ≤ 2000)
    (x y x2 y2 : Int) (inB rk : Bool) (hk : keyOf (seedKey seed) = (x, y)) (hk2 : keyOf n = (x2, y2)) (hra : rightI (x, y) = true) (hrb : rightI (x2, y2) = false) (hrk : rightI (c, d) = rk) (e1 : decide (1 ≤ n) = false) :
    Calls Tryd.prog 13 #[.string seed, .int .i64 n, .agg #[.int .i64 c, .int .i64 d]] w fun e w' => e = .returned (.bool true) ∧ Q w w' := by
  have hEq := keyEq
  have hG := keyGuard
  have hqn := q_new w #[.int .i64 c, .int .i64 d] 65
  have hb0 := Blk.new w 65 #[.int .i64 c, .int .i64 d]
  have hT0 := hT.q hqn
  go_enter Tryd.func13, Tryd.ntmps13
  go_wp2_with fail
  refine (small_any _ hT0).mono ?_
  rintro e w1 ⟨rfl, hq1⟩
  have hT1 := hT0.q hq1
  have hb0 := hb0.q hq1
  have hq := Q.trans hqn hq1
  clear hqn hq1 hT0
  go_wp2_with fail
  refine (Key_at _ _ _ _ hk hT1 (by omega)).mono ?_
  rintro e w2 ⟨rfl, hq2⟩
  have hT1 := hT1.q (Q.trans hq2 (q_new w2 #[.int .i64 x, .int .i64 y] 65))
  have hb0 := hb0.q (Q.trans hq2 (q_new w2 #[.int .i64 x, .int .i64 y] 65))
  have hb1 := Blk.new w2 65 #[.int .i64 x, .int .i64 y]
  have hq := Q.trans hq (Q.trans hq2 (q_new w2 #[.int .i64 x, .int .i64 y] 65))
  clear hq2
  go_wp2_with fail
  refine (Of_at _ _ _ _ hk2).mono ?_
  rintro e w3 ⟨rfl, hq3⟩
  have hqq := Q.trans hq3 (q_new w3 #[.int .i64 x2, .int .i64 y2] 65)
  have hY : Kys w (w3.alloc (.cells #[.int .i64 x2, .int .i64 y2] 65)) w.heap.size w2.heap.size w3.heap.size c d x y x2 y2 := ⟨Q.trans hq hqq, hT1.q hqq, hb0.q hqq, hb1.q hqq, Blk.new w3 _ _⟩
  clear hqq hq3 hq hb0 hb1 hT1
  go_wp2_with fail
  go_region_held3 (fun w' => w'.cell? ⟨w.heap.size, 0, none⟩ = some (.int .i64 c) ∧ w'.cell? ⟨w.heap.size, 1, none⟩ = some (.int .i64 d) ∧ w'.cell? ⟨w2.heap.size, 0, none⟩ = some (.int .i64 x) ∧ w'.cell? ⟨w2.heap.size, 1, none⟩ = some (.int .i64 y) ∧ w'.cell? ⟨w3.heap.size, 0, none⟩ = some (.int .i64 x2) ∧ w'.cell? ⟨w3.heap.size, 1, none⟩ = some (.int .i64 y2) ∧ Kys w w' w.heap.size w2.heap.size w3.heap.size c d x y x2 y2)
    (first | exact (hY.q (Q.refl _).drew).held | exact Kys.step (by assumption) hq)
    (first
      | (go_at_call 53; refine (RKey_at _ _ _ _ hk (by omega)).mono ?_; rintro e w' ⟨rfl, hq⟩)
      | (go_at_call 54; refine (ROf_at _ _ _ _ hk2).mono ?_; rintro e w' ⟨rfl, hq⟩)
      | (go_at_call 55; refine (Right_at _ _ _ _ (by with_reducible first | exact hra | exact hrb | exact hrk)).mono ?_; rintro e w' ⟨rfl, hq⟩)
      | (go_at_call 56; refine (RRight_at _ _ _ _ (by with_reducible exact hrk)).mono ?_; rintro e w' ⟨rfl, hq⟩))
  all_goals
    go_wp2
    go_ret
    exact ⟨by first | rfl | simp, by rename_i hh; exact hh.2.2.2.2.2.2.1⟩

set_option maxHeartbeats 1000000 in
theorem keys_big (seed : ByteArray) (n c d : Int) (w : World) (hT : Tab w) (h : decide ((2000 : Int) < (seed.size : Int)) = true) :
    Calls Tryd.prog 13 #[.string seed, .int .i64 n, .agg #[.int .i64 c, .int .i64 d]] w fun e w' => e = .returned (.bool true) ∧ Q w w' := by
  have hqn := q_new w #[.int .i64 c, .int .i64 d] 65
  go_enter Tryd.func13, Tryd.ntmps13
  go_wp2_with fail
  refine (small_any _ (hT.q hqn)).mono ?_
  rintro e w1 ⟨rfl, hq1⟩
  go_wp2
  all_goals
    go_ret
    exact ⟨rfl, Q.trans hqn hq1⟩

theorem keys_any (seed : ByteArray) (n c d : Int) (w : World) (hT : Tab w) (_ : -9223372036854775808 ≤ n ∧ n ≤ 9223372036854775807) (_ : -9223372036854775808 ≤ c ∧ c ≤ 9223372036854775807) (_ : -9223372036854775808 ≤ d ∧ d ≤ 9223372036854775807) :
    Calls Tryd.prog 13 #[.string seed, .int .i64 n, .agg #[.int .i64 c, .int .i64 d]] w fun e w' => e = .returned (.bool true) ∧ Q w w' := by
  by_cases h : 2000 < seed.size
  · exact keys_big seed n c d w hT (by simp; omega)
  have hb : 1 ≤ seedKey seed ∧ seedKey seed ≤ 2305843009213693949 := redI_bd _
  have hk := keyOf_right _ hb.1 hb.2
  have hra := rightI_of _ hb.1 hb.2
  by_cases h1 : 1 ≤ n
  · have e1 : decide (1 ≤ n) = true := by simp [h1]
    by_cases h2 : n < 2305843009213693950
    · exact keys_in seed n c d w hT (by omega) _ _ _ _ true _ hk (keyOf_right n h1 (by omega)) hra (rightI_of n h1 (by omega)) rfl e1 (by simp [h2])
    · exact keys_in seed n c d w hT (by omega) _ _ _ _ false _ hk (show keyOf n = (0, 0) by unfold keyOf; rw [if_pos (by omega)]) hra right_zero rfl e1 (by simp; omega)
  · exact keys_out seed n c d w hT (by omega) _ _ _ _ false _ hk (show keyOf n = (0, 0) by unfold keyOf; rw [if_pos (by omega)]) hra right_zero rfl (by simp; omega)
end Go.Proofs.YtppbplchdfhnkaaDoor.Sign
