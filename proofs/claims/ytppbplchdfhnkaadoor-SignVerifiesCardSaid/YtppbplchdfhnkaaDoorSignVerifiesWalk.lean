/-
  The walk of agoralaw05.SignVerifies.
-/
import Derived.Test.YtppbplchdfhnkaaDoorSignTellsWalk
set_option linter.unusedVariables false
set_option linter.unusedSimpArgs false
namespace Go.Proofs.YtppbplchdfhnkaaDoor.Sign
open Go.RowKit Grp Mem _root_.Go.Proofs.YtppbplchdfhnkaaDoor.Code Sha

theorem Ctx.held {w0 w : World} {g : Nat} {e f : Int} (h : Ctx w0 w g 71 #[.int .i64 e, .int .i64 f]) : w.cell? ⟨g, 0, none⟩ = some (.int .i64 e) ∧ w.cell? ⟨g, 1, none⟩ = some (.int .i64 f) ∧ Ctx w0 w g 71 #[.int .i64 e, .int .i64 f] := ⟨h.2.2.cell 0, h.2.2.cell 1, h⟩
theorem Ctx.step {w0 w w' : World} {g : Nat} {e f : Int} (h : w.cell? ⟨g, 0, none⟩ = some (.int .i64 e) ∧ w.cell? ⟨g, 1, none⟩ = some (.int .i64 f) ∧ Ctx w0 w g 71 #[.int .i64 e, .int .i64 f]) (hq : Q w w') : w'.cell? ⟨g, 0, none⟩ = some (.int .i64 e) ∧ w'.cell? ⟨g, 1, none⟩ = some (.int .i64 f) ∧ Ctx w0 w' g 71 #[.int .i64 e, .int .i64 f] := (h.2.2.q hq).held
theorem Verify_ctx {w0 w : World} {g : Nat} {e f : Int} (p u v : Int) (m : ByteArray) (r : Bool) (h : w.cell? ⟨g, 0, none⟩ = some (.int .i64 e) ∧ w.cell? ⟨g, 1, none⟩ = some (.int .i64 f) ∧ Ctx w0 w g 71 #[.int .i64 e, .int .i64 f]) (hv : verI p m (u, v) = r) (hm : m.size ≤ 140737488355100) :
    Calls Tryd.prog 59 #[.int .i64 p, .string m, .agg #[.int .i64 u, .int .i64 v]] w fun e w' => e = .returned (.bool r) ∧ Q w w' := Verify_at p u v m r w hv h.2.2.2.1 (by omega)

set_option maxHeartbeats 4000000 in
theorem verifies_core (p e f n : Int) (seed m : ByteArray) (w : World) (hT : Tab w) (hs : seed.size ≤ 2000) (hm : m.size ≤ 2000)
    (r : Bool) (x y a b q : Int) (hr : verI p m (e, f) = r) (hk : keyOf (seedKey seed) = (x, y)) (hx : x ≤ 9223372036854775807) (hy0 : 1 ≤ y) (hy : y < 2305843009213693951) (hs2 : sigOf (x, y) m = (a, b)) (ha0 : 0 ≤ a) (ha : a < 2305843009213693950) (hb0 : 0 ≤ b) (hb : b < 2305843009213693950)
    (hn : Int.tmod n 3 = q) (hq0 : -2 ≤ q) (hq1 : q ≤ 2) (hv : verI y m (a, b) = true) (hv1 : q ≠ 0 → verI (y + q * 2305843009213693951) m (a, b) = false) (hv2 : q ≠ 0 → verI y m (a + q * 2305843009213693950, b) = false) (hv3 : q ≠ 0 → verI y m (a, b + q * 2305843009213693950) = false) :
    Calls Tryd.prog 15 #[.int .i64 p, .string m, .agg #[.int .i64 e, .int .i64 f], .string seed, .int .i64 n] w fun e w' => e = .returned (.bool true) ∧ Q w w' := by
  have hqn := q_new w #[.int .i64 e, .int .i64 f] 71
  have hb0' := Blk.new w 71 #[.int .i64 e, .int .i64 f]
  have hT0 := hT.q hqn
  have wp : IntKind.i64.wrap (q * 2305843009213693951) = q * 2305843009213693951 := IntWalk.i64_in _ ⟨by omega, by omega⟩
  have wn : IntKind.i64.wrap (q * 2305843009213693950) = q * 2305843009213693950 := IntWalk.i64_in _ ⟨by omega, by omega⟩
  have wy : IntKind.i64.wrap (y + q * 2305843009213693951) = y + q * 2305843009213693951 := IntWalk.i64_in _ ⟨by omega, by omega⟩
  have wa : IntKind.i64.wrap (a + q * 2305843009213693950) = a + q * 2305843009213693950 := IntWalk.i64_in _ ⟨by omega, by omega⟩
  have wb : IntKind.i64.wrap (b + q * 2305843009213693950) = b + q * 2305843009213693950 := IntWalk.i64_in _ ⟨by omega, by omega⟩
  go_enter Tryd.func15, Tryd.ntmps15
  go_wp2_with fail
  refine (small_any _ hT0).mono ?_
  rintro e' w1 ⟨rfl, hqa⟩
  have hX : Ctx w w1 w.heap.size 71 #[.int .i64 e, .int .i64 f] := ⟨Q.trans hqn hqa, hT0.q hqa, hb0'.q hqa⟩
  clear hqn hqa hT0 hb0'
  go_wp2_with fail
  go_region_held3 (fun w' => w'.cell? ⟨w.heap.size, 0, none⟩ = some (.int .i64 e) ∧ w'.cell? ⟨w.heap.size, 1, none⟩ = some (.int .i64 f) ∧ Ctx w w' w.heap.size 71 #[.int .i64 e, .int .i64 f])
    (first | exact (hX.q (Q.refl _).drew).held | exact Ctx.step (by assumption) hq)
    (first
      | (go_at_call 59; refine (Verify_ctx _ _ _ _ _ (by with_reducible assumption) (by with_reducible exact hr) (by omega)).mono ?_; rintro e' w' ⟨rfl, hq⟩)
      | (go_at_call 60; refine (RVerify_at _ _ _ _ _ _ (by with_reducible exact hr) (by omega)).mono ?_; rintro e' w' ⟨rfl, hq⟩))
  have hY : Ctx w w' w.heap.size 71 #[.int .i64 e, .int .i64 f] := by rename_i hh; exact hh.2.2
  generalize w' = W at *
  have hrr : (r != r) = false := by cases r <;> rfl
  go_wp2_with fail
  refine (RKey_at _ _ _ _ hk (by omega)).mono ?_
  rintro e' w2 ⟨rfl, hq2⟩
  have hqq := Q.trans hq2 (q_new w2 #[.int .i64 x, .int .i64 y] 65)
  have hb1 := Blk.new w2 65 #[.int .i64 x, .int .i64 y]
  have hT2 := hY.2.1.q hqq
  have hqw := Q.trans hY.1 hqq
  clear hqq hq2 hX hY
  go_wp2_with fail
  refine (RSign_at _ _ _ _ _ _ hs2 hT2 hx (by omega) (by omega)).mono ?_
  rintro e' w3 ⟨rfl, hq3⟩
  have hqq := Q.trans hq3 (q_new w3 #[.int .i64 a, .int .i64 b] 71)
  have hZ : Two w (w3.alloc (.cells #[.int .i64 a, .int .i64 b] 71)) w2.heap.size w3.heap.size x y a b := ⟨Q.trans hqw hqq, hT2.q hqq, hb1.q hqq, Blk.new w3 _ _⟩
  clear hqq hq3 hqw hT2 hb1
  obtain ⟨c0, c1, d0, d1, -⟩ := hZ.held
  by_cases hz : q = 0
  · clear hv1 hv2 hv3
    subst hz
    go_wp2_with fail
    refine (Verify_two _ _ _ hZ.held hv (by omega)).mono ?_
    rintro e' w4 ⟨rfl, hq4⟩
    go_wp2
    go_ret
    exact ⟨by first | rfl | simp, Q.trans hZ.1 hq4⟩
  · have hzb : (q == 0) = false := by simpa using hz
    have hv1 := hv1 hz
    have hv2 := hv2 hz
    have hv3 := hv3 hz
    go_wp2_with fail
    refine (Verify_at _ _ _ _ _ _ hv1 hZ.2.1 (by omega)).mono ?_
    rintro e' w4 ⟨rfl, hq4⟩
    have hZ := hZ.q hq4
    clear hq4 c0 c1 d0 d1
    obtain ⟨c0, c1, d0, d1, -⟩ := hZ.held
    go_wp2_with fail
    refine (Verify_at _ _ _ _ _ _ hv2 hZ.2.1 (by omega)).mono ?_
    rintro e' w5 ⟨rfl, hq4⟩
    have hZ := hZ.q hq4
    clear hq4 c0 c1 d0 d1
    obtain ⟨c0, c1, d0, d1, -⟩ := hZ.held
    go_wp2_with fail
    refine (Verify_at _ _ _ _ _ _ hv3 hZ.2.1 (by omega)).mono ?_
    rintro e' w6 ⟨rfl, hq4⟩
    have hZ := hZ.q hq4
    go_wp2
    go_ret
    exact ⟨by first | rfl | simp, hZ.1⟩

set_option maxHeartbeats 1000000 in
theorem verifies_big (p e f n : Int) (seed m : ByteArray) (w : World) (hT : Tab w) (h : (decide ((2000 : Int) < (seed.size : Int)) || decide ((2000 : Int) < (m.size : Int))) = true) :
    Calls Tryd.prog 15 #[.int .i64 p, .string m, .agg #[.int .i64 e, .int .i64 f], .string seed, .int .i64 n] w fun e w' => e = .returned (.bool true) ∧ Q w w' := by
  have hqn := q_new w #[.int .i64 e, .int .i64 f] 71
  go_enter Tryd.func15, Tryd.ntmps15
  go_wp2_with fail
  refine (small_any _ (hT.q hqn)).mono ?_
  rintro e w1 ⟨rfl, hq1⟩
  go_wp2
  all_goals
    go_ret
    exact ⟨rfl, Q.trans hqn hq1⟩

theorem in_not {n : Int} (h : n < 0 ∨ 2305843009213693950 ≤ n) : inI n = false := by
  unfold inI
  rcases h with h | h
  · have : decide (0 ≤ n) = false := by simp; omega
    rw [this, Bool.false_and]
  · have : decide (n < 2305843009213693950) = false := by simp; omega
    rw [this, Bool.and_false]
theorem tmod3 (n : Int) : -2 ≤ Int.tmod n 3 ∧ Int.tmod n 3 ≤ 2 := by
  have h1 := Int.tmod_lt_of_pos n (show (0 : Int) < 3 by decide)
  have h2 := Int.lt_tmod_of_pos n (show (0 : Int) < 3 by decide)
  omega

theorem verifies_any (p : Int) (m : ByteArray) (e f : Int) (seed : ByteArray) (n : Int) (w : World) (hT : Tab w) (_ : -9223372036854775808 ≤ p ∧ p ≤ 9223372036854775807) (_ : -9223372036854775808 ≤ e ∧ e ≤ 9223372036854775807) (_ : -9223372036854775808 ≤ f ∧ f ≤ 9223372036854775807) (_ : -9223372036854775808 ≤ n ∧ n ≤ 9223372036854775807) :
    Calls Tryd.prog 15 #[.int .i64 p, .string m, .agg #[.int .i64 e, .int .i64 f], .string seed, .int .i64 n] w fun e w' => e = .returned (.bool true) ∧ Q w w' := by
  by_cases h : 2000 < seed.size ∨ 2000 < m.size
  · exact verifies_big p e f n seed m w hT (by simp; omega)
  have hb : 1 ≤ seedKey seed ∧ seedKey seed ≤ 2305843009213693949 := redI_bd _
  have hk := keyOf_right _ hb.1 hb.2
  have hg := gpub (seedKey seed) (by omega)
  have hsg := sig_of (seedKey seed) m hb.1 hb.2
  have ha : 0 ≤ sigE (seedKey seed) (gexp 37 (seedKey seed)) m ∧ sigE (seedKey seed) (gexp 37 (seedKey seed)) m < 2305843009213693950 := chalI_bd _ _ _
  have hs' : 0 ≤ sigS (seedKey seed) (gexp 37 (seedKey seed)) m ∧ sigS (seedKey seed) (gexp 37 (seedKey seed)) m < 2305843009213693950 := emod_bd _ (by decide)
  have hv := ver_of _ m hb.1 hb.2
  have ht := tmod3 n
  refine verifies_core p e f n seed m w hT (by omega) (by omega) _ _ _ _ _ _ rfl hk (by omega) hg.1 hg.2 hsg ha.1 ha.2 hs'.1 hs'.2 rfl ht.1 ht.2 hv ?_ ?_ ?_
  · intro hq
    unfold verI rangeI
    have : (decide (1 ≤ gexp 37 (seedKey seed) + Int.tmod n 3 * 2305843009213693951) && decide (gexp 37 (seedKey seed) + Int.tmod n 3 * 2305843009213693951 < 2305843009213693951)) = false := by
      by_cases h0 : 0 < Int.tmod n 3
      · have : decide (gexp 37 (seedKey seed) + Int.tmod n 3 * 2305843009213693951 < 2305843009213693951) = false := by simp; omega
        rw [this, Bool.and_false]
      · have : decide (1 ≤ gexp 37 (seedKey seed) + Int.tmod n 3 * 2305843009213693951) = false := by simp; omega
        rw [this, Bool.false_and]
    rw [this, Bool.false_and, Bool.false_and]
  · intro hq
    unfold verI rangeI
    dsimp only
    rw [in_not (by omega), Bool.false_and, Bool.and_false, Bool.false_and]
  · intro hq
    unfold verI rangeI
    dsimp only
    rw [in_not (n := sigS _ _ _ + _) (by omega), Bool.and_false, Bool.and_false, Bool.false_and]
end Go.Proofs.YtppbplchdfhnkaaDoor.Sign
