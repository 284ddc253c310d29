/-
  The walk of agoralaw05.SignBinds.
-/
import Derived.Test.YtppbplchdfhnkaaDoorRefSign2
set_option linter.unusedVariables false
set_option linter.unusedSimpArgs false
namespace Go.Proofs.YtppbplchdfhnkaaDoor.Sign
open Go.RowKit Grp Mem _root_.Go.Proofs.YtppbplchdfhnkaaDoor.Code Sha

theorem RComm_at (p x y r : Int) (w : World) (h : commI p (x, y) = r) (hx0 : 0 ≤ x) (hx1 : x < 2305843009213693950) (hy0 : -9223372036854775808 ≤ y) (hy1 : y ≤ 9223372036854775807) :
    Calls Tryd.prog 61 #[.int .i64 p, .agg #[.int .i64 x, .int .i64 y]] w fun e w' => e = .returned (.int .i64 r) ∧ Q w w' := h ▸ RComm_any p x y w hx0 hx1 hy0 hy1
theorem RChal_at (r y e : Int) (m : ByteArray) (w : World) (h : chalI r y m = e) (hr : r ≤ 9223372036854775807) (hy : y ≤ 9223372036854775807) (hm : m.size ≤ 140737488355100) :
    Calls Tryd.prog 62 #[.int .i64 r, .int .i64 y, .string m] w fun e' w' => e' = .returned (.int .i64 e) ∧ Q w w' := h ▸ RChallenge_any r y m w hr hy hm

theorem str_ne {m o : ByteArray} (h : m ≠ o) : m.toList ≠ o.toList := by
  rw [ByteArray.toList_eq, ByteArray.toList_eq]
  exact fun e => h (ba_ext e)
set_option maxHeartbeats 2000000 in
theorem binds_core (seed m o : ByteArray) (w : World) (hT : Tab w) (hs : seed.size ≤ 2000) (hm : m.size ≤ 2000) (ho : o.size ≤ 2000)
    (x y a b r e1 e2 : Int) (same : Bool) (hk : keyOf (seedKey seed) = (x, y)) (hx : x ≤ 9223372036854775807) (hy : y ≤ 9223372036854775807) (hsg : sigOf (x, y) m = (a, b)) (ha0 : 0 ≤ a) (ha1 : a < 2305843009213693950) (hb0 : 0 ≤ b) (hb1 : b < 2305843009213693950)
    (hr : commI y (a, b) = r) (hr1 : r ≤ 9223372036854775807) (h1 : chalI r y m = e1) (h2 : chalI r y o = e2) (hsame : (e1 == e2) = same) (hv : verI y o (a, b) = same) (hne : same = true ∨ m.toList ≠ o.toList) :
    Calls Tryd.prog 17 #[.string seed, .string m, .string o] w fun e w' => e = .returned (.bool true) ∧ Q w w' := by
  go_enter Tryd.func17, Tryd.ntmps17
  go_wp2_with fail
  refine (small_any _ hT).mono ?_
  rintro e w1 ⟨rfl, hq1⟩
  go_wp2_with fail
  refine (Key_at _ _ _ _ hk (hT.q hq1) (by omega)).mono ?_
  rintro e w2 ⟨rfl, hq2⟩
  have hq2 := Q.trans hq1 hq2
  have hT2 := hT.q hq2
  have hb1' := Blk.new w2 65 #[.int .i64 x, .int .i64 y]
  have hT3 := hT2.q (q_new w2 #[.int .i64 x, .int .i64 y] 65)
  have hq3 := Q.trans hq2 (q_new w2 #[.int .i64 x, .int .i64 y] 65)
  clear hq1 hq2 hT2
  go_wp2_with fail
  refine (Sign_at _ _ _ _ _ _ hsg hT3 hx hy (by omega)).mono ?_
  rintro e w3 ⟨rfl, hq4⟩
  have hT4 := hT3.q hq4
  have hb1' := hb1'.q hq4
  have hq4 := Q.trans hq3 hq4
  have hb2 := Blk.new w3 71 #[.int .i64 a, .int .i64 b]
  have hX : Two w _ w2.heap.size w3.heap.size x y a b := ⟨Q.trans hq4 (q_new _ _ _), hT4.q (q_new _ _ _), hb1'.q (q_new _ _ _), hb2⟩
  clear hb1' hb2 hT4 hq4 hT3 hq3
  obtain ⟨c0, c1, d0, d1, -⟩ := hX.held
  go_wp2_with fail
  refine (RComm_at _ _ _ _ _ hr ha0 ha1 (by omega) (by omega)).mono ?_
  rintro e w4 ⟨rfl, hq5⟩
  have hX := hX.q hq5
  clear c0 c1 d0 d1
  go_wp2_with fail
  go_region_held3 (fun w' => w'.cell? ⟨w2.heap.size, 0, none⟩ = some (.int .i64 x) ∧ w'.cell? ⟨w2.heap.size, 1, none⟩ = some (.int .i64 y) ∧ w'.cell? ⟨w3.heap.size, 0, none⟩ = some (.int .i64 a) ∧ w'.cell? ⟨w3.heap.size, 1, none⟩ = some (.int .i64 b) ∧ Two w w' w2.heap.size w3.heap.size x y a b)
    (first | exact (hX.q (Q.refl _).drew).held | exact Two.step (by assumption) hq)
    (first
      | (go_at_call 62; refine (RChal_at _ _ _ _ _ (by with_reducible first | exact h1 | exact h2) hr1 hy (by omega)).mono ?_; rintro e w' ⟨rfl, hq⟩))
  have hY : Two w w' w2.heap.size w3.heap.size x y a b := by rename_i hh; exact hh.2.2.2.2
  generalize w' = W2 at *
  obtain ⟨c0, c1, d0, d1, -⟩ := hY.held
  go_wp2_with fail
  refine (Verify_two _ _ _ hY.held hv (by omega)).mono ?_
  rintro e w6 ⟨rfl, hq7⟩
  cases same with
  | true =>
    go_wp2
    all_goals
      go_ret
      exact ⟨by first | rfl | simp, Q.trans hY.1 hq7⟩
  | false =>
    have hmo : m.toList ≠ o.toList := by simpa using hne
    clear hne
    go_wp2
    all_goals
      go_ret
      refine ⟨?_, Q.trans hY.1 hq7⟩
      first
        | rfl
        | (exfalso; exact hmo (by assumption))

set_option maxHeartbeats 1000000 in
theorem binds_big (seed m o : ByteArray) (w : World) (hT : Tab w) (h : (decide ((2000 : Int) < (seed.size : Int)) || decide ((2000 : Int) < (m.size : Int)) || decide ((2000 : Int) < (o.size : Int))) = true) :
    Calls Tryd.prog 17 #[.string seed, .string m, .string o] w fun e w' => e = .returned (.bool true) ∧ Q w w' := by
  go_enter Tryd.func17, Tryd.ntmps17
  go_wp2_with fail
  refine (small_any _ hT).mono ?_
  rintro e w1 ⟨rfl, hq1⟩
  go_wp2
  all_goals
    go_ret
    exact ⟨rfl, hq1⟩

theorem binds_any (seed m o : ByteArray) (w : World) (hT : Tab w) :
    Calls Tryd.prog 17 #[.string seed, .string m, .string o] w fun e w' => e = .returned (.bool true) ∧ Q w w' := by
  by_cases h : 2000 < seed.size ∨ 2000 < m.size ∨ 2000 < o.size
  · exact binds_big seed m o w hT (by simp; omega)
  have hb : 1 ≤ seedKey seed ∧ seedKey seed ≤ 2305843009213693949 := redI_bd _
  have hk := keyOf_right _ hb.1 hb.2
  have hg := gpub (seedKey seed) (by omega)
  have hsg := sig_of (seedKey seed) m hb.1 hb.2
  have ha : 0 ≤ sigE (seedKey seed) (gexp 37 (seedKey seed)) m ∧ sigE (seedKey seed) (gexp 37 (seedKey seed)) m < 2305843009213693950 := chalI_bd _ _ _
  have hs' : 0 ≤ sigS (seedKey seed) (gexp 37 (seedKey seed)) m ∧ sigS (seedKey seed) (gexp 37 (seedKey seed)) m < 2305843009213693950 := emod_bd _ (by decide)
  have hn : 1 ≤ nonceI (seedKey seed) m ∧ nonceI (seedKey seed) m ≤ 2305843009213693949 := redI_bd _
  have hr : commI (gexp 37 (seedKey seed)) (sigE (seedKey seed) (gexp 37 (seedKey seed)) m, sigS (seedKey seed) (gexp 37 (seedKey seed)) m) = gexp 37 (nonceI (seedKey seed) m) := comm_of _ _ _ hb.1 hb.2 (by omega) (by omega) ha.1 ha.2
  have hgn := gexp_bd 37 (nonceI (seedKey seed) m)
  have hv : verI (gexp 37 (seedKey seed)) o (sigE (seedKey seed) (gexp 37 (seedKey seed)) m, sigS (seedKey seed) (gexp 37 (seedKey seed)) m) = (chalI (gexp 37 (nonceI (seedKey seed) m)) (gexp 37 (seedKey seed)) m == chalI (gexp 37 (nonceI (seedKey seed) m)) (gexp 37 (seedKey seed)) o) := by
    unfold verI
    rw [range_of hg ha hs', hr, Bool.true_and]
    rfl
  refine binds_core seed m o w hT (by omega) (by omega) (by omega) _ _ _ _ _ _ _ _ hk (by omega) (by omega) hsg ha.1 ha.2 hs'.1 hs'.2 hr (by omega) rfl rfl rfl hv ?_
  by_cases hmo : m = o
  · subst hmo
    exact .inl (by simp)
  · exact .inr (str_ne hmo)
end Go.Proofs.YtppbplchdfhnkaaDoor.Sign
