/-
  The walk of agoralaw05.SignSolves.
-/
import Derived.Test.YtppbplchdfhnkaaDoorSignMovesWalk
set_option linter.unusedVariables false
set_option linter.unusedSimpArgs false
namespace Go.Proofs.YtppbplchdfhnkaaDoor.Sign
open Go.RowKit Grp Mem _root_.Go.Proofs.YtppbplchdfhnkaaDoor.Code Sha

theorem SubN_at (a b c : Int) (w : World) (h : gsubN a b = c) : Calls Tryd.prog 65 #[.int .i64 a, .int .i64 b] w fun e w' => e = .returned (.int .i64 c) ∧ w = w' := h ▸ SubN_any a b w

set_option maxHeartbeats 4000000 in
theorem solves_core (seed m o : ByteArray) (n : Int) (w : World) (hT : Tab w) (hs : seed.size ≤ 2000) (hm : m.size ≤ 2000) (ho : o.size ≤ 2000) (hn0 : -9223372036854775808 ≤ n) (hn1 : n ≤ 9223372036854775807)
    (x y r e f ex fx s t p q pq qx : Int) (hk : keyOf (seedKey seed) = (x, y)) (hy : y ≤ 9223372036854775807)
    (hr : gexp 37 n = r) (hr1 : r ≤ 9223372036854775807) (he : chalI r y m = e) (hf : chalI r y o = f) (hex : gmulN e x = ex) (hfx : gmulN f x = fx) (hss : gaddN n ex = s) (hts : gaddN n fx = t)
    (hv1 : verI y m (e, s) = true) (hv2 : verI y o (f, t) = true) (hst : gsubN s t = q) (hef : gsubN e f = p) (hpx : gmulN p x = q) :
    Calls Tryd.prog 19 #[.string seed, .string m, .string o, .int .i64 n] w fun e w' => e = .returned (.bool true) ∧ Q w w' := by
  go_enter Tryd.func19, Tryd.ntmps19
  go_wp2_with fail
  refine (small_any _ hT).mono ?_
  rintro e' w1 ⟨rfl, hq1⟩
  go_wp2_with fail
  refine (Key_at _ _ _ _ hk (hT.q hq1) (by omega)).mono ?_
  rintro e' w2 ⟨rfl, hq2⟩
  have hq2 := Q.trans hq1 hq2
  have hT3 := hT.q (Q.trans hq2 (q_new w2 #[.int .i64 x, .int .i64 y] 65))
  have hb1 := Blk.new w2 65 #[.int .i64 x, .int .i64 y]
  have hq3 := Q.trans hq2 (q_new w2 #[.int .i64 x, .int .i64 y] 65)
  clear hq1 hq2
  go_wp2_with fail
  refine (Exp_at _ _ _ _ hr hn0 hn1).mono ?_
  rintro e' w3 ⟨rfl, hq4⟩
  have hT3 := hT3.q hq4
  have hb1 := hb1.q hq4
  have hq3 := Q.trans hq3 hq4
  clear hq4
  have c0 := hb1.cell 0
  have c1 := hb1.cell 1
  simp only [List.getElem?_toArray, List.getElem?_cons_zero, List.getElem?_cons_succ] at c0 c1
  go_wp2_with fail
  refine (RChal_at _ _ _ _ _ he hr1 hy (by omega)).mono ?_
  rintro e' w4 ⟨rfl, hq4⟩
  have hT3 := hT3.q hq4
  have hb1 := hb1.q hq4
  have hq3 := Q.trans hq3 hq4
  clear hq4 c0 c1
  have c0 := hb1.cell 0
  have c1 := hb1.cell 1
  simp only [List.getElem?_toArray, List.getElem?_cons_zero, List.getElem?_cons_succ] at c0 c1
  go_wp2_with fail
  refine (RChal_at _ _ _ _ _ hf hr1 hy (by omega)).mono ?_
  rintro e' w5 ⟨rfl, hq4⟩
  have hT3 := hT3.q hq4
  have hb1 := hb1.q hq4
  have hq3 := Q.trans hq3 hq4
  clear hq4 c0 c1
  have c0 := hb1.cell 0
  have c1 := hb1.cell 1
  simp only [List.getElem?_toArray, List.getElem?_cons_zero, List.getElem?_cons_succ] at c0 c1
  go_wp2_with fail
  refine (MulN_at _ _ _ _ hex).mono ?_
  rintro e' w6 ⟨rfl, hq4⟩
  have hT3 := hT3.q hq4
  have hb1 := hb1.q hq4
  have hq3 := Q.trans hq3 hq4
  clear hq4 c0 c1
  go_wp2_with fail
  refine (AddN_at _ _ _ _ hss).mono ?_
  rintro e' w' ⟨rfl, rfl⟩
  have hqn := q_new w6 #[.int .i64 e, .int .i64 s] 71
  have hT3 := hT3.q hqn
  have hb1 := hb1.q hqn
  have hq3 := Q.trans hq3 hqn
  have hb2 := Blk.new w6 71 #[.int .i64 e, .int .i64 s]
  have c0 := hb1.cell 0
  have c1 := hb1.cell 1
  simp only [List.getElem?_toArray, List.getElem?_cons_zero, List.getElem?_cons_succ] at c0 c1
  clear hqn
  go_wp2_with fail
  refine (MulN_at _ _ _ _ hfx).mono ?_
  rintro e' w7 ⟨rfl, hq4⟩
  have hT3 := hT3.q hq4
  have hb1 := hb1.q hq4
  have hb2 := hb2.q hq4
  have hq3 := Q.trans hq3 hq4
  clear hq4 c0 c1
  go_wp2_with fail
  refine (AddN_at _ _ _ _ hts).mono ?_
  rintro e' w' ⟨rfl, rfl⟩
  have hqn := q_new w7 #[.int .i64 f, .int .i64 t] 71
  have hb3 := Blk.new w7 71 #[.int .i64 f, .int .i64 t]
  have hY : Tri w (w7.alloc (.cells #[.int .i64 f, .int .i64 t] 71)) w2.heap.size w6.heap.size w7.heap.size x y e s f t := ⟨⟨Q.trans hq3 hqn, hT3.q hqn, hb1.q hqn, hb2.q hqn⟩, hb3⟩
  clear hqn hb1 hb2 hb3 hT3 hq3
  obtain ⟨c0, c1, d0, d1, g0, g1, -⟩ := hY.held
  go_wp2_with fail
  refine (Verify_tri _ _ _ _ _ hY.held hv1 (by omega)).mono ?_
  rintro e' w8 ⟨rfl, hq4⟩
  have hY := hY.q hq4
  clear hq4 c0 c1 d0 d1 g0 g1
  obtain ⟨c0, c1, d0, d1, g0, g1, -⟩ := hY.held
  go_wp2_with fail
  refine (Verify_tri _ _ _ _ _ hY.held hv2 (by omega)).mono ?_
  rintro e' w9 ⟨rfl, hq4⟩
  have hY := hY.q hq4
  clear hq4 c0 c1 d0 d1 g0 g1
  go_wp2_with fail
  go_region_held3 (fun w' => w'.cell? ⟨w2.heap.size, 0, none⟩ = some (.int .i64 x) ∧ w'.cell? ⟨w2.heap.size, 1, none⟩ = some (.int .i64 y) ∧ w'.cell? ⟨w6.heap.size, 0, none⟩ = some (.int .i64 e) ∧ w'.cell? ⟨w6.heap.size, 1, none⟩ = some (.int .i64 s) ∧ w'.cell? ⟨w7.heap.size, 0, none⟩ = some (.int .i64 f) ∧ w'.cell? ⟨w7.heap.size, 1, none⟩ = some (.int .i64 t) ∧ Tri w w' w2.heap.size w6.heap.size w7.heap.size x y e s f t)
    (first | exact (hY.q (Q.refl _).drew).held | (with_reducible assumption) | exact Tri.step (by assumption) hq)
    (first
      | (go_at_call 65; refine (SubN_at _ _ _ _ (by with_reducible first | exact hst | exact hef)).mono ?_; rintro e' w' ⟨rfl, rfl⟩)
      | (go_at_call 64; refine (MulN_at _ _ _ _ (by with_reducible exact hpx)).mono ?_; rintro e' w' ⟨rfl, hq⟩))
  all_goals
    have hq0 : (q == q) = true := by simp
    go_wp2
    go_ret
    exact ⟨by first | rfl | simp, by rename_i hh; exact hh.2.2.2.2.2.2.1.1⟩

set_option maxHeartbeats 1000000 in
theorem solves_big (seed m o : ByteArray) (n : Int) (w : World) (hT : Tab w) (h : (decide ((2000 : Int) < (seed.size : Int)) || decide ((2000 : Int) < (m.size : Int)) || decide ((2000 : Int) < (o.size : Int))) = true) :
    Calls Tryd.prog 19 #[.string seed, .string m, .string o, .int .i64 n] w fun e w' => e = .returned (.bool true) ∧ Q w w' := by
  go_enter Tryd.func19, Tryd.ntmps19
  go_wp2_with fail
  refine (small_any _ hT).mono ?_
  rintro e w1 ⟨rfl, hq1⟩
  go_wp2
  all_goals
    go_ret
    exact ⟨rfl, hq1⟩

/-- The commitment that the signer's arithmetic leaves, at any exponent. -/
theorem comm_of_any (x u e : Int) (hx0 : 1 ≤ x) (hx1 : x ≤ 2305843009213693949) (hu1 : u ≤ 9223372036854775807) (he0 : 0 ≤ e) (he1 : e < 2305843009213693950) :
    commI (gexp 37 x) (e, gaddN u (gmulN e x)) = gexp 37 u := by
  have hn : (37 : Int) % 2305843009213693951 ≠ 0 := by decide
  unfold commI gmul
  dsimp only
  have hs : 0 ≤ gaddN u (gmulN e x) ∧ gaddN u (gmulN e x) < 2305843009213693950 := emod_bd _ (by decide)
  rw [gexp_gexp 37 x (2305843009213693950 - e) (by omega) (by omega) hn]
  have hb := emod_bd (x * (2305843009213693950 - e)) (show (0:Int) < 2305843009213693950 by decide)
  rw [gexp_add 37 _ _ (by omega) (by omega) hn]
  refine gexp_mod 37 _ _ ?_ hu1 hn ?_
  · have := emod_bd (gaddN u (gmulN e x) + x * (2305843009213693950 - e) % 2305843009213693950) (show (0:Int) < 2305843009213693950 by decide)
    omega
  · unfold gaddN gmulN
    rw [Int.mul_sub, Int.mul_comm x 2305843009213693950, Int.mul_comm x e]
    generalize e * x = t
    omega
theorem solve_eq (n e f x : Int) : gsubN (gaddN n (gmulN e x)) (gaddN n (gmulN f x)) = gmulN (gsubN e f) x := by
  unfold gsubN gaddN gmulN
  have h1 : (e - f) % 2305843009213693950 * x % 2305843009213693950 = (e - f) * x % 2305843009213693950 := by
    rw [Int.mul_emod, Int.emod_emod_of_dvd _ (Int.dvd_refl _), ← Int.mul_emod]
  rw [h1, Int.sub_mul]
  generalize e * x = a
  generalize f * x = b
  omega

theorem solves_any (seed m o : ByteArray) (n : Int) (w : World) (hT : Tab w) (hn : -9223372036854775808 ≤ n ∧ n ≤ 9223372036854775807) :
    Calls Tryd.prog 19 #[.string seed, .string m, .string o, .int .i64 n] w fun e w' => e = .returned (.bool true) ∧ Q w w' := by
  by_cases h : 2000 < seed.size ∨ 2000 < m.size ∨ 2000 < o.size
  · exact solves_big seed m o n w hT (by simp; omega)
  have hb : 1 ≤ seedKey seed ∧ seedKey seed ≤ 2305843009213693949 := redI_bd _
  have hk := keyOf_right _ hb.1 hb.2
  have hg := gpub (seedKey seed) (by omega)
  have hgn := gexp_bd 37 n
  have hver : ∀ q : ByteArray, verI (gexp 37 (seedKey seed)) q (chalI (gexp 37 n) (gexp 37 (seedKey seed)) q, gaddN n (gmulN (chalI (gexp 37 n) (gexp 37 (seedKey seed)) q) (seedKey seed))) = true := by
    intro q
    have he := chalI_bd (gexp 37 n) (gexp 37 (seedKey seed)) q
    have hs : 0 ≤ gaddN n (gmulN (chalI (gexp 37 n) (gexp 37 (seedKey seed)) q) (seedKey seed)) ∧ gaddN n (gmulN (chalI (gexp 37 n) (gexp 37 (seedKey seed)) q) (seedKey seed)) < 2305843009213693950 := emod_bd _ (by decide)
    unfold verI
    rw [range_of hg he hs, comm_of_any _ _ _ hb.1 hb.2 hn.2 he.1 he.2]
    simp
  exact solves_core seed m o n w hT (by omega) (by omega) (by omega) hn.1 hn.2 _ _ _ _ _ _ _ _ _ _ _ 0 0 hk (by omega) rfl (by omega) rfl rfl rfl rfl rfl rfl (hver m) (hver o) rfl rfl (solve_eq _ _ _ _).symm
end Go.Proofs.YtppbplchdfhnkaaDoor.Sign
