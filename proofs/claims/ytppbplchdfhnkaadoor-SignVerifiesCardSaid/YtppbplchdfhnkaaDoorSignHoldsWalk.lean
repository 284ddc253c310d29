/-
  The walk of agoralaw05.SignHolds.
-/
import Derived.Test.YtppbplchdfhnkaaDoorSignSmall
set_option linter.unusedVariables false
set_option linter.unusedSimpArgs false
namespace Go.Proofs.YtppbplchdfhnkaaDoor.Sign
open Go.RowKit Grp Mem _root_.Go.Proofs.YtppbplchdfhnkaaDoor.Code Sha

theorem keyOf_right (x : Int) (h0 : 1 ≤ x) (h1 : x ≤ 2305843009213693949) : keyOf x = (x, gexp 37 x) := by
  unfold keyOf
  rw [if_neg (by omega)]
theorem rightI_of (x : Int) (h0 : 1 ≤ x) (h1 : x ≤ 2305843009213693949) : rightI (x, gexp 37 x) = true := by
  unfold rightI
  dsimp only
  rw [keyOf_right x h0 h1]
  simp [h0]
/-- The commitment of a signature that was made with u. -/
theorem comm_of (x u e : Int) (hx0 : 1 ≤ x) (hx1 : x ≤ 2305843009213693949) (hu0 : 0 ≤ u) (hu1 : u ≤ 9223372036854775807) (he0 : 0 ≤ e) (he1 : e < 2305843009213693950) :
    commI (gexp 37 x) (e, gaddN u (gmulN e x)) = gexp 37 u := by
  have hn : (37 : Int) % 2305843009213693951 ≠ 0 := by decide
  unfold commI gmul
  dsimp only
  have hs : 0 ≤ gaddN u (gmulN e x) ∧ gaddN u (gmulN e x) < 2305843009213693950 := emod_bd _ (by decide)
  rw [gexp_gexp 37 x (2305843009213693950 - e) (by omega) (by omega) hn]
  have hb := emod_bd (x * (2305843009213693950 - e)) (show (0:Int) < 2305843009213693950 by decide)
  rw [gexp_add 37 _ _ (by omega) (by omega) hn]
  refine gexp_mod 37 _ _ ?_ (by omega) hn ?_
  · have := emod_bd (gaddN u (gmulN e x) + x * (2305843009213693950 - e) % 2305843009213693950) (show (0:Int) < 2305843009213693950 by decide)
    omega
  · unfold gaddN gmulN
    rw [Int.mul_sub, Int.mul_comm x 2305843009213693950, Int.mul_comm x e]
    generalize e * x = t
    omega
theorem chalI_bd (r y : Int) (m : ByteArray) : 0 ≤ chalI r y m ∧ chalI r y m < 2305843009213693950 := emod_bd _ (by decide)
theorem gpub (x : Int) (h : x ≤ 9223372036854775807) : 1 ≤ gexp 37 x ∧ gexp 37 x < 2305843009213693951 := by
  have h1 := gexp_bd 37 x
  have h2 := gexp_ne 37 x h (by decide)
  omega
theorem sig_of (x : Int) (m : ByteArray) (h0 : 1 ≤ x) (h1 : x ≤ 2305843009213693949) : sigOf (x, gexp 37 x) m = (sigE x (gexp 37 x) m, sigS x (gexp 37 x) m) := by
  unfold sigOf
  rw [rightI_of x h0 h1, if_pos rfl]
theorem in_of {n : Int} (h : 0 ≤ n ∧ n < 2305843009213693950) : inI n = true := by
  unfold inI
  simp [h.1, h.2]
theorem range_of {p : Int} {s : Int × Int} (hp : 1 ≤ p ∧ p < 2305843009213693951) (h1 : 0 ≤ s.1 ∧ s.1 < 2305843009213693950) (h2 : 0 ≤ s.2 ∧ s.2 < 2305843009213693950) : rangeI p s = true := by
  unfold rangeI
  rw [in_of h1, in_of h2]
  simp [hp.1, hp.2]
/-- What a right key signs is accepted. -/
theorem ver_of (x : Int) (m : ByteArray) (h0 : 1 ≤ x) (h1 : x ≤ 2305843009213693949) : verI (gexp 37 x) m (sigE x (gexp 37 x) m, sigS x (gexp 37 x) m) = true := by
  have hn : 1 ≤ nonceI x m ∧ nonceI x m ≤ 2305843009213693949 := redI_bd _
  have he : 0 ≤ sigE x (gexp 37 x) m ∧ sigE x (gexp 37 x) m < 2305843009213693950 := chalI_bd _ _ _
  have hs : 0 ≤ sigS x (gexp 37 x) m ∧ sigS x (gexp 37 x) m < 2305843009213693950 := emod_bd _ (by decide)
  unfold verI
  rw [range_of (gpub x (by omega)) he hs]
  have hc : commI (gexp 37 x) (sigE x (gexp 37 x) m, sigS x (gexp 37 x) m) = gexp 37 (nonceI x m) := comm_of x _ _ h0 h1 (by omega) (by omega) he.1 he.2
  rw [hc]
  unfold sigE
  simp
theorem right_zero : rightI (0, 0) = false := by decide +kernel
theorem sig_zero (m : ByteArray) : sigOf (0, 0) m = (0, 0) := by
  unfold sigOf
  rw [right_zero]
  rfl

open Go.Op Go.Instr in
theorem sigEq (x y x' y' : Int) (w : World) : (binOp .eql 71 (.agg #[.int .i64 x, .int .i64 y]) (.agg #[.int .i64 x', .int .i64 y'])).run Tryd.prog w = .ok (.bool (decide (x = x') && decide (y = y'))) w := by
  have u3 := Tryd.underlying3
  have a3 := Tryd.isAgg3
  have z3 := Tryd.sizeOf3
  have hS : Tryd.prog.underlying 71 = some (.struct (Tryd.prog.fieldsOf 71)) := by kernel_rfl
  have hp : Tryd.prog.stoodInHeld 71 = false := by kernel_rfl
  rw [run_eql_struct, show (10000 : Nat) = 9999 + 1 from rfl, run_equalIn_agg w 9999 71 _ _ hS hp]
  simp only [Program.fieldsOf, Tryd.underlying71]
  go_simp
  by_cases h1 : x = x' <;> by_cases h2 : y = y' <;> simp [h1, h2]
open Go.Op Go.Instr in
theorem sigNe (x y : Int) (w : World) : (binOp .neq 71 (.agg #[.int .i64 x, .int .i64 y]) (.agg #[.int .i64 x, .int .i64 y])).run Tryd.prog w = .ok (.bool false) w := by
  have u3 := Tryd.underlying3
  have a3 := Tryd.isAgg3
  have z3 := Tryd.sizeOf3
  have hS : Tryd.prog.underlying 71 = some (.struct (Tryd.prog.fieldsOf 71)) := by kernel_rfl
  have hp : Tryd.prog.stoodInHeld 71 = false := by kernel_rfl
  rw [run_neq_struct, show (10000 : Nat) = 9999 + 1 from rfl, run_equalIn_agg w 9999 71 _ _ hS hp]
  simp only [Program.fieldsOf, Tryd.underlying71]
  go_simp
theorem sigGuard (op : BinOp) (a b : Operand) (xs ys : Array Value) (w : World) : (eqGuard op 71 a b (.agg xs) (.agg ys)).run Tryd.prog w = .ok () w := run_eqGuard_agg w op _ _ _ _ _ (by kernel_rfl)
theorem Sign_two {w0 w : World} {g1 g2 : Nat} {a b c d : Int} (x y e f : Int) (m : ByteArray) (hh : w.cell? ⟨g1, 0, none⟩ = some (.int .i64 a) ∧ w.cell? ⟨g1, 1, none⟩ = some (.int .i64 b) ∧ w.cell? ⟨g2, 0, none⟩ = some (.int .i64 c) ∧ w.cell? ⟨g2, 1, none⟩ = some (.int .i64 d) ∧ Two w0 w g1 g2 a b c d) (h : sigOf (x, y) m = (e, f)) (hx : x ≤ 9223372036854775807) (hy : y ≤ 9223372036854775807) (hm : m.size ≤ 140737488355200) :
    Calls Tryd.prog 57 #[.agg #[.int .i64 x, .int .i64 y], .string m] w fun e' w' => e' = .returned (.agg #[.int .i64 e, .int .i64 f]) ∧ Q w w' := Sign_at x y e f m w h hh.2.2.2.2.2.1 hx hy hm

set_option maxHeartbeats 2000000 in
theorem holds_core (seed : ByteArray) (n : Int) (m : ByteArray) (w : World) (hT : Tab w) (hs : seed.size ≤ 2000) (hm : m.size ≤ 2000)
    (x y a b x2 y2 a2 b2 : Int) (hk : keyOf (seedKey seed) = (x, y)) (hx : x ≤ 9223372036854775807) (hy : y ≤ 9223372036854775807) (hsg : sigOf (x, y) m = (a, b)) (hv : verI y m (a, b) = true)
    (hk2 : keyOf n = (x2, y2)) (hx2 : x2 ≤ 9223372036854775807) (hy2 : y2 ≤ 9223372036854775807) (hsg2 : sigOf (x2, y2) m = (a2, b2)) (e1 : decide (1 ≤ n) = true) (e2 : decide (n < 2305843009213693950) = true) (hv2 : verI y2 m (a2, b2) = true) :
    Calls Tryd.prog 16 #[.string seed, .int .i64 n, .string m] w fun e w' => e = .returned (.bool true) ∧ Q w w' := by
  have hNe := sigNe
  have hEq := sigEq
  have hG := sigGuard
  go_enter Tryd.func16, Tryd.ntmps16
  go_wp2_with fail
  refine (small_any _ hT).mono ?_
  rintro e w1 ⟨rfl, hq1⟩
  go_wp2_with fail
  refine (Key_at _ _ _ _ hk (hT.q hq1) (by omega)).mono ?_
  rintro e w2 ⟨rfl, hq2⟩
  have hq2 := Q.trans hq1 hq2
  have hT2 := hT.q hq2
  have hb1 := Blk.new w2 65 #[.int .i64 x, .int .i64 y]
  have hT3 := hT2.q (q_new w2 #[.int .i64 x, .int .i64 y] 65)
  have hq3 := Q.trans hq2 (q_new w2 #[.int .i64 x, .int .i64 y] 65)
  clear hq1 hq2 hT2
  go_wp2_with fail
  refine (Sign_at _ _ _ _ _ _ hsg hT3 hx hy (by omega)).mono ?_
  rintro e w3 ⟨rfl, hq4⟩
  have hT4 := hT3.q hq4
  have hb1 := hb1.q hq4
  have hq4 := Q.trans hq3 hq4
  have hb2 := Blk.new w3 71 #[.int .i64 a, .int .i64 b]
  have hX : Two w _ w2.heap.size w3.heap.size x y a b := ⟨Q.trans hq4 (q_new _ _ _), hT4.q (q_new _ _ _), hb1.q (q_new _ _ _), hb2⟩
  clear hb1 hb2 hT4 hq4 hT3 hq3
  go_wp2_with fail
  generalize w3.alloc (.cells #[.int .i64 a, .int .i64 b] 71) = W at *
  go_region_held3 (fun w' => w'.cell? ⟨w2.heap.size, 0, none⟩ = some (.int .i64 x) ∧ w'.cell? ⟨w2.heap.size, 1, none⟩ = some (.int .i64 y) ∧ w'.cell? ⟨w3.heap.size, 0, none⟩ = some (.int .i64 a) ∧ w'.cell? ⟨w3.heap.size, 1, none⟩ = some (.int .i64 b) ∧ Two w w' w2.heap.size w3.heap.size x y a b)
    (first | exact (hX.q (Q.refl _).drew).held | exact Two.step (by assumption) hq)
    (first
      | (go_at_call 57; refine (Sign_two _ _ _ _ _ (by with_reducible assumption) (by with_reducible exact hsg) hx hy (by omega)).mono ?_; rintro e w' ⟨rfl, hq⟩)
      | (go_at_call 59; refine (Verify_two _ _ _ (by with_reducible assumption) (by with_reducible exact hv) (by omega)).mono ?_; rintro e w' ⟨rfl, hq⟩))
  have hY : Two w w' w2.heap.size w3.heap.size x y a b := by rename_i hh; exact hh.2.2.2.2
  generalize w' = W2 at *
  go_wp2_with fail
  refine (Of_at _ _ _ _ hk2).mono ?_
  rintro e w4 ⟨rfl, hq5⟩
  have hY := hY.q hq5
  have hb3 := Blk.new w4 65 #[.int .i64 x2, .int .i64 y2]
  have hY := hY.q (q_new w4 #[.int .i64 x2, .int .i64 y2] 65)
  go_wp2_with fail
  refine (Sign_at _ _ _ _ _ _ hsg2 hY.2.1 hx2 hy2 (by omega)).mono ?_
  rintro e w5 ⟨rfl, hq6⟩
  have hY := hY.q hq6
  have hb3 := hb3.q hq6
  have hb4 := Blk.new w5 71 #[.int .i64 a2, .int .i64 b2]
  have hY := hY.q (q_new w5 #[.int .i64 a2, .int .i64 b2] 71)
  have hZ : Two w _ w4.heap.size w5.heap.size x2 y2 a2 b2 := ⟨hY.1, hY.2.1, hb3.q (q_new _ _ _), hb4⟩
  clear hb3 hb4 hq5 hq6
  obtain ⟨c0, c1, d0, d1, -⟩ := hZ.held
  go_wp2_with fail
  refine (Verify_two _ _ _ hZ.held hv2 (by omega)).mono ?_
  rintro e w6 ⟨rfl, hq7⟩
  go_wp2
  go_ret
  exact ⟨rfl, Q.trans hZ.1 hq7⟩
set_option maxHeartbeats 2000000 in
theorem holds_out1 (seed : ByteArray) (n : Int) (m : ByteArray) (w : World) (hT : Tab w) (hs : seed.size ≤ 2000) (hm : m.size ≤ 2000)
    (x y a b : Int) (hk : keyOf (seedKey seed) = (x, y)) (hx : x ≤ 9223372036854775807) (hy : y ≤ 9223372036854775807) (hsg : sigOf (x, y) m = (a, b)) (hv : verI y m (a, b) = true)
    (hk2 : keyOf n = (0, 0)) (e1 : decide (1 ≤ n) = false) :
    Calls Tryd.prog 16 #[.string seed, .int .i64 n, .string m] w fun e w' => e = .returned (.bool true) ∧ Q w w' := by
  have hNe := sigNe
  have hEq := sigEq
  have hG := sigGuard
  go_enter Tryd.func16, Tryd.ntmps16
  go_wp2_with fail
  refine (small_any _ hT).mono ?_
  rintro e w1 ⟨rfl, hq1⟩
  go_wp2_with fail
  refine (Key_at _ _ _ _ hk (hT.q hq1) (by omega)).mono ?_
  rintro e w2 ⟨rfl, hq2⟩
  have hq2 := Q.trans hq1 hq2
  have hT2 := hT.q hq2
  have hb1 := Blk.new w2 65 #[.int .i64 x, .int .i64 y]
  have hT3 := hT2.q (q_new w2 #[.int .i64 x, .int .i64 y] 65)
  have hq3 := Q.trans hq2 (q_new w2 #[.int .i64 x, .int .i64 y] 65)
  clear hq1 hq2 hT2
  go_wp2_with fail
  refine (Sign_at _ _ _ _ _ _ hsg hT3 hx hy (by omega)).mono ?_
  rintro e w3 ⟨rfl, hq4⟩
  have hT4 := hT3.q hq4
  have hb1 := hb1.q hq4
  have hq4 := Q.trans hq3 hq4
  have hb2 := Blk.new w3 71 #[.int .i64 a, .int .i64 b]
  have hX : Two w _ w2.heap.size w3.heap.size x y a b := ⟨Q.trans hq4 (q_new _ _ _), hT4.q (q_new _ _ _), hb1.q (q_new _ _ _), hb2⟩
  clear hb1 hb2 hT4 hq4 hT3 hq3
  go_wp2_with fail
  generalize w3.alloc (.cells #[.int .i64 a, .int .i64 b] 71) = W at *
  go_region_held3 (fun w' => w'.cell? ⟨w2.heap.size, 0, none⟩ = some (.int .i64 x) ∧ w'.cell? ⟨w2.heap.size, 1, none⟩ = some (.int .i64 y) ∧ w'.cell? ⟨w3.heap.size, 0, none⟩ = some (.int .i64 a) ∧ w'.cell? ⟨w3.heap.size, 1, none⟩ = some (.int .i64 b) ∧ Two w w' w2.heap.size w3.heap.size x y a b)
    (first | exact (hX.q (Q.refl _).drew).held | exact Two.step (by assumption) hq)
    (first
      | (go_at_call 57; refine (Sign_two _ _ _ _ _ (by with_reducible assumption) (by with_reducible exact hsg) hx hy (by omega)).mono ?_; rintro e w' ⟨rfl, hq⟩)
      | (go_at_call 59; refine (Verify_two _ _ _ (by with_reducible assumption) (by with_reducible exact hv) (by omega)).mono ?_; rintro e w' ⟨rfl, hq⟩))
  have hY : Two w w' w2.heap.size w3.heap.size x y a b := by rename_i hh; exact hh.2.2.2.2
  generalize w' = W2 at *
  go_wp2_with fail
  refine (Of_at _ _ _ _ hk2).mono ?_
  rintro e w4 ⟨rfl, hq5⟩
  have hY := hY.q hq5
  have hb3 := Blk.new w4 65 #[.int .i64 0, .int .i64 0]
  have hY := hY.q (q_new w4 #[.int .i64 0, .int .i64 0] 65)
  go_wp2_with fail
  refine (Sign_at _ _ _ _ _ _ (sig_zero m) hY.2.1 (by decide) (by decide) (by omega)).mono ?_
  rintro e w5 ⟨rfl, hq6⟩
  have hY := hY.q hq6
  have hb3 := hb3.q hq6
  have hb4 := Blk.new w5 71 #[.int .i64 0, .int .i64 0]
  have hY := hY.q (q_new w5 #[.int .i64 0, .int .i64 0] 71)
  have hZ : Two w _ w4.heap.size w5.heap.size 0 0 0 0 := ⟨hY.1, hY.2.1, hb3.q (q_new _ _ _), hb4⟩
  clear hb3 hb4 hq5 hq6
  obtain ⟨c0, c1, d0, d1, -⟩ := hZ.held
  go_wp2
  go_ret
  exact ⟨rfl, hZ.1⟩
set_option maxHeartbeats 2000000 in
theorem holds_out2 (seed : ByteArray) (n : Int) (m : ByteArray) (w : World) (hT : Tab w) (hs : seed.size ≤ 2000) (hm : m.size ≤ 2000)
    (x y a b : Int) (hk : keyOf (seedKey seed) = (x, y)) (hx : x ≤ 9223372036854775807) (hy : y ≤ 9223372036854775807) (hsg : sigOf (x, y) m = (a, b)) (hv : verI y m (a, b) = true)
    (hk2 : keyOf n = (0, 0)) (e1 : decide (1 ≤ n) = true) (e2 : decide (n < 2305843009213693950) = false) :
    Calls Tryd.prog 16 #[.string seed, .int .i64 n, .string m] w fun e w' => e = .returned (.bool true) ∧ Q w w' := by
  have hNe := sigNe
  have hEq := sigEq
  have hG := sigGuard
  go_enter Tryd.func16, Tryd.ntmps16
  go_wp2_with fail
  refine (small_any _ hT).mono ?_
  rintro e w1 ⟨rfl, hq1⟩
  go_wp2_with fail
  refine (Key_at _ _ _ _ hk (hT.q hq1) (by omega)).mono ?_
  rintro e w2 ⟨rfl, hq2⟩
  have hq2 := Q.trans hq1 hq2
  have hT2 := hT.q hq2
  have hb1 := Blk.new w2 65 #[.int .i64 x, .int .i64 y]
  have hT3 := hT2.q (q_new w2 #[.int .i64 x, .int .i64 y] 65)
  have hq3 := Q.trans hq2 (q_new w2 #[.int .i64 x, .int .i64 y] 65)
  clear hq1 hq2 hT2
  go_wp2_with fail
  refine (Sign_at _ _ _ _ _ _ hsg hT3 hx hy (by omega)).mono ?_
  rintro e w3 ⟨rfl, hq4⟩
  have hT4 := hT3.q hq4
  have hb1 := hb1.q hq4
  have hq4 := Q.trans hq3 hq4
  have hb2 := Blk.new w3 71 #[.int .i64 a, .int .i64 b]
  have hX : Two w _ w2.heap.size w3.heap.size x y a b := ⟨Q.trans hq4 (q_new _ _ _), hT4.q (q_new _ _ _), hb1.q (q_new _ _ _), hb2⟩
  clear hb1 hb2 hT4 hq4 hT3 hq3
  go_wp2_with fail
  generalize w3.alloc (.cells #[.int .i64 a, .int .i64 b] 71) = W at *
  go_region_held3 (fun w' => w'.cell? ⟨w2.heap.size, 0, none⟩ = some (.int .i64 x) ∧ w'.cell? ⟨w2.heap.size, 1, none⟩ = some (.int .i64 y) ∧ w'.cell? ⟨w3.heap.size, 0, none⟩ = some (.int .i64 a) ∧ w'.cell? ⟨w3.heap.size, 1, none⟩ = some (.int .i64 b) ∧ Two w w' w2.heap.size w3.heap.size x y a b)
    (first | exact (hX.q (Q.refl _).drew).held | exact Two.step (by assumption) hq)
    (first
      | (go_at_call 57; refine (Sign_two _ _ _ _ _ (by with_reducible assumption) (by with_reducible exact hsg) hx hy (by omega)).mono ?_; rintro e w' ⟨rfl, hq⟩)
      | (go_at_call 59; refine (Verify_two _ _ _ (by with_reducible assumption) (by with_reducible exact hv) (by omega)).mono ?_; rintro e w' ⟨rfl, hq⟩))
  have hY : Two w w' w2.heap.size w3.heap.size x y a b := by rename_i hh; exact hh.2.2.2.2
  generalize w' = W2 at *
  go_wp2_with fail
  refine (Of_at _ _ _ _ hk2).mono ?_
  rintro e w4 ⟨rfl, hq5⟩
  have hY := hY.q hq5
  have hb3 := Blk.new w4 65 #[.int .i64 0, .int .i64 0]
  have hY := hY.q (q_new w4 #[.int .i64 0, .int .i64 0] 65)
  go_wp2_with fail
  refine (Sign_at _ _ _ _ _ _ (sig_zero m) hY.2.1 (by decide) (by decide) (by omega)).mono ?_
  rintro e w5 ⟨rfl, hq6⟩
  have hY := hY.q hq6
  have hb3 := hb3.q hq6
  have hb4 := Blk.new w5 71 #[.int .i64 0, .int .i64 0]
  have hY := hY.q (q_new w5 #[.int .i64 0, .int .i64 0] 71)
  have hZ : Two w _ w4.heap.size w5.heap.size 0 0 0 0 := ⟨hY.1, hY.2.1, hb3.q (q_new _ _ _), hb4⟩
  clear hb3 hb4 hq5 hq6
  obtain ⟨c0, c1, d0, d1, -⟩ := hZ.held
  go_wp2
  go_ret
  exact ⟨rfl, hZ.1⟩

set_option maxHeartbeats 1000000 in
theorem holds_big (seed : ByteArray) (n : Int) (m : ByteArray) (w : World) (hT : Tab w) (h : 2000 < seed.size ∨ 2000 < m.size) :
    Calls Tryd.prog 16 #[.string seed, .int .i64 n, .string m] w fun e w' => e = .returned (.bool true) ∧ Q w w' := by
  by_cases h1 : 2000 < seed.size
  · have e1 : decide ((2000 : Int) < (seed.size : Int)) = true := by simp; omega
    clear h
    go_enter Tryd.func16, Tryd.ntmps16
    go_wp2_with fail
    refine (small_any _ hT).mono ?_
    rintro e w1 ⟨rfl, hq1⟩
    go_wp2
    go_ret
    exact ⟨rfl, hq1⟩
  · have e1 : decide ((2000 : Int) < (seed.size : Int)) = false := by simp; omega
    have e2 : decide ((2000 : Int) < (m.size : Int)) = true := by simp; omega
    clear h
    go_enter Tryd.func16, Tryd.ntmps16
    go_wp2_with fail
    refine (small_any _ hT).mono ?_
    rintro e w1 ⟨rfl, hq1⟩
    go_wp2
    go_ret
    exact ⟨rfl, hq1⟩

theorem holds_any (seed : ByteArray) (n : Int) (m : ByteArray) (w : World) (hT : Tab w) :
    Calls Tryd.prog 16 #[.string seed, .int .i64 n, .string m] w fun e w' => e = .returned (.bool true) ∧ Q w w' := by
  by_cases h : 2000 < seed.size ∨ 2000 < m.size
  · exact holds_big seed n m w hT h
  have hs : seed.size ≤ 2000 := by omega
  have hm : m.size ≤ 2000 := by omega
  have hb : 1 ≤ seedKey seed ∧ seedKey seed ≤ 2305843009213693949 := redI_bd _
  have hk := keyOf_right _ hb.1 hb.2
  have hg := gpub (seedKey seed) (by omega)
  have hsg := sig_of _ m hb.1 hb.2
  have hv := ver_of _ m hb.1 hb.2
  by_cases h1 : 1 ≤ n
  · have e1 : decide (1 ≤ n) = true := by simp [h1]
    by_cases h2 : n < 2305843009213693950
    · have e2 : decide (n < 2305843009213693950) = true := by simp [h2]
      have hg2 := gpub n (by omega)
      exact holds_core seed n m w hT hs hm _ _ _ _ _ _ _ _ hk (by omega) (by omega) hsg hv (keyOf_right n h1 (by omega)) (by omega) (by omega) (sig_of n m h1 (by omega)) e1 e2 (ver_of n m h1 (by omega))
    · have e2 : decide (n < 2305843009213693950) = false := by simp; omega
      exact holds_out2 seed n m w hT hs hm _ _ _ _ hk (by omega) (by omega) hsg hv (by unfold keyOf; rw [if_pos (by omega)]) e1 e2
  · have e1 : decide (1 ≤ n) = false := by simp; omega
    exact holds_out1 seed n m w hT hs hm _ _ _ _ hk (by omega) (by omega) hsg hv (by unfold keyOf; rw [if_pos (by omega)]) e1
end Go.Proofs.YtppbplchdfhnkaaDoor.Sign
