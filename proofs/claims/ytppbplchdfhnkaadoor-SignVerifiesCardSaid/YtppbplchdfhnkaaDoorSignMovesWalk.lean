/-
  The walk of agoralaw05.SignMoves.
-/
import Derived.Test.YtppbplchdfhnkaaDoorSignBindsWalk
set_option linter.unusedVariables false
set_option linter.unusedSimpArgs false
namespace Go.Proofs.YtppbplchdfhnkaaDoor.Sign
open Go.RowKit Grp Mem _root_.Go.Proofs.YtppbplchdfhnkaaDoor.Code Sha

/-- Two blocks and a third one are kept. -/
def Tri (w0 w : World) (g1 g2 g3 : Nat) (a b c d e f : Int) : Prop := Two w0 w g1 g2 a b c d ∧ Blk w g3 71 #[.int .i64 e, .int .i64 f]
theorem Tri.q {w0 w w' : World} {g1 g2 g3 : Nat} {a b c d e f : Int} (h : Tri w0 w g1 g2 g3 a b c d e f) (hq : Q w w') : Tri w0 w' g1 g2 g3 a b c d e f := ⟨h.1.q hq, h.2.q hq⟩
theorem Tri.held {w0 w : World} {g1 g2 g3 : Nat} {a b c d e f : Int} (h : Tri w0 w g1 g2 g3 a b c d e f) :
    w.cell? ⟨g1, 0, none⟩ = some (.int .i64 a) ∧ w.cell? ⟨g1, 1, none⟩ = some (.int .i64 b) ∧ w.cell? ⟨g2, 0, none⟩ = some (.int .i64 c) ∧ w.cell? ⟨g2, 1, none⟩ = some (.int .i64 d) ∧ w.cell? ⟨g3, 0, none⟩ = some (.int .i64 e) ∧ w.cell? ⟨g3, 1, none⟩ = some (.int .i64 f) ∧ Tri w0 w g1 g2 g3 a b c d e f :=
  ⟨h.1.2.2.1.cell 0, h.1.2.2.1.cell 1, h.1.2.2.2.cell 0, h.1.2.2.2.cell 1, h.2.cell 0, h.2.cell 1, h⟩
theorem Tri.step {w0 w w' : World} {g1 g2 g3 : Nat} {a b c d e f : Int} (h : w.cell? ⟨g1, 0, none⟩ = some (.int .i64 a) ∧ w.cell? ⟨g1, 1, none⟩ = some (.int .i64 b) ∧ w.cell? ⟨g2, 0, none⟩ = some (.int .i64 c) ∧ w.cell? ⟨g2, 1, none⟩ = some (.int .i64 d) ∧ w.cell? ⟨g3, 0, none⟩ = some (.int .i64 e) ∧ w.cell? ⟨g3, 1, none⟩ = some (.int .i64 f) ∧ Tri w0 w g1 g2 g3 a b c d e f) (hq : Q w w') :
    w'.cell? ⟨g1, 0, none⟩ = some (.int .i64 a) ∧ w'.cell? ⟨g1, 1, none⟩ = some (.int .i64 b) ∧ w'.cell? ⟨g2, 0, none⟩ = some (.int .i64 c) ∧ w'.cell? ⟨g2, 1, none⟩ = some (.int .i64 d) ∧ w'.cell? ⟨g3, 0, none⟩ = some (.int .i64 e) ∧ w'.cell? ⟨g3, 1, none⟩ = some (.int .i64 f) ∧ Tri w0 w' g1 g2 g3 a b c d e f := (h.2.2.2.2.2.2.q hq).held
theorem Verify_tri {w0 w : World} {g1 g2 g3 : Nat} {a b c d e f : Int} (p u v : Int) (m : ByteArray) (r : Bool) (h : w.cell? ⟨g1, 0, none⟩ = some (.int .i64 a) ∧ w.cell? ⟨g1, 1, none⟩ = some (.int .i64 b) ∧ w.cell? ⟨g2, 0, none⟩ = some (.int .i64 c) ∧ w.cell? ⟨g2, 1, none⟩ = some (.int .i64 d) ∧ w.cell? ⟨g3, 0, none⟩ = some (.int .i64 e) ∧ w.cell? ⟨g3, 1, none⟩ = some (.int .i64 f) ∧ Tri w0 w g1 g2 g3 a b c d e f) (hv : verI p m (u, v) = r) (hm : m.size ≤ 140737488355200) :
    Calls Tryd.prog 59 #[.int .i64 p, .string m, .agg #[.int .i64 u, .int .i64 v]] w fun e w' => e = .returned (.bool r) ∧ Q w w' := Verify_at p u v m r w hv h.2.2.2.2.2.2.1.2.1 hm
theorem q_store {w0 w : World} (hq : Q w0 w) (o : Obj) (i j : Nat) (u v : Value) : Q w0 (((w.alloc o).setCell ⟨w.heap.size, i, none⟩ u)) := Below.setCell (q_alloc hq o) hq.size u
theorem AddN_at (a b c : Int) (w : World) (h : gaddN a b = c) : Calls Tryd.prog 63 #[.int .i64 a, .int .i64 b] w fun e w' => e = .returned (.int .i64 c) ∧ w = w' := h ▸ AddN_any a b w
theorem MulN_at (a b c : Int) (w : World) (h : gmulN a b = c) : Calls Tryd.prog 64 #[.int .i64 a, .int .i64 b] w fun e w' => e = .returned (.int .i64 c) ∧ Q w w' := h ▸ MulN_any a b w
theorem Mul_at (a b c : Int) (w : World) (h : gmul a b = c) : Calls Tryd.prog 48 #[.int .i64 a, .int .i64 b] w fun e w' => e = .returned (.int .i64 c) ∧ Q w w' := h ▸ Mul_any a b w
theorem Exp_at (a e r : Int) (w : World) (h : gexp a e = r) (h0 : -9223372036854775808 ≤ e) (h1 : e ≤ 9223372036854775807) : Calls Tryd.prog 30 #[.int .i64 a, .int .i64 e] w fun e' w' => e' = .returned (.int .i64 r) ∧ Q w w' := h ▸ Exp_any a e w h0 h1

set_option maxHeartbeats 2000000 in
theorem moves_core (seed m : ByteArray) (n : Int) (w : World) (hT : Tab w) (hs : seed.size ≤ 2000) (hm : m.size ≤ 2000) (hn0 : -9223372036854775808 ≤ n) (hn1 : n ≤ 9223372036854775807)
    (x y a b r0 g r c e1 : Int) (res : Bool) (hk : keyOf (seedKey seed) = (x, y)) (hx : x ≤ 9223372036854775807) (hy : y ≤ 9223372036854775807) (hsg : sigOf (x, y) m = (a, b)) (ha0 : 0 ≤ a) (ha1 : a < 2305843009213693950) (hb0 : 0 ≤ b) (hb1 : b < 2305843009213693950)
    (hr0 : commI y (a, b) = r0) (hg : gexp 37 n = g) (hr : gmul r0 g = r) (hr1 : r ≤ 9223372036854775807) (hc : gaddN b n = c) (he : chalI r y m = e1) (hres : (e1 == a) = res) (hv : verI y m (a, c) = res) :
    Calls Tryd.prog 18 #[.string seed, .string m, .int .i64 n] w fun e w' => e = .returned (.bool true) ∧ Q w w' := by
  go_enter Tryd.func18, Tryd.ntmps18
  go_wp2_with fail
  refine (small_any _ hT).mono ?_
  rintro e w1 ⟨rfl, hq1⟩
  go_wp2_with fail
  refine (Key_at _ _ _ _ hk (hT.q hq1) (by omega)).mono ?_
  rintro e w2 ⟨rfl, hq2⟩
  have hq2 := Q.trans hq1 hq2
  have hT2 := hT.q hq2
  have hb1' := Blk.new w2 65 #[.int .i64 x, .int .i64 y]
  have hT3 := hT2.q (q_new w2 #[.int .i64 x, .int .i64 y] 65)
  have hq3 := Q.trans hq2 (q_new w2 #[.int .i64 x, .int .i64 y] 65)
  clear hq1 hq2 hT2
  go_wp2_with fail
  refine (Sign_at _ _ _ _ _ _ hsg hT3 hx hy (by omega)).mono ?_
  rintro e w3 ⟨rfl, hq4⟩
  have hT4 := hT3.q hq4
  have hb1' := hb1'.q hq4
  have hq4 := Q.trans hq3 hq4
  have hb2 := Blk.new w3 71 #[.int .i64 a, .int .i64 b]
  have hX : Two w _ w2.heap.size w3.heap.size x y a b := ⟨Q.trans hq4 (q_new _ _ _), hT4.q (q_new _ _ _), hb1'.q (q_new _ _ _), hb2⟩
  clear hb1' hb2 hT4 hq4 hT3 hq3
  obtain ⟨c0, c1, d0, d1, -⟩ := hX.held
  go_wp2_with fail
  refine (RComm_at _ _ _ _ _ hr0 ha0 ha1 (by omega) (by omega)).mono ?_
  rintro e w4 ⟨rfl, hq5⟩
  have hX := hX.q hq5
  clear c0 c1 d0 d1
  go_wp2_with fail
  refine (Exp_at _ _ _ _ hg hn0 hn1).mono ?_
  rintro e w5 ⟨rfl, hq6⟩
  have hX := hX.q hq6
  go_wp2_with fail
  refine (Mul_at _ _ _ _ hr).mono ?_
  rintro e w6 ⟨rfl, hq7⟩
  have hX := hX.q hq7
  clear hq5 hq6 hq7
  go_wp2_with fail
  go_region_held3 (fun w' => w'.cell? ⟨w2.heap.size, 0, none⟩ = some (.int .i64 x) ∧ w'.cell? ⟨w2.heap.size, 1, none⟩ = some (.int .i64 y) ∧ w'.cell? ⟨w3.heap.size, 0, none⟩ = some (.int .i64 a) ∧ w'.cell? ⟨w3.heap.size, 1, none⟩ = some (.int .i64 b) ∧ Two w w' w2.heap.size w3.heap.size x y a b)
    (first | exact (hX.q (Q.refl _).drew).held | (with_reducible assumption) | exact (hX.q (q_alloc (Q.refl _) _)).held | exact (hX.q (q_allocd (Q.refl _) _)).held | exact (hX.q (q_store (Q.refl _) _ _ 0 _ (.bool true))).held | exact (hX.q (q_store (Q.refl _) _ _ 0 _ (.bool true)).drew).held)
    (first
      | (go_at_call 63; refine (AddN_at _ _ _ _ hc).mono ?_; rintro e w' ⟨rfl, rfl⟩))
  all_goals
    have hq8 : Q w6 (w6.alloc (.cells #[.int .i64 a, .int .i64 c] 71)).drew := q_allocd (Q.refl _) _
    have hY : Tri w (w6.alloc (.cells #[.int .i64 a, .int .i64 c] 71)).drew w2.heap.size w3.heap.size w6.heap.size x y a b a c := ⟨hX.q hq8, (Blk.new w6 _ _).drew⟩
    generalize (w6.alloc (.cells #[.int .i64 a, .int .i64 c] 71)).drew = W7 at *
    go_wp2_with fail
    go_region_held3 (fun w' => w'.cell? ⟨w2.heap.size, 0, none⟩ = some (.int .i64 x) ∧ w'.cell? ⟨w2.heap.size, 1, none⟩ = some (.int .i64 y) ∧ w'.cell? ⟨w3.heap.size, 0, none⟩ = some (.int .i64 a) ∧ w'.cell? ⟨w3.heap.size, 1, none⟩ = some (.int .i64 b) ∧ w'.cell? ⟨w6.heap.size, 0, none⟩ = some (.int .i64 a) ∧ w'.cell? ⟨w6.heap.size, 1, none⟩ = some (.int .i64 c) ∧ Tri w w' w2.heap.size w3.heap.size w6.heap.size x y a b a c)
      (first | exact (hY.q (Q.refl _).drew).held | exact Tri.step (by assumption) hq)
      (first
        | (go_at_call 62; refine (RChal_at _ _ _ _ _ (by with_reducible exact he) hr1 hy (by omega)).mono ?_; rintro e w' ⟨rfl, hq⟩)
        | (go_at_call 59; refine (Verify_tri _ _ _ _ _ (by with_reducible assumption) (by with_reducible exact hv) (by omega)).mono ?_; rintro e w' ⟨rfl, hq⟩))
    all_goals
      cases res <;>
      · go_wp2
        go_ret
        exact ⟨by first | rfl | simp, by rename_i hh; exact hh.2.2.2.2.2.2.1.1⟩

set_option maxHeartbeats 1000000 in
theorem moves_big (seed m : ByteArray) (n : Int) (w : World) (hT : Tab w) (h : (decide ((2000 : Int) < (seed.size : Int)) || decide ((2000 : Int) < (m.size : Int))) = true) :
    Calls Tryd.prog 18 #[.string seed, .string m, .int .i64 n] w fun e w' => e = .returned (.bool true) ∧ Q w w' := by
  go_enter Tryd.func18, Tryd.ntmps18
  go_wp2_with fail
  refine (small_any _ hT).mono ?_
  rintro e w1 ⟨rfl, hq1⟩
  go_wp2
  all_goals
    go_ret
    exact ⟨rfl, hq1⟩

/-- The commitment of a signature whose S is moved by d. -/
theorem comm_moved (x a b d : Int) (hx0 : 1 ≤ x) (hx1 : x ≤ 2305843009213693949) (ha0 : 0 ≤ a) (ha1 : a < 2305843009213693950) (hb0 : 0 ≤ b) (hb1 : b < 2305843009213693950) (hd0 : -9223372036854775808 ≤ d) (hd1 : d ≤ 9223372036854775807) :
    commI (gexp 37 x) (a, gaddN b d) = gmul (commI (gexp 37 x) (a, b)) (gexp 37 d) := by
  have hn : (37 : Int) % 2305843009213693951 ≠ 0 := by decide
  have hs : 0 ≤ gaddN b d ∧ gaddN b d < 2305843009213693950 := emod_bd _ (by decide)
  have h1 := gexp_add 37 b d (by omega) hd1 hn
  have h2 : gexp 37 (gaddN b d) = gexp 37 b * gexp 37 d % 2305843009213693951 := by
    rw [h1]
    refine gexp_mod 37 _ _ (by omega) ?_ hn ?_
    · have := emod_bd (b + d) (show (0:Int) < 2305843009213693950 by decide)
      omega
    · unfold gaddN
      omega
  unfold commI gmul
  dsimp only
  rw [h2]
  generalize gexp 37 b = B
  generalize gexp 37 d = D
  generalize gexp (gexp 37 x) (2305843009213693950 - a) = C
  rw [Int.mul_emod, Int.emod_emod_of_dvd _ (Int.dvd_refl _), ← Int.mul_emod, Int.mul_emod (B * C % 2305843009213693951), Int.emod_emod_of_dvd _ (Int.dvd_refl _), ← Int.mul_emod]
  congr 1
  rw [Int.mul_assoc, Int.mul_assoc, Int.mul_comm D C]

theorem moves_any (seed m : ByteArray) (n : Int) (w : World) (hT : Tab w) (hn : -9223372036854775808 ≤ n ∧ n ≤ 9223372036854775807) :
    Calls Tryd.prog 18 #[.string seed, .string m, .int .i64 n] w fun e w' => e = .returned (.bool true) ∧ Q w w' := by
  by_cases h : 2000 < seed.size ∨ 2000 < m.size
  · exact moves_big seed m n w hT (by simp; omega)
  have hb : 1 ≤ seedKey seed ∧ seedKey seed ≤ 2305843009213693949 := redI_bd _
  have hk := keyOf_right _ hb.1 hb.2
  have hg := gpub (seedKey seed) (by omega)
  have hsg := sig_of (seedKey seed) m hb.1 hb.2
  have ha : 0 ≤ sigE (seedKey seed) (gexp 37 (seedKey seed)) m ∧ sigE (seedKey seed) (gexp 37 (seedKey seed)) m < 2305843009213693950 := chalI_bd _ _ _
  have hs' : 0 ≤ sigS (seedKey seed) (gexp 37 (seedKey seed)) m ∧ sigS (seedKey seed) (gexp 37 (seedKey seed)) m < 2305843009213693950 := emod_bd _ (by decide)
  have hc : 0 ≤ gaddN (sigS (seedKey seed) (gexp 37 (seedKey seed)) m) n ∧ gaddN (sigS (seedKey seed) (gexp 37 (seedKey seed)) m) n < 2305843009213693950 := emod_bd _ (by decide)
  have hcm := comm_moved (seedKey seed) _ _ n hb.1 hb.2 ha.1 ha.2 hs'.1 hs'.2 hn.1 hn.2
  have hrb : 0 ≤ gmul (commI (gexp 37 (seedKey seed)) (sigE (seedKey seed) (gexp 37 (seedKey seed)) m, sigS (seedKey seed) (gexp 37 (seedKey seed)) m)) (gexp 37 n) ∧ gmul (commI (gexp 37 (seedKey seed)) (sigE (seedKey seed) (gexp 37 (seedKey seed)) m, sigS (seedKey seed) (gexp 37 (seedKey seed)) m)) (gexp 37 n) < 2305843009213693951 := emod_bd _ (by decide)
  refine moves_core seed m n w hT (by omega) (by omega) hn.1 hn.2 _ _ _ _ _ _ _ _ _ _ hk (by omega) (by omega) hsg ha.1 ha.2 hs'.1 hs'.2 rfl rfl rfl (by omega) rfl rfl rfl ?_
  unfold verI
  rw [range_of hg ha hc, hcm, Bool.true_and]
  generalize gmul _ _ = r
  generalize sigE _ _ _ = a
  by_cases e : a = chalI r (gexp 37 (seedKey seed)) m
  · rw [← e]; simp
  · have e2 : ¬ chalI r (gexp 37 (seedKey seed)) m = a := fun h => e h.symm
    simp [e, e2]
end Go.Proofs.YtppbplchdfhnkaaDoor.Sign
