/-
  The walk of agoralaw05.SignTells.
-/
import Derived.Test.YtppbplchdfhnkaaDoorRefSign4
set_option linter.unusedVariables false
set_option linter.unusedSimpArgs false
namespace Go.Proofs.YtppbplchdfhnkaaDoor.Sign
open Go.RowKit Grp Mem _root_.Go.Proofs.YtppbplchdfhnkaaDoor.Code Sha

/-- Two keys are kept. -/
def Kyt (w0 w : World) (g0 g1 : Nat) (c d x y : Int) : Prop := Q w0 w ∧ Tab w ∧ Blk w g0 65 #[.int .i64 c, .int .i64 d] ∧ Blk w g1 65 #[.int .i64 x, .int .i64 y]
section
variable {w0 w w' : World} {g0 g1 : Nat} {c d x y : Int}
theorem Kyt.q (h : Kyt w0 w g0 g1 c d x y) (hq : Q w w') : Kyt w0 w' g0 g1 c d x y := ⟨Q.trans h.1 hq, h.2.1.q hq, h.2.2.1.q hq, h.2.2.2.q hq⟩
theorem Kyt.held (h : Kyt w0 w g0 g1 c d x y) : w.cell? ⟨g0, 0, none⟩ = some (.int .i64 c) ∧ w.cell? ⟨g0, 1, none⟩ = some (.int .i64 d) ∧ w.cell? ⟨g1, 0, none⟩ = some (.int .i64 x) ∧ w.cell? ⟨g1, 1, none⟩ = some (.int .i64 y) ∧ Kyt w0 w g0 g1 c d x y :=
  ⟨h.2.2.1.cell 0, h.2.2.1.cell 1, h.2.2.2.cell 0, h.2.2.2.cell 1, h⟩
theorem Kyt.step (h : w.cell? ⟨g0, 0, none⟩ = some (.int .i64 c) ∧ w.cell? ⟨g0, 1, none⟩ = some (.int .i64 d) ∧ w.cell? ⟨g1, 0, none⟩ = some (.int .i64 x) ∧ w.cell? ⟨g1, 1, none⟩ = some (.int .i64 y) ∧ Kyt w0 w g0 g1 c d x y) (hq : Q w w') :
    w'.cell? ⟨g0, 0, none⟩ = some (.int .i64 c) ∧ w'.cell? ⟨g0, 1, none⟩ = some (.int .i64 d) ∧ w'.cell? ⟨g1, 0, none⟩ = some (.int .i64 x) ∧ w'.cell? ⟨g1, 1, none⟩ = some (.int .i64 y) ∧ Kyt w0 w' g0 g1 c d x y := (h.2.2.2.2.q hq).held
theorem Sign_kyt (u v a b : Int) (m : ByteArray) (h : w.cell? ⟨g0, 0, none⟩ = some (.int .i64 c) ∧ w.cell? ⟨g0, 1, none⟩ = some (.int .i64 d) ∧ w.cell? ⟨g1, 0, none⟩ = some (.int .i64 x) ∧ w.cell? ⟨g1, 1, none⟩ = some (.int .i64 y) ∧ Kyt w0 w g0 g1 c d x y) (hs : sigOf (u, v) m = (a, b)) (hu : u ≤ 9223372036854775807) (hv : v ≤ 9223372036854775807) (hm : m.size ≤ 2000) :
    Calls Tryd.prog 57 #[.agg #[.int .i64 u, .int .i64 v], .string m] w fun e w' => e = .returned (.agg #[.int .i64 a, .int .i64 b]) ∧ Q w w' := Sign_at u v a b m w hs h.2.2.2.2.2.1 hu hv (by omega)
theorem RSign_kyt (u v a b : Int) (m : ByteArray) (h : w.cell? ⟨g0, 0, none⟩ = some (.int .i64 c) ∧ w.cell? ⟨g0, 1, none⟩ = some (.int .i64 d) ∧ w.cell? ⟨g1, 0, none⟩ = some (.int .i64 x) ∧ w.cell? ⟨g1, 1, none⟩ = some (.int .i64 y) ∧ Kyt w0 w g0 g1 c d x y) (hs : sigOf (u, v) m = (a, b)) (hu : u ≤ 9223372036854775807) (hv : v ≤ 9223372036854775807) (hm : m.size ≤ 2000) :
    Calls Tryd.prog 58 #[.agg #[.int .i64 u, .int .i64 v], .string m] w fun e w' => e = .returned (.agg #[.int .i64 a, .int .i64 b]) ∧ Q w w' := RSign_at u v a b m w hs h.2.2.2.2.2.1 hu hv (by omega)
end

set_option maxHeartbeats 4000000 in
theorem tells_core (c d : Int) (seed m : ByteArray) (w : World) (hT : Tab w) (hs : seed.size ≤ 2000) (hm : m.size ≤ 2000)
    (x y a1 b1 a2 b2 : Int) (hc : c ≤ 9223372036854775807) (hd : d ≤ 9223372036854775807) (hk : keyOf (seedKey seed) = (x, y)) (hx : x ≤ 9223372036854775807) (hy : y ≤ 9223372036854775807) (hs1 : sigOf (c, d) m = (a1, b1)) (hs2 : sigOf (x, y) m = (a2, b2)) :
    Calls Tryd.prog 14 #[.agg #[.int .i64 c, .int .i64 d], .string seed, .string m] w fun e w' => e = .returned (.bool true) ∧ Q w w' := by
  have hEq := sigEq
  have hG := sigGuard
  have hqn := q_new w #[.int .i64 c, .int .i64 d] 65
  have hb0 := Blk.new w 65 #[.int .i64 c, .int .i64 d]
  have hT0 := hT.q hqn
  go_enter Tryd.func14, Tryd.ntmps14
  go_wp2_with fail
  refine (small_any _ hT0).mono ?_
  rintro e w1 ⟨rfl, hq1⟩
  have hT1 := hT0.q hq1
  have hb0 := hb0.q hq1
  have hq := Q.trans hqn hq1
  clear hqn hq1 hT0
  go_wp2_with fail
  refine (RKey_at _ _ _ _ hk (by omega)).mono ?_
  rintro e w2 ⟨rfl, hq2⟩
  have hqq := Q.trans hq2 (q_new w2 #[.int .i64 x, .int .i64 y] 65)
  have hY : Kyt w (w2.alloc (.cells #[.int .i64 x, .int .i64 y] 65)) w.heap.size w2.heap.size c d x y := ⟨Q.trans hq hqq, hT1.q hqq, hb0.q hqq, Blk.new w2 _ _⟩
  clear hqq hq2 hq hb0 hT1
  go_wp2_with fail
  go_region_held3 (fun w' => w'.cell? ⟨w.heap.size, 0, none⟩ = some (.int .i64 c) ∧ w'.cell? ⟨w.heap.size, 1, none⟩ = some (.int .i64 d) ∧ w'.cell? ⟨w2.heap.size, 0, none⟩ = some (.int .i64 x) ∧ w'.cell? ⟨w2.heap.size, 1, none⟩ = some (.int .i64 y) ∧ Kyt w w' w.heap.size w2.heap.size c d x y)
    (first | exact (hY.q (Q.refl _).drew).held | exact Kyt.step (by assumption) hq)
    (first
      | (go_at_call 57; refine (Sign_kyt _ _ _ _ _ (by with_reducible assumption) (by with_reducible first | exact hs1 | exact hs2) (by omega) (by omega) hm).mono ?_; rintro e w' ⟨rfl, hq⟩)
      | (go_at_call 58; refine (RSign_kyt _ _ _ _ _ (by with_reducible assumption) (by with_reducible first | exact hs1 | exact hs2) (by omega) (by omega) hm).mono ?_; rintro e w' ⟨rfl, hq⟩))
  all_goals
    go_wp2
    go_ret
    exact ⟨by first | rfl | simp, by rename_i hh; exact hh.2.2.2.2.1⟩

set_option maxHeartbeats 1000000 in
theorem tells_big (c d : Int) (seed m : ByteArray) (w : World) (hT : Tab w) (h : (decide ((2000 : Int) < (seed.size : Int)) || decide ((2000 : Int) < (m.size : Int))) = true) :
    Calls Tryd.prog 14 #[.agg #[.int .i64 c, .int .i64 d], .string seed, .string m] w fun e w' => e = .returned (.bool true) ∧ Q w w' := by
  have hqn := q_new w #[.int .i64 c, .int .i64 d] 65
  go_enter Tryd.func14, Tryd.ntmps14
  go_wp2_with fail
  refine (small_any _ (hT.q hqn)).mono ?_
  rintro e w1 ⟨rfl, hq1⟩
  go_wp2
  all_goals
    go_ret
    exact ⟨rfl, Q.trans hqn hq1⟩

theorem tells_any (c d : Int) (seed m : ByteArray) (w : World) (hT : Tab w) (hc : -9223372036854775808 ≤ c ∧ c ≤ 9223372036854775807) (hd : -9223372036854775808 ≤ d ∧ d ≤ 9223372036854775807) :
    Calls Tryd.prog 14 #[.agg #[.int .i64 c, .int .i64 d], .string seed, .string m] w fun e w' => e = .returned (.bool true) ∧ Q w w' := by
  by_cases h : 2000 < seed.size ∨ 2000 < m.size
  · exact tells_big c d seed m w hT (by simp; omega)
  have hb : 1 ≤ seedKey seed ∧ seedKey seed ≤ 2305843009213693949 := redI_bd _
  have hk := keyOf_right _ hb.1 hb.2
  have hg := gpub (seedKey seed) (by omega)
  exact tells_core c d seed m w hT (by omega) (by omega) _ _ _ _ _ _ hc.2 hd.2 hk (by omega) (by omega) rfl rfl
end Go.Proofs.YtppbplchdfhnkaaDoor.Sign
