/-
  The contract of package agoraref06's Unwrap.
-/
import Derived.Test.YtppbplchdfhnkaaDoorSealUnwrap
set_option linter.unusedVariables false
set_option linter.unusedSimpArgs false
namespace Go.Proofs.YtppbplchdfhnkaaDoor.Seal
open Go.RowKit Grp Mem _root_.Go.Proofs.YtppbplchdfhnkaaDoor.Code Sha
open Sign (q_new Strs.of)

set_option maxHeartbeats 4000000 in
theorem RUnwrap_no1 (s a b : Int) (n d t : ByteArray) (w : World) (hT : Tab w) (h : s < 1 ∨ 2305843009213693950 ≤ s ∨ b < 1 ∨ 2305843009213693951 ≤ b) :
    Calls Tryd.prog 27 #[.int .i64 s, .agg #[.int .i64 a, .int .i64 b, .string n, .string d, .string t]] w fun e w' => e = .returned (.tuple #[.string (lit []), .bool false]) ∧ Q w w' := by
  have hX := UwH.new w hT a b n d t
  have hq := hX.1
  obtain ⟨c0, c1, c2, c3, c4, -⟩ := hX.held
  have hc : s < 1 ∨ (¬ s < 1 ∧ 2305843009213693950 ≤ s) ∨ (¬ s < 1 ∧ ¬ 2305843009213693950 ≤ s ∧ b < 1) ∨ (¬ s < 1 ∧ ¬ 2305843009213693950 ≤ s ∧ ¬ b < 1 ∧ 2305843009213693951 ≤ b) := by omega
  clear h hX
  rcases hc with g1 | ⟨g1, g2⟩ | ⟨g1, g2, g3⟩ | ⟨g1, g2, g3, g4⟩
  all_goals
    go_enter Tryd.func27, Tryd.ntmps27
    go_wp2
    all_goals
      go_ret2
      exact ⟨rfl, hq⟩

set_option maxHeartbeats 4000000 in
theorem RUnwrap_no2 (s a b G : Int) (n d t : ByteArray) (w : World) (hT : Tab w) (g1 : ¬ s < 1) (g2 : ¬ 2305843009213693950 ≤ s) (g3 : ¬ b < 1) (g4 : ¬ 2305843009213693951 ≤ b) (hG : gexp 37 s = G) (h2 : ¬ a = G) (h2' : (a == G) = false) :
    Calls Tryd.prog 27 #[.int .i64 s, .agg #[.int .i64 a, .int .i64 b, .string n, .string d, .string t]] w fun e w' => e = .returned (.tuple #[.string (lit []), .bool false]) ∧ Q w w' := by
  have hX := UwH.new w hT a b n d t
  obtain ⟨c0, c1, c2, c3, c4, -⟩ := hX.held
  go_enter Tryd.func27, Tryd.ntmps27
  go_wp2_with fail
  go_region_held3 (fun w' => w'.cell? ⟨w.heap.size, 0, none⟩ = some (.int .i64 a) ∧ w'.cell? ⟨w.heap.size, 1, none⟩ = some (.int .i64 b) ∧ w'.cell? ⟨w.heap.size, 2, none⟩ = some (.string n) ∧ w'.cell? ⟨w.heap.size, 3, none⟩ = some (.string d) ∧ w'.cell? ⟨w.heap.size, 4, none⟩ = some (.string t) ∧ UwH w w' w.heap.size a b n d t)
    (first | exact (hX.q (Q.refl _).drew).held | exact UwH.step (by assumption) hq)
    (first
      | (go_at_call 76; refine (RExp_at _ _ _ _ hG (by omega) (by omega)).mono ?_; rintro e w' ⟨rfl, hq⟩))
  all_goals
    have hZZ : Q w w' := by rename_i hh; exact hh.2.2.2.2.2.1
    generalize w' = W1 at *
    clear c0 c1 c2 c3 c4 hX
    go_wp2
    go_ret2
    exact ⟨rfl, hZZ⟩

set_option maxHeartbeats 4000000 in
theorem RUnwrap_yes (s a b Z : Int) (K n d t p : ByteArray) (o : Bool) (w : World) (hT : Tab w) (g1 : ¬ s < 1) (g2 : ¬ 2305843009213693950 ≤ s) (g3 : ¬ b < 1) (g4 : ¬ 2305843009213693951 ≤ b) (hG : gexp 37 s = a) (ha : a ≤ 9223372036854775807) (hb : b ≤ 9223372036854775807) (hZ : gexp b s = Z) (hZ1 : Z ≤ 9223372036854775807)
    (hK : wkB a b Z = K) (hO : openB K (n, d, t) = (p, o)) (hz : K.size + n.size + d.size ≤ 140737488354000) :
    Calls Tryd.prog 27 #[.int .i64 s, .agg #[.int .i64 a, .int .i64 b, .string n, .string d, .string t]] w fun e w' => e = .returned (.tuple #[.string p, .bool o]) ∧ Q w w' := by
  have hX := UwH.new w hT a b n d t
  obtain ⟨c0, c1, c2, c3, c4, -⟩ := hX.held
  go_enter Tryd.func27, Tryd.ntmps27
  go_wp2_with fail
  go_region_held3 (fun w' => w'.cell? ⟨w.heap.size, 0, none⟩ = some (.int .i64 a) ∧ w'.cell? ⟨w.heap.size, 1, none⟩ = some (.int .i64 b) ∧ w'.cell? ⟨w.heap.size, 2, none⟩ = some (.string n) ∧ w'.cell? ⟨w.heap.size, 3, none⟩ = some (.string d) ∧ w'.cell? ⟨w.heap.size, 4, none⟩ = some (.string t) ∧ UwH w w' w.heap.size a b n d t)
    (first | exact (hX.q (Q.refl _).drew).held | exact UwH.step (by assumption) hq)
    (first
      | (go_at_call 76; refine (RExp_at _ _ _ _ hG (by omega) (by omega)).mono ?_; rintro e w' ⟨rfl, hq⟩))
  all_goals
    have hY : UwH w w' w.heap.size a b n d t := by rename_i hh; exact hh.2.2.2.2.2
    generalize w' = W1 at *
    clear c0 c1 c2 c3 c4 hX
    obtain ⟨c0, c1, c2, c3, c4, -⟩ := hY.held
    go_wp2_with fail
    go_region_held3 (fun w' => w'.cell? ⟨w.heap.size, 0, none⟩ = some (.int .i64 a) ∧ w'.cell? ⟨w.heap.size, 1, none⟩ = some (.int .i64 b) ∧ w'.cell? ⟨w.heap.size, 2, none⟩ = some (.string n) ∧ w'.cell? ⟨w.heap.size, 3, none⟩ = some (.string d) ∧ w'.cell? ⟨w.heap.size, 4, none⟩ = some (.string t) ∧ UwH w w' w.heap.size a b n d t)
      (first | exact (hY.q (Q.refl _).drew).held | exact UwH.step (by assumption) hq)
      (first
        | (go_at_call 76; refine (RExp_at _ _ _ _ hZ (by omega) (by omega)).mono ?_; rintro e w' ⟨rfl, hq⟩)
        | (go_at_call 77; refine (Rwk_at _ _ _ _ _ hK ha hb hZ1).mono ?_; rintro e w' ⟨rfl, hq⟩)
        | (go_at_call 23; refine (ROpen_box _ _ _ _ _ _ (by assumption) hO hz).mono ?_; rintro e w' ⟨rfl, hq⟩))
    all_goals
      have hZZ : Q w w' := by rename_i hh; exact hh.2.2.2.2.2.1
      go_wp2
      go_ret2
      exact ⟨rfl, hZZ⟩

theorem RUnwrap_any (s a b : Int) (n d t p : ByteArray) (o : Bool) (w : World) (hT : Tab w) (ha : a ≤ 9223372036854775807) (hb : b ≤ 9223372036854775807) (hz : n.size + d.size ≤ 140737488353000) (hr : unwrapI s (a, b, n, d, t) = (p, o)) :
    Calls Tryd.prog 27 #[.int .i64 s, .agg #[.int .i64 a, .int .i64 b, .string n, .string d, .string t]] w fun e w' => e = .returned (.tuple #[.string p, .bool o]) ∧ Q w w' := by
  by_cases h : s < 1 ∨ 2305843009213693950 ≤ s ∨ b < 1 ∨ 2305843009213693951 ≤ b
  · rw [unwrap_no _ _ (show unwrapOk s (a, b, n, d, t) = false by simp [unwrapOk, isSecI, isPubI]; omega)] at hr
    cases hr
    exact RUnwrap_no1 s a b n d t w hT h
  · by_cases h2 : a = gexp 37 s
    · rw [unwrap_yes _ _ (show unwrapOk s (a, b, n, d, t) = true by simp [unwrapOk, isSecI, isPubI, h2]; omega)] at hr
      have hzb := gexp_bd b s
      exact RUnwrap_yes s a b _ _ n d t p o w hT (by omega) (by omega) (by omega) (by omega) h2.symm ha hb rfl (by omega) rfl hr (by rw [wkB_size]; omega)
    · rw [unwrap_no _ _ (show unwrapOk s (a, b, n, d, t) = false by simp [unwrapOk, h2])] at hr
      cases hr
      exact RUnwrap_no2 s a b _ n d t w hT (by omega) (by omega) (by omega) (by omega) rfl h2 (by simpa using h2)
end Go.Proofs.YtppbplchdfhnkaaDoor.Seal
