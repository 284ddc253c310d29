/-
  The contracts of package agoraref05's Commitment, Ranges, Verify and Sign.
-/
import Derived.Test.YtppbplchdfhnkaaDoorRefSign
set_option linter.unusedVariables false
set_option linter.unusedSimpArgs false
namespace Go.Proofs.YtppbplchdfhnkaaDoor.Sign
open Go.RowKit Grp Mem _root_.Go.Proofs.YtppbplchdfhnkaaDoor.Code Sha

set_option maxHeartbeats 1000000 in
theorem RComm_any (p x y : Int) (w : World) (hx0 : 0 ≤ x) (hx1 : x < 2305843009213693950) (hy0 : -9223372036854775808 ≤ y) (hy1 : y ≤ 9223372036854775807) :
    Calls Tryd.prog 61 #[.int .i64 p, .agg #[.int .i64 x, .int .i64 y]] w fun e w' => e = .returned (.int .i64 (commI p (x, y))) ∧ Q w w' := by
  have hwr : IntKind.i64.wrap (2305843009213693950 - x) = 2305843009213693950 - x := IntWalk.i64_in _ ⟨by omega, by omega⟩
  go_enter Tryd.func61, Tryd.ntmps61
  go_wp2_with fail
  have hb := Blk.new w 71 #[.int .i64 x, .int .i64 y]
  have hq0 := q_new w #[.int .i64 x, .int .i64 y] 71
  have hc0 := hb.cell 0
  have hc1 := hb.cell 1
  simp only [List.getElem?_toArray, List.getElem?_cons_zero, List.getElem?_cons_succ] at hc0 hc1
  have hlt := hb.lt
  generalize hW : w.alloc (.cells #[.int .i64 x, .int .i64 y] 71) = W at *
  clear hb
  go_region_held3 (fun w' => w'.cell? ⟨w.heap.size, 0, none⟩ = some (.int .i64 x) ∧ w'.cell? ⟨w.heap.size, 1, none⟩ = some (.int .i64 y) ∧ w.heap.size < w'.heap.size ∧ Q w w') (first | exact ⟨hc0, hc1, hlt, hq0.drew⟩ | exact held2 (by assumption) hq) (first | (go_at_call 76; refine (RExp_any _ _ _ (by omega) (by omega)).mono ?_; rintro e w' ⟨rfl, hq⟩) | (go_at_call 88; refine (RMul_any _ _ _).mono ?_; rintro e w' ⟨rfl, hq⟩))
  rw [comm_eq]
  go_wp2
  go_ret
  exact ⟨rfl, by rename_i hh; exact hh.2.2.2⟩
end Go.Proofs.YtppbplchdfhnkaaDoor.Sign
