/-
  The contract of act.Same.
-/
import Derived.Test.YtjfcllanochhmaaGreatDoorSlEq
set_option linter.unusedVariables false
set_option linter.unusedSimpArgs false
namespace Go.Proofs.YtjfcllanochhmaaGreatDoor.Item
open Go.RowKit Grp Mem _root_.Go.Proofs.YtjfcllanochhmaaGreatDoor.Code Sha Sign

open Go.Op Go.Instr in
theorem sigEq2 (a b a' b' : Int) (w : World) : (binOp .eql 37 (.agg #[.int .i64 a, .int .i64 b]) (.agg #[.int .i64 a', .int .i64 b'])).run Tryz.prog w = .ok (.bool (decide (a = a') && decide (b = b'))) w := by
  have u4 := Tryz.underlying3
  have a4 := Tryz.isAgg3
  have z4 := Tryz.sizeOf3
  have hS : Tryz.prog.underlying 37 = some (.struct (Tryz.prog.fieldsOf 37)) := by kernel_rfl
  have hp : Tryz.prog.stoodInHeld 37 = false := by kernel_rfl
  rw [run_eql_struct, show (10000 : Nat) = 9999 + 1 from rfl, run_equalIn_agg w 9999 37 _ _ hS hp]
  simp only [Program.fieldsOf, Tryz.underlying37]
  go_simp
  by_cases h1 : a = a' <;> by_cases h2 : b = b' <;> simp [h1, h2]
theorem ActAt.two (w : World) (a b : ActR) (t : TypeId) : ∃ (w1 : World) (x : Wd w1), (w.alloc (.cells (actA a) t)).alloc (.cells (actA b) t) = x.w ∧ Q w w1 ∧ ActAt w1 w.heap.size a ∧ ActAt w1 (w.heap.size + 1) b := by
  have h1 := ActAt.new w a t
  have h2 := ActAt.new (w.alloc (.cells (actA a) t)) b t
  have hq := q_new (w.alloc (.cells (actA a) t)) (actA b) t
  refine ⟨(w.alloc (.cells (actA a) t)).alloc (.cells (actA b) t), ⟨_, Q.refl _⟩, rfl, Q.trans (q_new w _ t) hq, ⟨Nat.lt_of_lt_of_le h1.lt hq.size, range_q h1.range hq h1.lt⟩, ?_⟩
  rw [show w.heap.size + 1 = (w.alloc (.cells (actA a) t)).heap.size by simp]
  exact h2

set_option maxRecDepth 100000 in
set_option maxHeartbeats 16000000 in
theorem actSame_any (a b : ActR) (w : World) (hI : ActIn w a) (hJ : ActIn w b) : Calls Tryz.prog 97 #[.agg (actA a), .agg (actA b)] w fun e w' => e = .returned (.bool (a.same b)) ∧ Q w w' := by
  obtain ⟨w1, x, hx, hq1, hA, hB⟩ := ActAt.two w a b 39
  have c0 := hA.get 0 rfl
  have d0 := hB.get 0 rfl
  have c1 := hA.get 1 rfl
  have d1 := hB.get 1 rfl
  have c2 := hA.get 2 rfl
  have d2 := hB.get 2 rfl
  have c3 := hA.get 3 rfl
  have d3 := hB.get 3 rfl
  have c4 := hA.get 4 rfl
  have d4 := hB.get 4 rfl
  have c5 := hA.get 5 rfl
  have d5 := hB.get 5 rfl
  have c6 := hA.get 6 rfl
  have d6 := hB.get 6 rfl
  have c7 := hA.get 7 rfl
  have d7 := hB.get 7 rfl
  have c8 := hA.get 8 rfl
  have d8 := hB.get 8 rfl
  have c9 := hA.get 9 rfl
  have d9 := hB.get 9 rfl
  have c10 := hA.get 10 rfl
  have d10 := hB.get 10 rfl
  have c11 := hA.get 11 rfl
  have d11 := hB.get 11 rfl
  have c12 := hA.get 12 rfl
  have d12 := hB.get 12 rfl
  have c13 := hA.get 13 rfl
  have d13 := hB.get 13 rfl
  have c14 := hA.get 14 rfl
  have d14 := hB.get 14 rfl
  have c15 := hA.get 15 rfl
  have d15 := hB.get 15 rfl
  have c16 := hA.get 16 rfl
  have d16 := hB.get 16 rfl
  have c17 := hA.get 17 rfl
  have d17 := hB.get 17 rfl
  have c18 := hA.get 18 rfl
  have d18 := hB.get 18 rfl
  have c19 := hA.get 19 rfl
  have d19 := hB.get 19 rfl
  have hBox := boxEq
  have hSig := sigEq2
  have hS : ∀ y : Wd w1, Strs y.w a.toA a.to := fun y => (hI.q (Q.trans hq1 y.q)).to
  have hT : ∀ y : Wd w1, Strs y.w b.toA b.to := fun y => (hJ.q (Q.trans hq1 y.q)).to
  have hU : ∀ y : Wd w1, Wrs y.w a.wrA a.wraps := fun y => (hI.q (Q.trans hq1 y.q)).wraps
  have hV : ∀ y : Wd w1, Wrs y.w b.wrA b.wraps := fun y => (hJ.q (Q.trans hq1 y.q)).wraps
  have l1 := hI.toLen
  have l2 := hJ.toLen
  have l3 := hI.wrLen
  have l4 := hJ.wrLen
  clear hA hB
  go_enter Tryz.func97, Tryz.ntmps97
  go_wp2_with (first | (go_at_call 138; refine (strsEq_any _ _ _ _ _ _ _ (hS _) (hT _) l1 l2).mono ?_; rintro e w' ⟨rfl, hq2⟩; obtain ⟨y, rfl⟩ := Wd.next _ hq2; clear hq2) | (go_at_call 139; refine (wrsEq_any _ _ _ _ _ _ _ (hU _) (hV _) l3 l4).mono ?_; rintro e w' ⟨rfl, hq2⟩; obtain ⟨y, rfl⟩ := Wd.next _ hq2; clear hq2))
  all_goals
    go_ret
    refine ⟨?_, Q.trans hq1 (Wd.q _)⟩
    clear c0 d0 c1 d1 c2 d2 c3 d3 c4 d4 c5 d5 c6 d6 c7 d7 c8 d8 c9 d9 c10 d10 c11 d11 c12 d12 c13 d13 c14 d14 c15 d15 c16 d16 c17 d17 c18 d18 c19 d19 hx hBox hSig hS hT hU hV
    simp only [str_iff] at *
    simp [ActR.same, conj, *]
  all_goals exact fun e1 e2 e3 => absurd ⟨e1, e2, e3⟩ ‹¬(a.bn = b.bn ∧ a.bd = b.bd ∧ a.bt = b.bt)›
end Go.Proofs.YtjfcllanochhmaaGreatDoor.Item
