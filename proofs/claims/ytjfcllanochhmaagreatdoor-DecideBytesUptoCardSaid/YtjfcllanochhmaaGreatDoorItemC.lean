/-
  The contract of item.sameDecision.
-/
import Derived.Test.YtjfcllanochhmaaGreatDoorActSame
import Derived.Test.YtjfcllanochhmaaGreatDoorItemA
set_option linter.unusedVariables false
set_option linter.unusedSimpArgs false
namespace Go.Proofs.YtjfcllanochhmaaGreatDoor.Item
open Go.RowKit Grp Mem _root_.Go.Proofs.YtjfcllanochhmaaGreatDoor.Code Sha Sign

theorem boxed_two (w : World) (t : TypeId) (cs ds : List Value) : ∃ (w1 : World) (x : Wd w1), (w.alloc (.cells cs.toArray t)).alloc (.cells ds.toArray t) = x.w ∧ Q w w1 ∧ (w.heap.size < w1.heap.size ∧ w1.rangeAt w.heap.size 0 cs) ∧ w.heap.size + 1 < w1.heap.size ∧ w1.rangeAt (w.heap.size + 1) 0 ds := by
  have h1 := Blk.new w t cs.toArray
  have h2 := Blk.new (w.alloc (.cells cs.toArray t)) t ds.toArray
  have hq := q_new (w.alloc (.cells cs.toArray t)) ds.toArray t
  have hs : w.heap.size + 1 = (w.alloc (.cells cs.toArray t)).heap.size := by simp
  refine ⟨(w.alloc (.cells cs.toArray t)).alloc (.cells ds.toArray t), ⟨_, Q.refl _⟩, rfl, Q.trans (q_new w _ t) hq, ⟨(h1.q hq).lt, Blk.range (h1.q hq)⟩, ?_, ?_⟩
  · rw [hs]; exact h2.lt
  · rw [hs]; exact Blk.range h2

set_option maxRecDepth 100000 in
set_option maxHeartbeats 16000000 in
theorem sameDec_any (a b : DecR) (w : World) (hI : DecIn w a) (hJ : DecIn w b) : Calls Tryz.prog 98 #[.agg (decA a), .agg (decA b)] w fun e w' => e = .returned (.bool (a.same b)) ∧ Q w w' := by
  obtain ⟨w1, x, hx, hq1, ⟨hA1, hA2⟩, hB1, hB2⟩ := boxed_two w 45 a.cells b.cells
  have hx : (w.alloc (.cells (decA a) 45)).alloc (.cells (decA b) 45) = x.w := hx
  have c0 := Wd.at0 hA1 hA2 0 rfl
  have d0 := Wd.at0 hB1 hB2 0 rfl
  have c1 := Wd.at0 hA1 hA2 1 rfl
  have d1 := Wd.at0 hB1 hB2 1 rfl
  have c2 := Wd.at0 hA1 hA2 2 rfl
  have d2 := Wd.at0 hB1 hB2 2 rfl
  have c3 := Wd.at0 hA1 hA2 3 rfl
  have d3 := Wd.at0 hB1 hB2 3 rfl
  have c4 := Wd.at0 hA1 hA2 4 rfl
  have d4 := Wd.at0 hB1 hB2 4 rfl
  have c5 := Wd.at0 hA1 hA2 5 rfl
  have d5 := Wd.at0 hB1 hB2 5 rfl
  have c6 := Wd.at0 hA1 hA2 6 rfl
  have d6 := Wd.at0 hB1 hB2 6 rfl
  have c7 := Wd.at0 hA1 hA2 7 rfl
  have d7 := Wd.at0 hB1 hB2 7 rfl
  have c8 := Wd.at0 hA1 hA2 8 rfl
  have d8 := Wd.at0 hB1 hB2 8 rfl
  have c9 := Wd.at0 hA1 hA2 9 rfl
  have d9 := Wd.at0 hB1 hB2 9 rfl
  have c10 := Wd.at0 hA1 hA2 10 rfl
  have d10 := Wd.at0 hB1 hB2 10 rfl
  have c11 := Wd.at0 hA1 hA2 11 rfl
  have d11 := Wd.at0 hB1 hB2 11 rfl
  have hSig := sigEq2
  have hS : ∀ y : Wd w1, Strs y.w a.toA a.to := fun y => (hI.q (Q.trans hq1 y.q)).to
  have hT : ∀ y : Wd w1, Strs y.w b.toA b.to := fun y => (hJ.q (Q.trans hq1 y.q)).to
  have l1 := hI.toLen
  have l2 := hJ.toLen
  clear hA1 hA2 hB1 hB2
  go_enter Tryz.func98, Tryz.ntmps98
  go_wp2_with (go_at_call 138; refine (strsEq_any _ _ _ _ _ _ _ (hS _) (hT _) l1 l2).mono ?_; rintro e w' ⟨rfl, hq2⟩; obtain ⟨y, rfl⟩ := Wd.next _ hq2; clear hq2)
  all_goals
    go_ret
    refine ⟨?_, Q.trans hq1 (Wd.q _)⟩
    clear c0 d0 c1 d1 c2 d2 c3 d3 c4 d4 c5 d5 c6 d6 c7 d7 c8 d8 c9 d9 c10 d10 c11 d11 hx hSig hS hT
    simp only [str_iff] at *
    simp [DecR.same, conj, *]
end Go.Proofs.YtjfcllanochhmaaGreatDoor.Item
