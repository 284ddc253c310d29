/-
  The contracts of package agoraref12's bare, fits and Right.
-/
import Derived.Test.YtflgkplneekpfaaGreatDoorRef12
import Derived.Test.YtflgkplneekpfaaGreatDoorRuns
import Derived.Test.YtflgkplneekpfaaGreatDoorItemZ
import Derived.Deep.Cut
set_option linter.unusedVariables false
set_option linter.unusedSimpArgs false
namespace Go.Proofs.YtflgkplneekpfaaGreatDoor.Item
open Go.RowKit Grp Mem _root_.Go.Proofs.YtflgkplneekpfaaGreatDoor.Code Sha Sign

theorem Blk.put {w : World} {g : Nat} {t : TypeId} {cs : List Value} (h : Blk w g t cs.toArray) (o : Nat) (v : Value) : Blk (w.setCell ⟨g, o, none⟩ v) g t (cs.set o v).toArray := by simpa using h.set_ o v
theorem Blk.past {w : World} {b g : Nat} {t : TypeId} {cs : Array Value} (h : Blk w b t cs) (hne : b ≠ g) (o : Nat) (v : Value) : Blk (w.setCell ⟨g, o, none⟩ v) b t cs := (setCells_far hne [v] o w).trans h
theorem q_put {w0 w : World} {g : Nat} (hq : Q w0 w) (hg : w0.heap.size ≤ g) (o : Nat) (v : Value) : Q w0 (w.setCell ⟨g, o, none⟩ v) := Below.setCell hq hg _
def bareR (a : ActR) : ActR := { a with scope := 0, group := emptyT, to := [], toA := none, toC := 0, text := emptyT, bn := emptyT, bd := emptyT, bt := emptyT, epoch := 0 }
set_option maxRecDepth 100000 in
set_option maxHeartbeats 4000000 in
theorem rbare_any (a : ActR) (w : World) : Calls Tryz.prog 277 #[.agg (actA a)] w fun e w' => e = .returned (.agg (actA (bareR a))) ∧ Q w w' := by
  have hb1 := Blk.new w 44 (actA a)
  have hq1 := q_new w (actA a) 44
  have hbr := Blk.new' (g := w.heap.size + 1) (w.alloc (.cells (actA a) 44)) 44 (actA act0) (by simp)
  have hq2 := q_new (w.alloc (.cells (actA a) 44)) (actA act0) 44
  have hb1 := hb1.q hq2
  have hq := Q.trans hq1 hq2
  obtain ⟨w2, hw2⟩ : ∃ w2, w2 = (w.alloc (.cells (actA a) 44)).alloc (.cells (actA act0) 44) := ⟨_, rfl⟩
  rw [← hw2] at hb1 hbr hq
  have HX := Lib.hid hw2.symm
  have c7 : w2.cell? ⟨w.heap.size, 7, none⟩ = some (.int .i64 a.scope) := hb1.cell 7
  have c8 : w2.cell? ⟨w.heap.size, 8, none⟩ = some (.string a.group) := hb1.cell 8
  have c9 : w2.cell? ⟨w.heap.size, 9, none⟩ = some (.slice a.toA a.to.length a.toC) := hb1.cell 9
  have c10 : w2.cell? ⟨w.heap.size, 10, none⟩ = some (.string a.text) := hb1.cell 10
  have c11 : w2.cell? ⟨w.heap.size, 11, none⟩ = some (.string a.bn) := hb1.cell 11
  have c12 : w2.cell? ⟨w.heap.size, 12, none⟩ = some (.string a.bd) := hb1.cell 12
  have c13 : w2.cell? ⟨w.heap.size, 13, none⟩ = some (.string a.bt) := hb1.cell 13
  have c14 : w2.cell? ⟨w.heap.size, 14, none⟩ = some (.int .i64 a.epoch) := hb1.cell 14
  have f7 := hb1.frozen 7
  have f8 := hb1.frozen 8
  have f9 := hb1.frozen 9
  have f10 := hb1.frozen 10
  have f11 := hb1.frozen 11
  have f12 := hb1.frozen 12
  have f13 := hb1.frozen 13
  have f14 := hb1.frozen 14
  clear hw2
  go_enter Tryz.func277, Tryz.ntmps277
  go_upto_region 1 with (fail)
  refine (show Code.wp _ _ _ _ w2 → Code.wp _ _ _ _ _ from fun h => by rw [← HX.out] at h; exact h) ?_
  go_upto_region 7 with (fail)
  have hB := Blk.put (Blk.put (Blk.put (Blk.put (Blk.put (Blk.put (Blk.put (Blk.put (show Blk w2 w.heap.size 44 a.cells.toArray from hb1) 7 (.int .i64 0)) 8 (.string ⟨#[]⟩)) 9 (.slice none 0 0)) 10 (.string ⟨#[]⟩)) 11 (.string ⟨#[]⟩)) 12 (.string ⟨#[]⟩)) 13 (.string ⟨#[]⟩)) 14 (.int .i64 0)
  have hR := Blk.past (Blk.past (Blk.past (Blk.past (Blk.past (Blk.past (Blk.past (Blk.past hbr (g := w.heap.size) (by omega) 7 (.int .i64 0)) (g := w.heap.size) (by omega) 8 (.string ⟨#[]⟩)) (g := w.heap.size) (by omega) 9 (.slice none 0 0)) (g := w.heap.size) (by omega) 10 (.string ⟨#[]⟩)) (g := w.heap.size) (by omega) 11 (.string ⟨#[]⟩)) (g := w.heap.size) (by omega) 12 (.string ⟨#[]⟩)) (g := w.heap.size) (by omega) 13 (.string ⟨#[]⟩)) (g := w.heap.size) (by omega) 14 (.int .i64 0)
  have hQ := q_put (q_put (q_put (q_put (q_put (q_put (q_put (q_put hq (Nat.le_refl _) 7 (.int .i64 0)) (Nat.le_refl _) 8 (.string ⟨#[]⟩)) (Nat.le_refl _) 9 (.slice none 0 0)) (Nat.le_refl _) 10 (.string ⟨#[]⟩)) (Nat.le_refl _) 11 (.string ⟨#[]⟩)) (Nat.le_refl _) 12 (.string ⟨#[]⟩)) (Nat.le_refl _) 13 (.string ⟨#[]⟩)) (Nat.le_refl _) 14 (.int .i64 0)
  generalize World.setCell _ ⟨w.heap.size, 14, none⟩ _ = W at *
  have hB : Blk W w.heap.size 44 (bareR a).cells.toArray := hB
  have hLd := Wd.load (P := Tryz.prog) (ty := 44) hB.lt (Blk.range hB) Tryz.underlying44 rfl (by kernel_rfl) ⟨W, Q.refl W⟩
  have HQ := Lib.hid hQ
  clear c7 c8 c9 c10 c11 c12 c13 c14 f7 f8 f9 f10 f11 f12 f13 f14 hB hQ hq hbr hb1 hq1 hq2 HX
  refine wp_region_lit ?_
  refine wpList_load_run 44 (.tmp 1) (.pointer (some ⟨w.heap.size, 0, none⟩)) (.agg (actA (bareR a))) rfl rfl rfl hLd ?_
  dsimp only [Act.put]
  simp only [List.setIfInBounds_toArray, List.set_cons_succ, List.set_cons_zero]
  refine wpList_store_far hR rfl 44 (.tmp 2) (.tmp 10) (bareR a).cells rfl rfl rfl (by kernel_rfl) (act_all _) (Nat.le_refl 20) ?_
  intro W3 hW3 hbel3 hfar3
  rw [splice_all _ _ (by rfl)] at hW3
  have hq3 : Q w W3 := hbel3 _ _ (Nat.le_succ _) HQ.out
  have HF := Lib.hid hq3
  clear hbel3 hfar3 hLd hq3
  go_wp2_with fail
  exact bodyPost_ret (results_cell_row rfl _ _ (w.heap.size + 1) 44 (actA (bareR a)) (0, 0) _ rfl hW3 Tryz.underlying44 rfl (by kernel_rfl)) rfl ⟨rfl, HF.out⟩
end Go.Proofs.YtflgkplneekpfaaGreatDoor.Item
