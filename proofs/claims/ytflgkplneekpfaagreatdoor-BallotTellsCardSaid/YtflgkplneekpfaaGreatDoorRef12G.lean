/-
  The contract of agoraref12.fits, kind 16 (printed by gen_fits.py).
-/
import Derived.Test.YtflgkplneekpfaaGreatDoorRef12C
set_option linter.unusedVariables false
set_option linter.unusedSimpArgs false
namespace Go.Proofs.YtflgkplneekpfaaGreatDoor.Item
open Go.RowKit Grp Mem _root_.Go.Proofs.YtflgkplneekpfaaGreatDoor.Code Sha Sign

theorem scope_of (a : ActR) : sealedScopeB a.scope a.group = (decide (1 ≤ a.scope) && (decide (a.scope ≤ 3) && rgroupB a)) := by
  unfold sealedScopeB rgroupB
  by_cases h2 : a.scope = 2
  · simp [h2]
  · rw [if_neg h2, if_neg h2]
    by_cases h13 : a.scope = 1 ∨ a.scope = 3
    · rw [if_pos h13, decide_eq_true (show 1 ≤ a.scope by omega), decide_eq_true (show a.scope ≤ 3 by omega)]
      rfl
    · rw [if_neg h13]
      by_cases h1 : 1 ≤ a.scope
      · rw [decide_eq_false (show ¬ a.scope ≤ 3 by omega)]
        simp
      · rw [decide_eq_false h1]
        rfl

set_option maxRecDepth 100000 in
set_option maxHeartbeats 40000000 in
theorem rfits_16 (a : ActR) (w : World) (hI : ActIn w a) (ho : ActOk a) (hk : a.kind = 16) : Calls Tryz.prog 258 #[.agg (actA a)] w fun e w' => e = .returned (.bool (fitsB a)) ∧ Q w w' := by
  have hml : maxLen ≤ 9223372036854775807 := by decide
  obtain ⟨w1, x, hx, hq1, hA⟩ := ActAt.box w a 44
  have hL1 := hA.load
  have hx1 := x.q.size
  have hlt1 := hA.lt
  have HF := Lib.hid (fits_mask a 16 (by decide) hk)
  go_enter Tryz.func258, Tryz.ntmps258
  go_wp2_with (first | (refine wpList_load_run 44 (.tmp 1) (.pointer (some ⟨w.heap.size, 0, none⟩)) (.agg (actA a)) ?_ ?_ ?_ ?_ ?_; rfl; rfl; rfl; exact hL1 _) | (refine wpList_store_blk (Blk.new x.w 44 act0.cells.toArray) rfl 44 (.tmp 3) (.tmp 11) a.cells rfl rfl rfl (by kernel_rfl) (act_all _) (Nat.le_refl 20) ?_))
  intro W hW hbel
  rw [splice_all _ _ (by rfl)] at hW
  have hqx : Q x.w W := hbel _ _ (Nat.le_refl _) (q_new _ _ _)
  have hqW : Q w W := Q.trans hq1 (Q.trans x.q hqx)
  have hA := ActAt.mk (w0 := W) (g := w.heap.size) (a := a) (Nat.lt_of_lt_of_le hlt1 (Q.trans x.q hqx).size) (range_q hA.range (Q.trans x.q hqx) hlt1)
  have hgs : w.heap.size ≤ x.w.heap.size := Nat.le_trans hq1.size x.q.size
  generalize hg : x.w.heap.size = g at *
  have c3 := hA.get 3 rfl
  rw [hk] at c3
  have c7 := hA.get 7 rfl
  have c9 := hA.get 9 rfl
  have c14 := hA.get 14 rfl
  have hL := hA.load
  have hIn : ∀ y : Wd W, ActIn y.w a := fun y => hI.q (Q.trans hqW y.q)
  have hS : ∀ y : Wd W, Strs y.w a.toA a.to := fun y => (hIn y).to
  have hlen : a.to.length ≤ 9223372036854775807 := hI.toLen
  have hzt : ∀ s ∈ a.to, s.size ≤ maxLen := ho.to
  have hzg : a.group.size ≤ maxLen := ho.strs _ (by simp)
  have hzx : a.text.size ≤ maxLen := ho.strs _ (by simp)
  have hzr : a.target.size ≤ maxLen := ho.strs _ (by simp)
  have hnf : ∀ (y : Wd W) (j : Nat), y.w.frozen? ⟨g, j, none⟩ = false := fun y j => (y.blk hW).frozen j
  have d7 : ∀ y : Wd W, y.w.cell? ⟨g, 7, none⟩ = _ := fun y => (y.blk hW).cell 7
  have d8 : ∀ y : Wd W, y.w.cell? ⟨g, 8, none⟩ = _ := fun y => (y.blk hW).cell 8
  have d9 : ∀ y : Wd W, y.w.cell? ⟨g, 9, none⟩ = _ := fun y => (y.blk hW).cell 9
  have d14 : ∀ y : Wd W, y.w.cell? ⟨g, 14, none⟩ = _ := fun y => (y.blk hW).cell 14
  have d15 : ∀ y : Wd W, y.w.cell? ⟨g, 15, none⟩ = _ := fun y => (y.blk hW).cell 15
  have f7 : ∀ y : Wd W, y.w.frozen? ⟨g, 7, none⟩ = false := fun y => (y.blk hW).frozen 7
  have f8 : ∀ y : Wd W, y.w.frozen? ⟨g, 8, none⟩ = false := fun y => (y.blk hW).frozen 8
  have f9 : ∀ y : Wd W, y.w.frozen? ⟨g, 9, none⟩ = false := fun y => (y.blk hW).frozen 9
  have f14 : ∀ y : Wd W, y.w.frozen? ⟨g, 14, none⟩ = false := fun y => (y.blk hW).frozen 14
  have f15 : ∀ y : Wd W, y.w.frozen? ⟨g, 15, none⟩ = false := fun y => (y.blk hW).frozen 15
  clear hnf
  have HK := Lib.hid hk
  obtain ⟨v, hv⟩ := Wd.first W
  have HI := Lib.hid hI
  have HO := Lib.hid ho
  clear hbel hL1 hk hI hqx hx1 hlt1 hx hA hq1 hg hml
  clear ho
  rw [hv]
  clear hv
  rcases ways7 (idsB a.to) (decide (1 ≤ a.scope)) (decide (a.scope ≤ 3)) (rgroupB a) (decide (0 ≤ a.epoch)) (decide (a.epoch ≤ 1073741824)) (wrappedB a) with g1 | ⟨g1, g2⟩ | ⟨g1, g2, g3⟩ | ⟨g1, g2, g3, g4⟩ | ⟨g1, g2, g3, g4, g5⟩ | ⟨g1, g2, g3, g4, g5, g6⟩ | ⟨g1, g2, g3, g4, g5, g6, g7⟩ | ⟨g1, g2, g3, g4, g5, g6, g7⟩
  all_goals (try simp only [decide_eq_true_eq, decide_eq_false_iff_not] at *)
  all_goals
    go_upto_region 80 with (first | (refine wpList_load_run 44 (.tmp 1) (.pointer (some ⟨w.heap.size, 0, none⟩)) (.agg (actA a)) ?_ ?_ ?_ ?_ ?_; rfl; rfl; rfl; exact hL _) | (go_at_call 274; refine (rpublic_any _ _).mono ?_; rintro e w' ⟨rfl, rfl⟩) | (go_at_call 261; refine (rids_any _ _ _ _ (hS _) hlen hzt).mono ?_; rintro e w' ⟨rfl, hq2⟩; obtain ⟨y, rfl⟩ := Wd.next _ hq2; clear hq2) | (go_at_call 278; refine (rgroup_any a _ hzg).mono ?_; rintro e w' ⟨rfl, hq2⟩; obtain ⟨y, rfl⟩ := Wd.next _ hq2; clear hq2) | (go_at_call 279; refine (rwrapped_any a _ (hIn _)).mono ?_; rintro e w' ⟨rfl, hq2⟩; obtain ⟨y, rfl⟩ := Wd.next _ hq2; clear hq2))
  all_goals
    refine put5_out (C := fun u => Code.wp _ _ _ _ u) hW hqW hgs ?_
    intro W2 hB hQ2
    have hB : Blk W2 g 44 (ActR.cells { a with scope := 0, group := emptyT, to := [], toA := none, toC := 0, epoch := 0, wraps := [], wrA := none, wrC := 0 }).toArray := hB
    have hLd := Wd.load (P := Tryz.prog) (ty := 44) hB.lt (Blk.range hB) Tryz.underlying44 rfl (by kernel_rfl) ⟨W2, Q.refl W2⟩
    have HQ2 := Lib.hid hQ2
    clear hB hQ2 hW hL
    go_wp2_with (first | (refine wpList_load_run 44 (.tmp 3) (.pointer (some ⟨g, 0, none⟩)) (.agg (actA { a with scope := 0, group := emptyT, to := [], toA := none, toC := 0, epoch := 0, wraps := [], wrA := none, wrC := 0 })) ?_ ?_ ?_ ?_ ?_; rfl; rfl; rfl; exact hLd) | (go_at_call 280; refine (rzero_any { a with scope := 0, group := emptyT, to := [], toA := none, toC := 0, epoch := 0, wraps := [], wrA := none, wrC := 0 } _).mono ?_; rintro e w' ⟨rfl, hq2⟩))
  all_goals
    go_ret
    refine ⟨?_, by first | exact Q.trans HQ2.out hq2 | exact HQ2.out⟩
    rw [HF.out]
    clear c3 hLd HQ2 HI HO hqW hgs
    simp_all [maskOk, conj, inMask, ruleF, ruleB, zeroB, homeB, objectB, targetB, grantB, labelB, setupB, publicB, digestB, shortB, noneE, bodyNone, bareR, scope_of, withinB, cast32, empty_none, toList_nil, intz]
  all_goals (first | rfl | (rw [Bool.eq_iff_iff]; simp; done) | (intros; omega) | (intros; have := noneB_size (s := a.object) (by assumption); omega))
end Go.Proofs.YtflgkplneekpfaaGreatDoor.Item
