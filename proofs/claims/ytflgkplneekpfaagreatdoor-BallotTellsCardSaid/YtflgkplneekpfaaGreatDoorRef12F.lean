/-
  The contract of agoraref12.fits, kinds 7 to 12, 15, 17, 18, 21 to 23 (printed by gen_fits.py).
-/
import Derived.Test.YtflgkplneekpfaaGreatDoorRef12C
set_option linter.unusedVariables false
set_option linter.unusedSimpArgs false
namespace Go.Proofs.YtflgkplneekpfaaGreatDoor.Item
open Go.RowKit Grp Mem _root_.Go.Proofs.YtflgkplneekpfaaGreatDoor.Code Sha Sign

set_option maxRecDepth 100000 in
set_option maxHeartbeats 8000000 in
theorem rfits_7 (a : ActR) (w : World) (hI : ActIn w a) (ho : ActOk a) (hk : a.kind = 7) : Calls Tryz.prog 258 #[.agg (actA a)] w fun e w' => e = .returned (.bool (fitsB a)) ∧ Q w w' := by
  have hml : maxLen ≤ 9223372036854775807 := by decide
  obtain ⟨w1, x, hx, hq1, hA⟩ := ActAt.box w a 44
  have hL1 := hA.load
  have hx1 := x.q.size
  have hlt1 := hA.lt
  have HF := Lib.hid (fits_mask a 7 (by decide) hk)
  go_enter Tryz.func258, Tryz.ntmps258
  go_wp2_with (first | (refine wpList_load_run 44 (.tmp 1) (.pointer (some ⟨w.heap.size, 0, none⟩)) (.agg (actA a)) ?_ ?_ ?_ ?_ ?_; rfl; rfl; rfl; exact hL1 _) | (refine wpList_store_blk (Blk.new x.w 44 act0.cells.toArray) rfl 44 (.tmp 3) (.tmp 11) a.cells rfl rfl rfl (by kernel_rfl) (act_all _) (Nat.le_refl 20) ?_))
  intro W hW hbel
  rw [splice_all _ _ (by rfl)] at hW
  have hqx : Q x.w W := hbel _ _ (Nat.le_refl _) (q_new _ _ _)
  have hqW : Q w W := Q.trans hq1 (Q.trans x.q hqx)
  have hA := ActAt.mk (w0 := W) (g := w.heap.size) (a := a) (Nat.lt_of_lt_of_le hlt1 (Q.trans x.q hqx).size) (range_q hA.range (Q.trans x.q hqx) hlt1)
  have hgs : w.heap.size ≤ x.w.heap.size := Nat.le_trans hq1.size x.q.size
  generalize hg : x.w.heap.size = g at *
  have c3 := hA.get 3 rfl
  rw [hk] at c3
  have c6 := hA.get 6 rfl
  have hL := hA.load
  have hIn : ∀ y : Wd W, ActIn y.w a := fun y => hI.q (Q.trans hqW y.q)
  have hzg : a.group.size ≤ maxLen := ho.strs _ (by simp)
  have hzx : a.text.size ≤ maxLen := ho.strs _ (by simp)
  have hzr : a.target.size ≤ maxLen := ho.strs _ (by simp)
  have hnf : ∀ (y : Wd W) (j : Nat), y.w.frozen? ⟨g, j, none⟩ = false := fun y j => (y.blk hW).frozen j
  have d6 : ∀ y : Wd W, y.w.cell? ⟨g, 6, none⟩ = _ := fun y => (y.blk hW).cell 6
  have f6 : ∀ y : Wd W, y.w.frozen? ⟨g, 6, none⟩ = false := fun y => (y.blk hW).frozen 6
  clear hnf
  have HK := Lib.hid hk
  obtain ⟨v, hv⟩ := Wd.first W
  have HI := Lib.hid hI
  have HO := Lib.hid ho
  clear hbel hL1 hk hI hqx hx1 hlt1 hx hA hq1 hg hml
  clear ho
  clear hIn
  rw [hv]
  clear hv
  cases g1 : idB a.target
  all_goals
    go_upto_region 80 with (first | (go_at_call 274; refine (rpublic_any _ _).mono ?_; rintro e w' ⟨rfl, rfl⟩) | (go_at_call 257; refine (ridRight_any _ _ (by with_reducible assumption)).mono ?_; rintro e w' ⟨rfl, rfl⟩))
  all_goals
    refine put1_out (C := fun u => Code.wp _ _ _ _ u) hW hqW hgs ?_
    intro W2 hB hQ2
    have hB : Blk W2 g 44 (ActR.cells { a with target := emptyT }).toArray := hB
    have hLd := Wd.load (P := Tryz.prog) (ty := 44) hB.lt (Blk.range hB) Tryz.underlying44 rfl (by kernel_rfl) ⟨W2, Q.refl W2⟩
    have HQ2 := Lib.hid hQ2
    clear hB hQ2 hW hL
    go_wp2_with (first | (refine wpList_load_run 44 (.tmp 3) (.pointer (some ⟨g, 0, none⟩)) (.agg (actA { a with target := emptyT })) ?_ ?_ ?_ ?_ ?_; rfl; rfl; rfl; exact hLd) | (go_at_call 280; refine (rzero_any { a with target := emptyT } _).mono ?_; rintro e w' ⟨rfl, hq2⟩))
  all_goals
    go_ret
    refine ⟨?_, by first | exact Q.trans HQ2.out hq2 | exact HQ2.out⟩
    rw [HF.out]
    clear c3 hLd HQ2 HI HO hqW hgs
    simp_all [maskOk, conj, inMask, ruleF, ruleB, zeroB, homeB, objectB, targetB, grantB, labelB, setupB, publicB, digestB, shortB, noneE, bodyNone, bareR, sealedScopeB, rgroupB, withinB, cast32, empty_none, toList_nil, intz]
  all_goals (first | rfl | (rw [Bool.eq_iff_iff]; simp; done) | (intros; omega) | (intros; have := noneB_size (s := a.object) (by assumption); omega))
set_option maxRecDepth 100000 in
set_option maxHeartbeats 8000000 in
theorem rfits_8 (a : ActR) (w : World) (hI : ActIn w a) (ho : ActOk a) (hk : a.kind = 8) : Calls Tryz.prog 258 #[.agg (actA a)] w fun e w' => e = .returned (.bool (fitsB a)) ∧ Q w w' := by
  have hml : maxLen ≤ 9223372036854775807 := by decide
  obtain ⟨w1, x, hx, hq1, hA⟩ := ActAt.box w a 44
  have hL1 := hA.load
  have hx1 := x.q.size
  have hlt1 := hA.lt
  have HF := Lib.hid (fits_mask a 8 (by decide) hk)
  go_enter Tryz.func258, Tryz.ntmps258
  go_wp2_with (first | (refine wpList_load_run 44 (.tmp 1) (.pointer (some ⟨w.heap.size, 0, none⟩)) (.agg (actA a)) ?_ ?_ ?_ ?_ ?_; rfl; rfl; rfl; exact hL1 _) | (refine wpList_store_blk (Blk.new x.w 44 act0.cells.toArray) rfl 44 (.tmp 3) (.tmp 11) a.cells rfl rfl rfl (by kernel_rfl) (act_all _) (Nat.le_refl 20) ?_))
  intro W hW hbel
  rw [splice_all _ _ (by rfl)] at hW
  have hqx : Q x.w W := hbel _ _ (Nat.le_refl _) (q_new _ _ _)
  have hqW : Q w W := Q.trans hq1 (Q.trans x.q hqx)
  have hA := ActAt.mk (w0 := W) (g := w.heap.size) (a := a) (Nat.lt_of_lt_of_le hlt1 (Q.trans x.q hqx).size) (range_q hA.range (Q.trans x.q hqx) hlt1)
  have hgs : w.heap.size ≤ x.w.heap.size := Nat.le_trans hq1.size x.q.size
  generalize hg : x.w.heap.size = g at *
  have c3 := hA.get 3 rfl
  rw [hk] at c3
  have c6 := hA.get 6 rfl
  have hL := hA.load
  have hIn : ∀ y : Wd W, ActIn y.w a := fun y => hI.q (Q.trans hqW y.q)
  have hzg : a.group.size ≤ maxLen := ho.strs _ (by simp)
  have hzx : a.text.size ≤ maxLen := ho.strs _ (by simp)
  have hzr : a.target.size ≤ maxLen := ho.strs _ (by simp)
  have hnf : ∀ (y : Wd W) (j : Nat), y.w.frozen? ⟨g, j, none⟩ = false := fun y j => (y.blk hW).frozen j
  have d6 : ∀ y : Wd W, y.w.cell? ⟨g, 6, none⟩ = _ := fun y => (y.blk hW).cell 6
  have f6 : ∀ y : Wd W, y.w.frozen? ⟨g, 6, none⟩ = false := fun y => (y.blk hW).frozen 6
  clear hnf
  have HK := Lib.hid hk
  obtain ⟨v, hv⟩ := Wd.first W
  have HI := Lib.hid hI
  have HO := Lib.hid ho
  clear hbel hL1 hk hI hqx hx1 hlt1 hx hA hq1 hg hml
  clear ho
  clear hIn
  rw [hv]
  clear hv
  cases g1 : idB a.target
  all_goals
    go_upto_region 80 with (first | (go_at_call 274; refine (rpublic_any _ _).mono ?_; rintro e w' ⟨rfl, rfl⟩) | (go_at_call 257; refine (ridRight_any _ _ (by with_reducible assumption)).mono ?_; rintro e w' ⟨rfl, rfl⟩))
  all_goals
    refine put1_out (C := fun u => Code.wp _ _ _ _ u) hW hqW hgs ?_
    intro W2 hB hQ2
    have hB : Blk W2 g 44 (ActR.cells { a with target := emptyT }).toArray := hB
    have hLd := Wd.load (P := Tryz.prog) (ty := 44) hB.lt (Blk.range hB) Tryz.underlying44 rfl (by kernel_rfl) ⟨W2, Q.refl W2⟩
    have HQ2 := Lib.hid hQ2
    clear hB hQ2 hW hL
    go_wp2_with (first | (refine wpList_load_run 44 (.tmp 3) (.pointer (some ⟨g, 0, none⟩)) (.agg (actA { a with target := emptyT })) ?_ ?_ ?_ ?_ ?_; rfl; rfl; rfl; exact hLd) | (go_at_call 280; refine (rzero_any { a with target := emptyT } _).mono ?_; rintro e w' ⟨rfl, hq2⟩))
  all_goals
    go_ret
    refine ⟨?_, by first | exact Q.trans HQ2.out hq2 | exact HQ2.out⟩
    rw [HF.out]
    clear c3 hLd HQ2 HI HO hqW hgs
    simp_all [maskOk, conj, inMask, ruleF, ruleB, zeroB, homeB, objectB, targetB, grantB, labelB, setupB, publicB, digestB, shortB, noneE, bodyNone, bareR, sealedScopeB, rgroupB, withinB, cast32, empty_none, toList_nil, intz]
  all_goals (first | rfl | (rw [Bool.eq_iff_iff]; simp; done) | (intros; omega) | (intros; have := noneB_size (s := a.object) (by assumption); omega))
set_option maxRecDepth 100000 in
set_option maxHeartbeats 8000000 in
theorem rfits_9 (a : ActR) (w : World) (hI : ActIn w a) (ho : ActOk a) (hk : a.kind = 9) : Calls Tryz.prog 258 #[.agg (actA a)] w fun e w' => e = .returned (.bool (fitsB a)) ∧ Q w w' := by
  have hml : maxLen ≤ 9223372036854775807 := by decide
  obtain ⟨w1, x, hx, hq1, hA⟩ := ActAt.box w a 44
  have hL1 := hA.load
  have hx1 := x.q.size
  have hlt1 := hA.lt
  have HF := Lib.hid (fits_mask a 9 (by decide) hk)
  go_enter Tryz.func258, Tryz.ntmps258
  go_wp2_with (first | (refine wpList_load_run 44 (.tmp 1) (.pointer (some ⟨w.heap.size, 0, none⟩)) (.agg (actA a)) ?_ ?_ ?_ ?_ ?_; rfl; rfl; rfl; exact hL1 _) | (refine wpList_store_blk (Blk.new x.w 44 act0.cells.toArray) rfl 44 (.tmp 3) (.tmp 11) a.cells rfl rfl rfl (by kernel_rfl) (act_all _) (Nat.le_refl 20) ?_))
  intro W hW hbel
  rw [splice_all _ _ (by rfl)] at hW
  have hqx : Q x.w W := hbel _ _ (Nat.le_refl _) (q_new _ _ _)
  have hqW : Q w W := Q.trans hq1 (Q.trans x.q hqx)
  have hA := ActAt.mk (w0 := W) (g := w.heap.size) (a := a) (Nat.lt_of_lt_of_le hlt1 (Q.trans x.q hqx).size) (range_q hA.range (Q.trans x.q hqx) hlt1)
  have hgs : w.heap.size ≤ x.w.heap.size := Nat.le_trans hq1.size x.q.size
  generalize hg : x.w.heap.size = g at *
  have c3 := hA.get 3 rfl
  rw [hk] at c3
  have c6 := hA.get 6 rfl
  have hL := hA.load
  have hIn : ∀ y : Wd W, ActIn y.w a := fun y => hI.q (Q.trans hqW y.q)
  have hzg : a.group.size ≤ maxLen := ho.strs _ (by simp)
  have hzx : a.text.size ≤ maxLen := ho.strs _ (by simp)
  have hzr : a.target.size ≤ maxLen := ho.strs _ (by simp)
  have hnf : ∀ (y : Wd W) (j : Nat), y.w.frozen? ⟨g, j, none⟩ = false := fun y j => (y.blk hW).frozen j
  have d6 : ∀ y : Wd W, y.w.cell? ⟨g, 6, none⟩ = _ := fun y => (y.blk hW).cell 6
  have f6 : ∀ y : Wd W, y.w.frozen? ⟨g, 6, none⟩ = false := fun y => (y.blk hW).frozen 6
  clear hnf
  have HK := Lib.hid hk
  obtain ⟨v, hv⟩ := Wd.first W
  have HI := Lib.hid hI
  have HO := Lib.hid ho
  clear hbel hL1 hk hI hqx hx1 hlt1 hx hA hq1 hg hml
  clear ho
  clear hIn
  rw [hv]
  clear hv
  cases g1 : idB a.target
  all_goals
    go_upto_region 80 with (first | (go_at_call 274; refine (rpublic_any _ _).mono ?_; rintro e w' ⟨rfl, rfl⟩) | (go_at_call 257; refine (ridRight_any _ _ (by with_reducible assumption)).mono ?_; rintro e w' ⟨rfl, rfl⟩))
  all_goals
    refine put1_out (C := fun u => Code.wp _ _ _ _ u) hW hqW hgs ?_
    intro W2 hB hQ2
    have hB : Blk W2 g 44 (ActR.cells { a with target := emptyT }).toArray := hB
    have hLd := Wd.load (P := Tryz.prog) (ty := 44) hB.lt (Blk.range hB) Tryz.underlying44 rfl (by kernel_rfl) ⟨W2, Q.refl W2⟩
    have HQ2 := Lib.hid hQ2
    clear hB hQ2 hW hL
    go_wp2_with (first | (refine wpList_load_run 44 (.tmp 3) (.pointer (some ⟨g, 0, none⟩)) (.agg (actA { a with target := emptyT })) ?_ ?_ ?_ ?_ ?_; rfl; rfl; rfl; exact hLd) | (go_at_call 280; refine (rzero_any { a with target := emptyT } _).mono ?_; rintro e w' ⟨rfl, hq2⟩))
  all_goals
    go_ret
    refine ⟨?_, by first | exact Q.trans HQ2.out hq2 | exact HQ2.out⟩
    rw [HF.out]
    clear c3 hLd HQ2 HI HO hqW hgs
    simp_all [maskOk, conj, inMask, ruleF, ruleB, zeroB, homeB, objectB, targetB, grantB, labelB, setupB, publicB, digestB, shortB, noneE, bodyNone, bareR, sealedScopeB, rgroupB, withinB, cast32, empty_none, toList_nil, intz]
  all_goals (first | rfl | (rw [Bool.eq_iff_iff]; simp; done) | (intros; omega) | (intros; have := noneB_size (s := a.object) (by assumption); omega))
set_option maxRecDepth 100000 in
set_option maxHeartbeats 8000000 in
theorem rfits_10 (a : ActR) (w : World) (hI : ActIn w a) (ho : ActOk a) (hk : a.kind = 10) : Calls Tryz.prog 258 #[.agg (actA a)] w fun e w' => e = .returned (.bool (fitsB a)) ∧ Q w w' := by
  have hml : maxLen ≤ 9223372036854775807 := by decide
  obtain ⟨w1, x, hx, hq1, hA⟩ := ActAt.box w a 44
  have hL1 := hA.load
  have hx1 := x.q.size
  have hlt1 := hA.lt
  have HF := Lib.hid (fits_mask a 10 (by decide) hk)
  go_enter Tryz.func258, Tryz.ntmps258
  go_wp2_with (first | (refine wpList_load_run 44 (.tmp 1) (.pointer (some ⟨w.heap.size, 0, none⟩)) (.agg (actA a)) ?_ ?_ ?_ ?_ ?_; rfl; rfl; rfl; exact hL1 _) | (refine wpList_store_blk (Blk.new x.w 44 act0.cells.toArray) rfl 44 (.tmp 3) (.tmp 11) a.cells rfl rfl rfl (by kernel_rfl) (act_all _) (Nat.le_refl 20) ?_))
  intro W hW hbel
  rw [splice_all _ _ (by rfl)] at hW
  have hqx : Q x.w W := hbel _ _ (Nat.le_refl _) (q_new _ _ _)
  have hqW : Q w W := Q.trans hq1 (Q.trans x.q hqx)
  have hA := ActAt.mk (w0 := W) (g := w.heap.size) (a := a) (Nat.lt_of_lt_of_le hlt1 (Q.trans x.q hqx).size) (range_q hA.range (Q.trans x.q hqx) hlt1)
  have hgs : w.heap.size ≤ x.w.heap.size := Nat.le_trans hq1.size x.q.size
  generalize hg : x.w.heap.size = g at *
  have c3 := hA.get 3 rfl
  rw [hk] at c3
  have c6 := hA.get 6 rfl
  have hL := hA.load
  have hIn : ∀ y : Wd W, ActIn y.w a := fun y => hI.q (Q.trans hqW y.q)
  have hzg : a.group.size ≤ maxLen := ho.strs _ (by simp)
  have hzx : a.text.size ≤ maxLen := ho.strs _ (by simp)
  have hzr : a.target.size ≤ maxLen := ho.strs _ (by simp)
  have hnf : ∀ (y : Wd W) (j : Nat), y.w.frozen? ⟨g, j, none⟩ = false := fun y j => (y.blk hW).frozen j
  have d6 : ∀ y : Wd W, y.w.cell? ⟨g, 6, none⟩ = _ := fun y => (y.blk hW).cell 6
  have f6 : ∀ y : Wd W, y.w.frozen? ⟨g, 6, none⟩ = false := fun y => (y.blk hW).frozen 6
  clear hnf
  have HK := Lib.hid hk
  obtain ⟨v, hv⟩ := Wd.first W
  have HI := Lib.hid hI
  have HO := Lib.hid ho
  clear hbel hL1 hk hI hqx hx1 hlt1 hx hA hq1 hg hml
  clear ho
  clear hIn
  rw [hv]
  clear hv
  cases g1 : idB a.target
  all_goals
    go_upto_region 80 with (first | (go_at_call 274; refine (rpublic_any _ _).mono ?_; rintro e w' ⟨rfl, rfl⟩) | (go_at_call 257; refine (ridRight_any _ _ (by with_reducible assumption)).mono ?_; rintro e w' ⟨rfl, rfl⟩))
  all_goals
    refine put1_out (C := fun u => Code.wp _ _ _ _ u) hW hqW hgs ?_
    intro W2 hB hQ2
    have hB : Blk W2 g 44 (ActR.cells { a with target := emptyT }).toArray := hB
    have hLd := Wd.load (P := Tryz.prog) (ty := 44) hB.lt (Blk.range hB) Tryz.underlying44 rfl (by kernel_rfl) ⟨W2, Q.refl W2⟩
    have HQ2 := Lib.hid hQ2
    clear hB hQ2 hW hL
    go_wp2_with (first | (refine wpList_load_run 44 (.tmp 3) (.pointer (some ⟨g, 0, none⟩)) (.agg (actA { a with target := emptyT })) ?_ ?_ ?_ ?_ ?_; rfl; rfl; rfl; exact hLd) | (go_at_call 280; refine (rzero_any { a with target := emptyT } _).mono ?_; rintro e w' ⟨rfl, hq2⟩))
  all_goals
    go_ret
    refine ⟨?_, by first | exact Q.trans HQ2.out hq2 | exact HQ2.out⟩
    rw [HF.out]
    clear c3 hLd HQ2 HI HO hqW hgs
    simp_all [maskOk, conj, inMask, ruleF, ruleB, zeroB, homeB, objectB, targetB, grantB, labelB, setupB, publicB, digestB, shortB, noneE, bodyNone, bareR, sealedScopeB, rgroupB, withinB, cast32, empty_none, toList_nil, intz]
  all_goals (first | rfl | (rw [Bool.eq_iff_iff]; simp; done) | (intros; omega) | (intros; have := noneB_size (s := a.object) (by assumption); omega))
set_option maxRecDepth 100000 in
set_option maxHeartbeats 8000000 in
theorem rfits_11 (a : ActR) (w : World) (hI : ActIn w a) (ho : ActOk a) (hk : a.kind = 11) : Calls Tryz.prog 258 #[.agg (actA a)] w fun e w' => e = .returned (.bool (fitsB a)) ∧ Q w w' := by
  have hml : maxLen ≤ 9223372036854775807 := by decide
  obtain ⟨w1, x, hx, hq1, hA⟩ := ActAt.box w a 44
  have hL1 := hA.load
  have hx1 := x.q.size
  have hlt1 := hA.lt
  have HF := Lib.hid (fits_mask a 11 (by decide) hk)
  go_enter Tryz.func258, Tryz.ntmps258
  go_wp2_with (first | (refine wpList_load_run 44 (.tmp 1) (.pointer (some ⟨w.heap.size, 0, none⟩)) (.agg (actA a)) ?_ ?_ ?_ ?_ ?_; rfl; rfl; rfl; exact hL1 _) | (refine wpList_store_blk (Blk.new x.w 44 act0.cells.toArray) rfl 44 (.tmp 3) (.tmp 11) a.cells rfl rfl rfl (by kernel_rfl) (act_all _) (Nat.le_refl 20) ?_))
  intro W hW hbel
  rw [splice_all _ _ (by rfl)] at hW
  have hqx : Q x.w W := hbel _ _ (Nat.le_refl _) (q_new _ _ _)
  have hqW : Q w W := Q.trans hq1 (Q.trans x.q hqx)
  have hA := ActAt.mk (w0 := W) (g := w.heap.size) (a := a) (Nat.lt_of_lt_of_le hlt1 (Q.trans x.q hqx).size) (range_q hA.range (Q.trans x.q hqx) hlt1)
  have hgs : w.heap.size ≤ x.w.heap.size := Nat.le_trans hq1.size x.q.size
  generalize hg : x.w.heap.size = g at *
  have c3 := hA.get 3 rfl
  rw [hk] at c3
  have c6 := hA.get 6 rfl
  have hL := hA.load
  have hIn : ∀ y : Wd W, ActIn y.w a := fun y => hI.q (Q.trans hqW y.q)
  have hzg : a.group.size ≤ maxLen := ho.strs _ (by simp)
  have hzx : a.text.size ≤ maxLen := ho.strs _ (by simp)
  have hzr : a.target.size ≤ maxLen := ho.strs _ (by simp)
  have hnf : ∀ (y : Wd W) (j : Nat), y.w.frozen? ⟨g, j, none⟩ = false := fun y j => (y.blk hW).frozen j
  have d6 : ∀ y : Wd W, y.w.cell? ⟨g, 6, none⟩ = _ := fun y => (y.blk hW).cell 6
  have f6 : ∀ y : Wd W, y.w.frozen? ⟨g, 6, none⟩ = false := fun y => (y.blk hW).frozen 6
  clear hnf
  have HK := Lib.hid hk
  obtain ⟨v, hv⟩ := Wd.first W
  have HI := Lib.hid hI
  have HO := Lib.hid ho
  clear hbel hL1 hk hI hqx hx1 hlt1 hx hA hq1 hg hml
  clear ho
  clear hIn
  rw [hv]
  clear hv
  cases g1 : idB a.target
  all_goals
    go_upto_region 80 with (first | (go_at_call 274; refine (rpublic_any _ _).mono ?_; rintro e w' ⟨rfl, rfl⟩) | (go_at_call 257; refine (ridRight_any _ _ (by with_reducible assumption)).mono ?_; rintro e w' ⟨rfl, rfl⟩))
  all_goals
    refine put1_out (C := fun u => Code.wp _ _ _ _ u) hW hqW hgs ?_
    intro W2 hB hQ2
    have hB : Blk W2 g 44 (ActR.cells { a with target := emptyT }).toArray := hB
    have hLd := Wd.load (P := Tryz.prog) (ty := 44) hB.lt (Blk.range hB) Tryz.underlying44 rfl (by kernel_rfl) ⟨W2, Q.refl W2⟩
    have HQ2 := Lib.hid hQ2
    clear hB hQ2 hW hL
    go_wp2_with (first | (refine wpList_load_run 44 (.tmp 3) (.pointer (some ⟨g, 0, none⟩)) (.agg (actA { a with target := emptyT })) ?_ ?_ ?_ ?_ ?_; rfl; rfl; rfl; exact hLd) | (go_at_call 280; refine (rzero_any { a with target := emptyT } _).mono ?_; rintro e w' ⟨rfl, hq2⟩))
  all_goals
    go_ret
    refine ⟨?_, by first | exact Q.trans HQ2.out hq2 | exact HQ2.out⟩
    rw [HF.out]
    clear c3 hLd HQ2 HI HO hqW hgs
    simp_all [maskOk, conj, inMask, ruleF, ruleB, zeroB, homeB, objectB, targetB, grantB, labelB, setupB, publicB, digestB, shortB, noneE, bodyNone, bareR, sealedScopeB, rgroupB, withinB, cast32, empty_none, toList_nil, intz]
  all_goals (first | rfl | (rw [Bool.eq_iff_iff]; simp; done) | (intros; omega) | (intros; have := noneB_size (s := a.object) (by assumption); omega))
set_option maxRecDepth 100000 in
set_option maxHeartbeats 8000000 in
theorem rfits_12 (a : ActR) (w : World) (hI : ActIn w a) (ho : ActOk a) (hk : a.kind = 12) : Calls Tryz.prog 258 #[.agg (actA a)] w fun e w' => e = .returned (.bool (fitsB a)) ∧ Q w w' := by
  have hml : maxLen ≤ 9223372036854775807 := by decide
  obtain ⟨w1, x, hx, hq1, hA⟩ := ActAt.box w a 44
  have hL1 := hA.load
  have hx1 := x.q.size
  have hlt1 := hA.lt
  have HF := Lib.hid (fits_mask a 12 (by decide) hk)
  go_enter Tryz.func258, Tryz.ntmps258
  go_wp2_with (first | (refine wpList_load_run 44 (.tmp 1) (.pointer (some ⟨w.heap.size, 0, none⟩)) (.agg (actA a)) ?_ ?_ ?_ ?_ ?_; rfl; rfl; rfl; exact hL1 _) | (refine wpList_store_blk (Blk.new x.w 44 act0.cells.toArray) rfl 44 (.tmp 3) (.tmp 11) a.cells rfl rfl rfl (by kernel_rfl) (act_all _) (Nat.le_refl 20) ?_))
  intro W hW hbel
  rw [splice_all _ _ (by rfl)] at hW
  have hqx : Q x.w W := hbel _ _ (Nat.le_refl _) (q_new _ _ _)
  have hqW : Q w W := Q.trans hq1 (Q.trans x.q hqx)
  have hA := ActAt.mk (w0 := W) (g := w.heap.size) (a := a) (Nat.lt_of_lt_of_le hlt1 (Q.trans x.q hqx).size) (range_q hA.range (Q.trans x.q hqx) hlt1)
  have hgs : w.heap.size ≤ x.w.heap.size := Nat.le_trans hq1.size x.q.size
  generalize hg : x.w.heap.size = g at *
  have c3 := hA.get 3 rfl
  rw [hk] at c3
  have c5 := hA.get 5 rfl
  have c10 := hA.get 10 rfl
  have hL := hA.load
  have hIn : ∀ y : Wd W, ActIn y.w a := fun y => hI.q (Q.trans hqW y.q)
  have hzg : a.group.size ≤ maxLen := ho.strs _ (by simp)
  have hzx : a.text.size ≤ maxLen := ho.strs _ (by simp)
  have hzr : a.target.size ≤ maxLen := ho.strs _ (by simp)
  have hnf : ∀ (y : Wd W) (j : Nat), y.w.frozen? ⟨g, j, none⟩ = false := fun y j => (y.blk hW).frozen j
  have d5 : ∀ y : Wd W, y.w.cell? ⟨g, 5, none⟩ = _ := fun y => (y.blk hW).cell 5
  have d10 : ∀ y : Wd W, y.w.cell? ⟨g, 10, none⟩ = _ := fun y => (y.blk hW).cell 10
  have f5 : ∀ y : Wd W, y.w.frozen? ⟨g, 5, none⟩ = false := fun y => (y.blk hW).frozen 5
  have f10 : ∀ y : Wd W, y.w.frozen? ⟨g, 10, none⟩ = false := fun y => (y.blk hW).frozen 10
  clear hnf
  have HK := Lib.hid hk
  obtain ⟨v, hv⟩ := Wd.first W
  have HI := Lib.hid hI
  have HO := Lib.hid ho
  clear hbel hL1 hk hI hqx hx1 hlt1 hx hA hq1 hg hml
  clear ho
  clear hIn
  rw [hv]
  clear hv
  by_cases g1 : (a.text.size : Int) ≤ 500
  all_goals
    go_upto_region 80 with (first | (go_at_call 274; refine (rpublic_any _ _).mono ?_; rintro e w' ⟨rfl, rfl⟩))
  all_goals
    refine put2_out (C := fun u => Code.wp _ _ _ _ u) hW hqW hgs ?_
    intro W2 hB hQ2
    have hB : Blk W2 g 44 (ActR.cells { a with object := emptyT, text := emptyT }).toArray := hB
    have hLd := Wd.load (P := Tryz.prog) (ty := 44) hB.lt (Blk.range hB) Tryz.underlying44 rfl (by kernel_rfl) ⟨W2, Q.refl W2⟩
    have HQ2 := Lib.hid hQ2
    clear hB hQ2 hW hL
    go_wp2_with (first | (refine wpList_load_run 44 (.tmp 3) (.pointer (some ⟨g, 0, none⟩)) (.agg (actA { a with object := emptyT, text := emptyT })) ?_ ?_ ?_ ?_ ?_; rfl; rfl; rfl; exact hLd) | (go_at_call 280; refine (rzero_any { a with object := emptyT, text := emptyT } _).mono ?_; rintro e w' ⟨rfl, hq2⟩))
  all_goals
    go_ret
    refine ⟨?_, by first | exact Q.trans HQ2.out hq2 | exact HQ2.out⟩
    rw [HF.out]
    clear c3 hLd HQ2 HI HO hqW hgs
    simp_all [maskOk, conj, inMask, ruleF, ruleB, zeroB, homeB, objectB, targetB, grantB, labelB, setupB, publicB, digestB, shortB, noneE, bodyNone, bareR, sealedScopeB, rgroupB, withinB, cast32, empty_none, toList_nil, intz]
  all_goals (first | rfl | (rw [Bool.eq_iff_iff]; simp; done) | (intros; omega) | (intros; have := noneB_size (s := a.object) (by assumption); omega))
set_option maxRecDepth 100000 in
set_option maxHeartbeats 8000000 in
theorem rfits_15 (a : ActR) (w : World) (hI : ActIn w a) (ho : ActOk a) (hk : a.kind = 15) : Calls Tryz.prog 258 #[.agg (actA a)] w fun e w' => e = .returned (.bool (fitsB a)) ∧ Q w w' := by
  have hml : maxLen ≤ 9223372036854775807 := by decide
  obtain ⟨w1, x, hx, hq1, hA⟩ := ActAt.box w a 44
  have hL1 := hA.load
  have hx1 := x.q.size
  have hlt1 := hA.lt
  have HF := Lib.hid (fits_mask a 15 (by decide) hk)
  go_enter Tryz.func258, Tryz.ntmps258
  go_wp2_with (first | (refine wpList_load_run 44 (.tmp 1) (.pointer (some ⟨w.heap.size, 0, none⟩)) (.agg (actA a)) ?_ ?_ ?_ ?_ ?_; rfl; rfl; rfl; exact hL1 _) | (refine wpList_store_blk (Blk.new x.w 44 act0.cells.toArray) rfl 44 (.tmp 3) (.tmp 11) a.cells rfl rfl rfl (by kernel_rfl) (act_all _) (Nat.le_refl 20) ?_))
  intro W hW hbel
  rw [splice_all _ _ (by rfl)] at hW
  have hqx : Q x.w W := hbel _ _ (Nat.le_refl _) (q_new _ _ _)
  have hqW : Q w W := Q.trans hq1 (Q.trans x.q hqx)
  have hA := ActAt.mk (w0 := W) (g := w.heap.size) (a := a) (Nat.lt_of_lt_of_le hlt1 (Q.trans x.q hqx).size) (range_q hA.range (Q.trans x.q hqx) hlt1)
  have hgs : w.heap.size ≤ x.w.heap.size := Nat.le_trans hq1.size x.q.size
  generalize hg : x.w.heap.size = g at *
  have c3 := hA.get 3 rfl
  rw [hk] at c3
  have c8 := hA.get 8 rfl
  have c9 := hA.get 9 rfl
  have hL := hA.load
  have hIn : ∀ y : Wd W, ActIn y.w a := fun y => hI.q (Q.trans hqW y.q)
  have hS : ∀ y : Wd W, Strs y.w a.toA a.to := fun y => (hIn y).to
  have hlen : a.to.length ≤ 9223372036854775807 := hI.toLen
  have hzt : ∀ s ∈ a.to, s.size ≤ maxLen := ho.to
  have hzg : a.group.size ≤ maxLen := ho.strs _ (by simp)
  have hzx : a.text.size ≤ maxLen := ho.strs _ (by simp)
  have hzr : a.target.size ≤ maxLen := ho.strs _ (by simp)
  have hnf : ∀ (y : Wd W) (j : Nat), y.w.frozen? ⟨g, j, none⟩ = false := fun y j => (y.blk hW).frozen j
  have d8 : ∀ y : Wd W, y.w.cell? ⟨g, 8, none⟩ = _ := fun y => (y.blk hW).cell 8
  have d9 : ∀ y : Wd W, y.w.cell? ⟨g, 9, none⟩ = _ := fun y => (y.blk hW).cell 9
  have f8 : ∀ y : Wd W, y.w.frozen? ⟨g, 8, none⟩ = false := fun y => (y.blk hW).frozen 8
  have f9 : ∀ y : Wd W, y.w.frozen? ⟨g, 9, none⟩ = false := fun y => (y.blk hW).frozen 9
  clear hnf
  have HK := Lib.hid hk
  obtain ⟨v, hv⟩ := Wd.first W
  have HI := Lib.hid hI
  have HO := Lib.hid ho
  clear hbel hL1 hk hI hqx hx1 hlt1 hx hA hq1 hg hml
  clear ho
  clear hIn
  rw [hv]
  clear hv
  cases g1 : nameB a.group
  all_goals
    go_upto_region 80 with (first | (go_at_call 274; refine (rpublic_any _ _).mono ?_; rintro e w' ⟨rfl, rfl⟩) | (go_at_call 275; refine (rname_any _ _ (by with_reducible assumption)).mono ?_; rintro e w' ⟨rfl, rfl⟩) | (go_at_call 261; refine (rids_any _ _ _ _ (hS _) hlen hzt).mono ?_; rintro e w' ⟨rfl, hq2⟩; obtain ⟨y, rfl⟩ := Wd.next _ hq2; clear hq2))
  all_goals
    refine put2_out (C := fun u => Code.wp _ _ _ _ u) hW hqW hgs ?_
    intro W2 hB hQ2
    have hB : Blk W2 g 44 (ActR.cells { a with group := emptyT, to := [], toA := none, toC := 0 }).toArray := hB
    have hLd := Wd.load (P := Tryz.prog) (ty := 44) hB.lt (Blk.range hB) Tryz.underlying44 rfl (by kernel_rfl) ⟨W2, Q.refl W2⟩
    have HQ2 := Lib.hid hQ2
    clear hB hQ2 hW hL
    go_wp2_with (first | (refine wpList_load_run 44 (.tmp 3) (.pointer (some ⟨g, 0, none⟩)) (.agg (actA { a with group := emptyT, to := [], toA := none, toC := 0 })) ?_ ?_ ?_ ?_ ?_; rfl; rfl; rfl; exact hLd) | (go_at_call 280; refine (rzero_any { a with group := emptyT, to := [], toA := none, toC := 0 } _).mono ?_; rintro e w' ⟨rfl, hq2⟩))
  all_goals
    go_ret
    refine ⟨?_, by first | exact Q.trans HQ2.out hq2 | exact HQ2.out⟩
    rw [HF.out]
    clear c3 hLd HQ2 HI HO hqW hgs
    simp_all [maskOk, conj, inMask, ruleF, ruleB, zeroB, homeB, objectB, targetB, grantB, labelB, setupB, publicB, digestB, shortB, noneE, bodyNone, bareR, sealedScopeB, rgroupB, withinB, cast32, empty_none, toList_nil, intz]
  all_goals (first | rfl | (rw [Bool.eq_iff_iff]; simp; done) | (intros; omega) | (intros; have := noneB_size (s := a.object) (by assumption); omega))
set_option maxRecDepth 100000 in
set_option maxHeartbeats 8000000 in
theorem rfits_17 (a : ActR) (w : World) (hI : ActIn w a) (ho : ActOk a) (hk : a.kind = 17) : Calls Tryz.prog 258 #[.agg (actA a)] w fun e w' => e = .returned (.bool (fitsB a)) ∧ Q w w' := by
  have hml : maxLen ≤ 9223372036854775807 := by decide
  obtain ⟨w1, x, hx, hq1, hA⟩ := ActAt.box w a 44
  have hL1 := hA.load
  have hx1 := x.q.size
  have hlt1 := hA.lt
  have HF := Lib.hid (fits_mask a 17 (by decide) hk)
  go_enter Tryz.func258, Tryz.ntmps258
  go_wp2_with (first | (refine wpList_load_run 44 (.tmp 1) (.pointer (some ⟨w.heap.size, 0, none⟩)) (.agg (actA a)) ?_ ?_ ?_ ?_ ?_; rfl; rfl; rfl; exact hL1 _) | (refine wpList_store_blk (Blk.new x.w 44 act0.cells.toArray) rfl 44 (.tmp 3) (.tmp 11) a.cells rfl rfl rfl (by kernel_rfl) (act_all _) (Nat.le_refl 20) ?_))
  intro W hW hbel
  rw [splice_all _ _ (by rfl)] at hW
  have hqx : Q x.w W := hbel _ _ (Nat.le_refl _) (q_new _ _ _)
  have hqW : Q w W := Q.trans hq1 (Q.trans x.q hqx)
  have hA := ActAt.mk (w0 := W) (g := w.heap.size) (a := a) (Nat.lt_of_lt_of_le hlt1 (Q.trans x.q hqx).size) (range_q hA.range (Q.trans x.q hqx) hlt1)
  have hgs : w.heap.size ≤ x.w.heap.size := Nat.le_trans hq1.size x.q.size
  generalize hg : x.w.heap.size = g at *
  have c3 := hA.get 3 rfl
  rw [hk] at c3
  have c10 := hA.get 10 rfl
  have c5 := hA.get 5 rfl
  have c6 := hA.get 6 rfl
  have hL := hA.load
  have hIn : ∀ y : Wd W, ActIn y.w a := fun y => hI.q (Q.trans hqW y.q)
  have hzg : a.group.size ≤ maxLen := ho.strs _ (by simp)
  have hzx : a.text.size ≤ maxLen := ho.strs _ (by simp)
  have hzr : a.target.size ≤ maxLen := ho.strs _ (by simp)
  have hnf : ∀ (y : Wd W) (j : Nat), y.w.frozen? ⟨g, j, none⟩ = false := fun y j => (y.blk hW).frozen j
  have d10 : ∀ y : Wd W, y.w.cell? ⟨g, 10, none⟩ = _ := fun y => (y.blk hW).cell 10
  have d5 : ∀ y : Wd W, y.w.cell? ⟨g, 5, none⟩ = _ := fun y => (y.blk hW).cell 5
  have d6 : ∀ y : Wd W, y.w.cell? ⟨g, 6, none⟩ = _ := fun y => (y.blk hW).cell 6
  have f10 : ∀ y : Wd W, y.w.frozen? ⟨g, 10, none⟩ = false := fun y => (y.blk hW).frozen 10
  have f5 : ∀ y : Wd W, y.w.frozen? ⟨g, 5, none⟩ = false := fun y => (y.blk hW).frozen 5
  have f6 : ∀ y : Wd W, y.w.frozen? ⟨g, 6, none⟩ = false := fun y => (y.blk hW).frozen 6
  clear hnf
  have HK := Lib.hid hk
  obtain ⟨v, hv⟩ := Wd.first W
  have HI := Lib.hid hI
  have HO := Lib.hid ho
  clear hbel hL1 hk hI hqx hx1 hlt1 hx hA hq1 hg hml
  clear ho
  clear hIn
  rw [hv]
  clear hv
  cases g1 : a.target.toList.isEmpty <;> cases g2 : idB a.target
  all_goals
    go_upto_region 80 with (first | (go_at_call 274; refine (rpublic_any _ _).mono ?_; rintro e w' ⟨rfl, rfl⟩) | (go_at_call 275; refine (rname_any _ _ (by with_reducible assumption)).mono ?_; rintro e w' ⟨rfl, rfl⟩) | (go_at_call 257; refine (ridRight_any _ _ (by with_reducible assumption)).mono ?_; rintro e w' ⟨rfl, rfl⟩))
  all_goals
    refine put3_out (C := fun u => Code.wp _ _ _ _ u) hW hqW hgs ?_
    intro W2 hB hQ2
    have hB : Blk W2 g 44 (ActR.cells { a with text := emptyT, object := emptyT, target := emptyT }).toArray := hB
    have hLd := Wd.load (P := Tryz.prog) (ty := 44) hB.lt (Blk.range hB) Tryz.underlying44 rfl (by kernel_rfl) ⟨W2, Q.refl W2⟩
    have HQ2 := Lib.hid hQ2
    clear hB hQ2 hW hL
    go_wp2_with (first | (refine wpList_load_run 44 (.tmp 3) (.pointer (some ⟨g, 0, none⟩)) (.agg (actA { a with text := emptyT, object := emptyT, target := emptyT })) ?_ ?_ ?_ ?_ ?_; rfl; rfl; rfl; exact hLd) | (go_at_call 280; refine (rzero_any { a with text := emptyT, object := emptyT, target := emptyT } _).mono ?_; rintro e w' ⟨rfl, hq2⟩))
  all_goals
    go_ret
    refine ⟨?_, by first | exact Q.trans HQ2.out hq2 | exact HQ2.out⟩
    rw [HF.out]
    clear c3 hLd HQ2 HI HO hqW hgs
    simp_all [maskOk, conj, inMask, ruleF, ruleB, zeroB, homeB, objectB, targetB, grantB, labelB, setupB, publicB, digestB, shortB, noneE, bodyNone, bareR, sealedScopeB, rgroupB, withinB, cast32, empty_none, toList_nil, intz]
  all_goals (first | rfl | (rw [Bool.eq_iff_iff]; simp; done) | (intros; omega) | (intros; have := noneB_size (s := a.object) (by assumption); omega))
set_option maxRecDepth 100000 in
set_option maxHeartbeats 8000000 in
theorem rfits_18 (a : ActR) (w : World) (hI : ActIn w a) (ho : ActOk a) (hk : a.kind = 18) : Calls Tryz.prog 258 #[.agg (actA a)] w fun e w' => e = .returned (.bool (fitsB a)) ∧ Q w w' := by
  have hml : maxLen ≤ 9223372036854775807 := by decide
  obtain ⟨w1, x, hx, hq1, hA⟩ := ActAt.box w a 44
  have hL1 := hA.load
  have hx1 := x.q.size
  have hlt1 := hA.lt
  have HF := Lib.hid (fits_mask a 18 (by decide) hk)
  go_enter Tryz.func258, Tryz.ntmps258
  go_wp2_with (first | (refine wpList_load_run 44 (.tmp 1) (.pointer (some ⟨w.heap.size, 0, none⟩)) (.agg (actA a)) ?_ ?_ ?_ ?_ ?_; rfl; rfl; rfl; exact hL1 _) | (refine wpList_store_blk (Blk.new x.w 44 act0.cells.toArray) rfl 44 (.tmp 3) (.tmp 11) a.cells rfl rfl rfl (by kernel_rfl) (act_all _) (Nat.le_refl 20) ?_))
  intro W hW hbel
  rw [splice_all _ _ (by rfl)] at hW
  have hqx : Q x.w W := hbel _ _ (Nat.le_refl _) (q_new _ _ _)
  have hqW : Q w W := Q.trans hq1 (Q.trans x.q hqx)
  have hA := ActAt.mk (w0 := W) (g := w.heap.size) (a := a) (Nat.lt_of_lt_of_le hlt1 (Q.trans x.q hqx).size) (range_q hA.range (Q.trans x.q hqx) hlt1)
  have hgs : w.heap.size ≤ x.w.heap.size := Nat.le_trans hq1.size x.q.size
  generalize hg : x.w.heap.size = g at *
  have c3 := hA.get 3 rfl
  rw [hk] at c3
  have c16 := hA.get 16 rfl
  have c17 := hA.get 17 rfl
  have hL := hA.load
  have hIn : ∀ y : Wd W, ActIn y.w a := fun y => hI.q (Q.trans hqW y.q)
  have hzg : a.group.size ≤ maxLen := ho.strs _ (by simp)
  have hzx : a.text.size ≤ maxLen := ho.strs _ (by simp)
  have hzr : a.target.size ≤ maxLen := ho.strs _ (by simp)
  have hnf : ∀ (y : Wd W) (j : Nat), y.w.frozen? ⟨g, j, none⟩ = false := fun y j => (y.blk hW).frozen j
  have d16 : ∀ y : Wd W, y.w.cell? ⟨g, 16, none⟩ = _ := fun y => (y.blk hW).cell 16
  have d17 : ∀ y : Wd W, y.w.cell? ⟨g, 17, none⟩ = _ := fun y => (y.blk hW).cell 17
  have f16 : ∀ y : Wd W, y.w.frozen? ⟨g, 16, none⟩ = false := fun y => (y.blk hW).frozen 16
  have f17 : ∀ y : Wd W, y.w.frozen? ⟨g, 17, none⟩ = false := fun y => (y.blk hW).frozen 17
  clear hnf
  have HK := Lib.hid hk
  obtain ⟨v, hv⟩ := Wd.first W
  have HI := Lib.hid hI
  have HO := Lib.hid ho
  clear hbel hL1 hk hI hqx hx1 hlt1 hx hA hq1 hg hml
  clear ho
  clear hIn
  rw [hv]
  clear hv
  by_cases g1 : a.m < 20
  all_goals
    go_upto_region 80 with (first | (go_at_call 274; refine (rpublic_any _ _).mono ?_; rintro e w' ⟨rfl, rfl⟩))
  all_goals
    refine put2_out (C := fun u => Code.wp _ _ _ _ u) hW hqW hgs ?_
    intro W2 hB hQ2
    have hB : Blk W2 g 44 (ActR.cells { a with n := 0, m := 0 }).toArray := hB
    have hLd := Wd.load (P := Tryz.prog) (ty := 44) hB.lt (Blk.range hB) Tryz.underlying44 rfl (by kernel_rfl) ⟨W2, Q.refl W2⟩
    have HQ2 := Lib.hid hQ2
    clear hB hQ2 hW hL
    go_wp2_with (first | (refine wpList_load_run 44 (.tmp 3) (.pointer (some ⟨g, 0, none⟩)) (.agg (actA { a with n := 0, m := 0 })) ?_ ?_ ?_ ?_ ?_; rfl; rfl; rfl; exact hLd) | (go_at_call 280; refine (rzero_any { a with n := 0, m := 0 } _).mono ?_; rintro e w' ⟨rfl, hq2⟩))
  all_goals
    go_ret
    refine ⟨?_, by first | exact Q.trans HQ2.out hq2 | exact HQ2.out⟩
    rw [HF.out]
    clear c3 hLd HQ2 HI HO hqW hgs
    simp_all [maskOk, conj, inMask, ruleF, ruleB, zeroB, homeB, objectB, targetB, grantB, labelB, setupB, publicB, digestB, shortB, noneE, bodyNone, bareR, sealedScopeB, rgroupB, withinB, cast32, empty_none, toList_nil, intz]
  all_goals (first | rfl | (rw [Bool.eq_iff_iff]; simp; done) | (intros; omega) | (intros; have := noneB_size (s := a.object) (by assumption); omega))
set_option maxRecDepth 100000 in
set_option maxHeartbeats 8000000 in
theorem rfits_21 (a : ActR) (w : World) (hI : ActIn w a) (ho : ActOk a) (hk : a.kind = 21) : Calls Tryz.prog 258 #[.agg (actA a)] w fun e w' => e = .returned (.bool (fitsB a)) ∧ Q w w' := by
  have hml : maxLen ≤ 9223372036854775807 := by decide
  obtain ⟨w1, x, hx, hq1, hA⟩ := ActAt.box w a 44
  have hL1 := hA.load
  have hx1 := x.q.size
  have hlt1 := hA.lt
  have HF := Lib.hid (fits_mask a 21 (by decide) hk)
  go_enter Tryz.func258, Tryz.ntmps258
  go_wp2_with (first | (refine wpList_load_run 44 (.tmp 1) (.pointer (some ⟨w.heap.size, 0, none⟩)) (.agg (actA a)) ?_ ?_ ?_ ?_ ?_; rfl; rfl; rfl; exact hL1 _) | (refine wpList_store_blk (Blk.new x.w 44 act0.cells.toArray) rfl 44 (.tmp 3) (.tmp 11) a.cells rfl rfl rfl (by kernel_rfl) (act_all _) (Nat.le_refl 20) ?_))
  intro W hW hbel
  rw [splice_all _ _ (by rfl)] at hW
  have hqx : Q x.w W := hbel _ _ (Nat.le_refl _) (q_new _ _ _)
  have hqW : Q w W := Q.trans hq1 (Q.trans x.q hqx)
  have hA := ActAt.mk (w0 := W) (g := w.heap.size) (a := a) (Nat.lt_of_lt_of_le hlt1 (Q.trans x.q hqx).size) (range_q hA.range (Q.trans x.q hqx) hlt1)
  have hgs : w.heap.size ≤ x.w.heap.size := Nat.le_trans hq1.size x.q.size
  generalize hg : x.w.heap.size = g at *
  have c3 := hA.get 3 rfl
  rw [hk] at c3
  have c5 := hA.get 5 rfl
  have c10 := hA.get 10 rfl
  have hL := hA.load
  have hIn : ∀ y : Wd W, ActIn y.w a := fun y => hI.q (Q.trans hqW y.q)
  have hzg : a.group.size ≤ maxLen := ho.strs _ (by simp)
  have hzx : a.text.size ≤ maxLen := ho.strs _ (by simp)
  have hzr : a.target.size ≤ maxLen := ho.strs _ (by simp)
  have hnf : ∀ (y : Wd W) (j : Nat), y.w.frozen? ⟨g, j, none⟩ = false := fun y j => (y.blk hW).frozen j
  have d5 : ∀ y : Wd W, y.w.cell? ⟨g, 5, none⟩ = _ := fun y => (y.blk hW).cell 5
  have d10 : ∀ y : Wd W, y.w.cell? ⟨g, 10, none⟩ = _ := fun y => (y.blk hW).cell 10
  have f5 : ∀ y : Wd W, y.w.frozen? ⟨g, 5, none⟩ = false := fun y => (y.blk hW).frozen 5
  have f10 : ∀ y : Wd W, y.w.frozen? ⟨g, 10, none⟩ = false := fun y => (y.blk hW).frozen 10
  clear hnf
  have HK := Lib.hid hk
  obtain ⟨v, hv⟩ := Wd.first W
  have HI := Lib.hid hI
  have HO := Lib.hid ho
  clear hbel hL1 hk hI hqx hx1 hlt1 hx hA hq1 hg hml
  clear ho
  clear hIn
  rw [hv]
  clear hv
  by_cases g1 : (a.text.size : Int) ≤ 500
  all_goals
    go_upto_region 80 with (first | (go_at_call 274; refine (rpublic_any _ _).mono ?_; rintro e w' ⟨rfl, rfl⟩))
  all_goals
    refine put2_out (C := fun u => Code.wp _ _ _ _ u) hW hqW hgs ?_
    intro W2 hB hQ2
    have hB : Blk W2 g 44 (ActR.cells { a with object := emptyT, text := emptyT }).toArray := hB
    have hLd := Wd.load (P := Tryz.prog) (ty := 44) hB.lt (Blk.range hB) Tryz.underlying44 rfl (by kernel_rfl) ⟨W2, Q.refl W2⟩
    have HQ2 := Lib.hid hQ2
    clear hB hQ2 hW hL
    go_wp2_with (first | (refine wpList_load_run 44 (.tmp 3) (.pointer (some ⟨g, 0, none⟩)) (.agg (actA { a with object := emptyT, text := emptyT })) ?_ ?_ ?_ ?_ ?_; rfl; rfl; rfl; exact hLd) | (go_at_call 280; refine (rzero_any { a with object := emptyT, text := emptyT } _).mono ?_; rintro e w' ⟨rfl, hq2⟩))
  all_goals
    go_ret
    refine ⟨?_, by first | exact Q.trans HQ2.out hq2 | exact HQ2.out⟩
    rw [HF.out]
    clear c3 hLd HQ2 HI HO hqW hgs
    simp_all [maskOk, conj, inMask, ruleF, ruleB, zeroB, homeB, objectB, targetB, grantB, labelB, setupB, publicB, digestB, shortB, noneE, bodyNone, bareR, sealedScopeB, rgroupB, withinB, cast32, empty_none, toList_nil, intz]
  all_goals (first | rfl | (rw [Bool.eq_iff_iff]; simp; done) | (intros; omega) | (intros; have := noneB_size (s := a.object) (by assumption); omega))
set_option maxRecDepth 100000 in
set_option maxHeartbeats 8000000 in
theorem rfits_22 (a : ActR) (w : World) (hI : ActIn w a) (ho : ActOk a) (hk : a.kind = 22) : Calls Tryz.prog 258 #[.agg (actA a)] w fun e w' => e = .returned (.bool (fitsB a)) ∧ Q w w' := by
  have hml : maxLen ≤ 9223372036854775807 := by decide
  obtain ⟨w1, x, hx, hq1, hA⟩ := ActAt.box w a 44
  have hL1 := hA.load
  have hx1 := x.q.size
  have hlt1 := hA.lt
  have HF := Lib.hid (fits_mask a 22 (by decide) hk)
  go_enter Tryz.func258, Tryz.ntmps258
  go_wp2_with (first | (refine wpList_load_run 44 (.tmp 1) (.pointer (some ⟨w.heap.size, 0, none⟩)) (.agg (actA a)) ?_ ?_ ?_ ?_ ?_; rfl; rfl; rfl; exact hL1 _) | (refine wpList_store_blk (Blk.new x.w 44 act0.cells.toArray) rfl 44 (.tmp 3) (.tmp 11) a.cells rfl rfl rfl (by kernel_rfl) (act_all _) (Nat.le_refl 20) ?_))
  intro W hW hbel
  rw [splice_all _ _ (by rfl)] at hW
  have hqx : Q x.w W := hbel _ _ (Nat.le_refl _) (q_new _ _ _)
  have hqW : Q w W := Q.trans hq1 (Q.trans x.q hqx)
  have hA := ActAt.mk (w0 := W) (g := w.heap.size) (a := a) (Nat.lt_of_lt_of_le hlt1 (Q.trans x.q hqx).size) (range_q hA.range (Q.trans x.q hqx) hlt1)
  have hgs : w.heap.size ≤ x.w.heap.size := Nat.le_trans hq1.size x.q.size
  generalize hg : x.w.heap.size = g at *
  have c3 := hA.get 3 rfl
  rw [hk] at c3
  have c5 := hA.get 5 rfl
  have c16 := hA.get 16 rfl
  have hL := hA.load
  have hIn : ∀ y : Wd W, ActIn y.w a := fun y => hI.q (Q.trans hqW y.q)
  have hzg : a.group.size ≤ maxLen := ho.strs _ (by simp)
  have hzx : a.text.size ≤ maxLen := ho.strs _ (by simp)
  have hzr : a.target.size ≤ maxLen := ho.strs _ (by simp)
  have hnf : ∀ (y : Wd W) (j : Nat), y.w.frozen? ⟨g, j, none⟩ = false := fun y j => (y.blk hW).frozen j
  have d5 : ∀ y : Wd W, y.w.cell? ⟨g, 5, none⟩ = _ := fun y => (y.blk hW).cell 5
  have d16 : ∀ y : Wd W, y.w.cell? ⟨g, 16, none⟩ = _ := fun y => (y.blk hW).cell 16
  have f5 : ∀ y : Wd W, y.w.frozen? ⟨g, 5, none⟩ = false := fun y => (y.blk hW).frozen 5
  have f16 : ∀ y : Wd W, y.w.frozen? ⟨g, 16, none⟩ = false := fun y => (y.blk hW).frozen 16
  clear hnf
  have HK := Lib.hid hk
  obtain ⟨v, hv⟩ := Wd.first W
  have HI := Lib.hid hI
  have HO := Lib.hid ho
  clear hbel hL1 hk hI hqx hx1 hlt1 hx hA hq1 hg hml
  clear ho
  clear hIn
  rw [hv]
  clear hv
  by_cases g1 : a.n ≤ 1
  all_goals
    go_upto_region 80 with (first | (go_at_call 274; refine (rpublic_any _ _).mono ?_; rintro e w' ⟨rfl, rfl⟩))
  all_goals
    refine put2_out (C := fun u => Code.wp _ _ _ _ u) hW hqW hgs ?_
    intro W2 hB hQ2
    have hB : Blk W2 g 44 (ActR.cells { a with object := emptyT, n := 0 }).toArray := hB
    have hLd := Wd.load (P := Tryz.prog) (ty := 44) hB.lt (Blk.range hB) Tryz.underlying44 rfl (by kernel_rfl) ⟨W2, Q.refl W2⟩
    have HQ2 := Lib.hid hQ2
    clear hB hQ2 hW hL
    go_wp2_with (first | (refine wpList_load_run 44 (.tmp 3) (.pointer (some ⟨g, 0, none⟩)) (.agg (actA { a with object := emptyT, n := 0 })) ?_ ?_ ?_ ?_ ?_; rfl; rfl; rfl; exact hLd) | (go_at_call 280; refine (rzero_any { a with object := emptyT, n := 0 } _).mono ?_; rintro e w' ⟨rfl, hq2⟩))
  all_goals
    go_ret
    refine ⟨?_, by first | exact Q.trans HQ2.out hq2 | exact HQ2.out⟩
    rw [HF.out]
    clear c3 hLd HQ2 HI HO hqW hgs
    simp_all [maskOk, conj, inMask, ruleF, ruleB, zeroB, homeB, objectB, targetB, grantB, labelB, setupB, publicB, digestB, shortB, noneE, bodyNone, bareR, sealedScopeB, rgroupB, withinB, cast32, empty_none, toList_nil, intz]
  all_goals (first | rfl | (rw [Bool.eq_iff_iff]; simp; done) | (intros; omega) | (intros; have := noneB_size (s := a.object) (by assumption); omega))
set_option maxRecDepth 100000 in
set_option maxHeartbeats 8000000 in
theorem rfits_23 (a : ActR) (w : World) (hI : ActIn w a) (ho : ActOk a) (hk : a.kind = 23) : Calls Tryz.prog 258 #[.agg (actA a)] w fun e w' => e = .returned (.bool (fitsB a)) ∧ Q w w' := by
  have hml : maxLen ≤ 9223372036854775807 := by decide
  obtain ⟨w1, x, hx, hq1, hA⟩ := ActAt.box w a 44
  have hL1 := hA.load
  have hx1 := x.q.size
  have hlt1 := hA.lt
  have HF := Lib.hid (fits_mask a 23 (by decide) hk)
  go_enter Tryz.func258, Tryz.ntmps258
  go_wp2_with (first | (refine wpList_load_run 44 (.tmp 1) (.pointer (some ⟨w.heap.size, 0, none⟩)) (.agg (actA a)) ?_ ?_ ?_ ?_ ?_; rfl; rfl; rfl; exact hL1 _) | (refine wpList_store_blk (Blk.new x.w 44 act0.cells.toArray) rfl 44 (.tmp 3) (.tmp 11) a.cells rfl rfl rfl (by kernel_rfl) (act_all _) (Nat.le_refl 20) ?_))
  intro W hW hbel
  rw [splice_all _ _ (by rfl)] at hW
  have hqx : Q x.w W := hbel _ _ (Nat.le_refl _) (q_new _ _ _)
  have hqW : Q w W := Q.trans hq1 (Q.trans x.q hqx)
  have hA := ActAt.mk (w0 := W) (g := w.heap.size) (a := a) (Nat.lt_of_lt_of_le hlt1 (Q.trans x.q hqx).size) (range_q hA.range (Q.trans x.q hqx) hlt1)
  have hgs : w.heap.size ≤ x.w.heap.size := Nat.le_trans hq1.size x.q.size
  generalize hg : x.w.heap.size = g at *
  have c3 := hA.get 3 rfl
  rw [hk] at c3
  have c6 := hA.get 6 rfl
  have c10 := hA.get 10 rfl
  have c16 := hA.get 16 rfl
  have hL := hA.load
  have hIn : ∀ y : Wd W, ActIn y.w a := fun y => hI.q (Q.trans hqW y.q)
  have hzg : a.group.size ≤ maxLen := ho.strs _ (by simp)
  have hzx : a.text.size ≤ maxLen := ho.strs _ (by simp)
  have hzr : a.target.size ≤ maxLen := ho.strs _ (by simp)
  have hnf : ∀ (y : Wd W) (j : Nat), y.w.frozen? ⟨g, j, none⟩ = false := fun y j => (y.blk hW).frozen j
  have d6 : ∀ y : Wd W, y.w.cell? ⟨g, 6, none⟩ = _ := fun y => (y.blk hW).cell 6
  have d10 : ∀ y : Wd W, y.w.cell? ⟨g, 10, none⟩ = _ := fun y => (y.blk hW).cell 10
  have d16 : ∀ y : Wd W, y.w.cell? ⟨g, 16, none⟩ = _ := fun y => (y.blk hW).cell 16
  have f6 : ∀ y : Wd W, y.w.frozen? ⟨g, 6, none⟩ = false := fun y => (y.blk hW).frozen 6
  have f10 : ∀ y : Wd W, y.w.frozen? ⟨g, 10, none⟩ = false := fun y => (y.blk hW).frozen 10
  have f16 : ∀ y : Wd W, y.w.frozen? ⟨g, 16, none⟩ = false := fun y => (y.blk hW).frozen 16
  clear hnf
  have HK := Lib.hid hk
  obtain ⟨v, hv⟩ := Wd.first W
  have HI := Lib.hid hI
  have HO := Lib.hid ho
  clear hbel hL1 hk hI hqx hx1 hlt1 hx hA hq1 hg hml
  clear ho
  clear hIn
  rw [hv]
  clear hv
  by_cases g1 : a.n ≤ 1099511627776
  all_goals
    go_upto_region 80 with (first | (go_at_call 274; refine (rpublic_any _ _).mono ?_; rintro e w' ⟨rfl, rfl⟩) | (go_at_call 257; refine (ridRight_any _ _ (by with_reducible assumption)).mono ?_; rintro e w' ⟨rfl, rfl⟩))
  all_goals
    refine put3_out (C := fun u => Code.wp _ _ _ _ u) hW hqW hgs ?_
    intro W2 hB hQ2
    have hB : Blk W2 g 44 (ActR.cells { a with target := emptyT, text := emptyT, n := 0 }).toArray := hB
    have hLd := Wd.load (P := Tryz.prog) (ty := 44) hB.lt (Blk.range hB) Tryz.underlying44 rfl (by kernel_rfl) ⟨W2, Q.refl W2⟩
    have HQ2 := Lib.hid hQ2
    clear hB hQ2 hW hL
    go_wp2_with (first | (refine wpList_load_run 44 (.tmp 3) (.pointer (some ⟨g, 0, none⟩)) (.agg (actA { a with target := emptyT, text := emptyT, n := 0 })) ?_ ?_ ?_ ?_ ?_; rfl; rfl; rfl; exact hLd) | (go_at_call 280; refine (rzero_any { a with target := emptyT, text := emptyT, n := 0 } _).mono ?_; rintro e w' ⟨rfl, hq2⟩))
  all_goals
    go_ret
    refine ⟨?_, by first | exact Q.trans HQ2.out hq2 | exact HQ2.out⟩
    rw [HF.out]
    clear c3 hLd HQ2 HI HO hqW hgs
    simp_all [maskOk, conj, inMask, ruleF, ruleB, zeroB, homeB, objectB, targetB, grantB, labelB, setupB, publicB, digestB, shortB, noneE, bodyNone, bareR, sealedScopeB, rgroupB, withinB, cast32, empty_none, toList_nil, intz]
  all_goals (first | rfl | (rw [Bool.eq_iff_iff]; simp; done) | (intros; omega) | (intros; have := noneB_size (s := a.object) (by assumption); omega))
end Go.Proofs.YtflgkplneekpfaaGreatDoor.Item
