/-
  The contract of agoraref12.fits, kinds 0 to 6, 13, 14, 20 (printed by gen_fits.py).
-/
import Derived.Test.YtflgkplneekpfaaGreatDoorRef12B
set_option linter.unusedVariables false
set_option linter.unusedSimpArgs false
namespace Go.Proofs.YtflgkplneekpfaaGreatDoor.Item
open Go.RowKit Grp Mem _root_.Go.Proofs.YtflgkplneekpfaaGreatDoor.Code Sha Sign


/-- Stores into a block of the walk's own, forgotten. -/
theorem put1_out {w0 w1 : World} {y : Wd w1} {g : Nat} {t : TypeId} {cs : List Value} (hb : Blk w1 g t cs.toArray) (hq : Q w0 w1) (hg : w0.heap.size ≤ g) {o1 : Nat} {v1 : Value} {C : World → Prop} (h : ∀ W, Blk W g t (cs.set o1 v1).toArray → Q w0 W → C W) : C (y.w.setCell ⟨g, o1, none⟩ v1) :=
  h _ (Blk.put (y.blk hb) _ _) (q_put (Q.trans hq y.q) hg _ _)
theorem put2_out {w0 w1 : World} {y : Wd w1} {g : Nat} {t : TypeId} {cs : List Value} (hb : Blk w1 g t cs.toArray) (hq : Q w0 w1) (hg : w0.heap.size ≤ g) {o1 o2 : Nat} {v1 v2 : Value} {C : World → Prop} (h : ∀ W, Blk W g t ((cs.set o1 v1).set o2 v2).toArray → Q w0 W → C W) : C ((y.w.setCell ⟨g, o1, none⟩ v1).setCell ⟨g, o2, none⟩ v2) :=
  h _ (Blk.put (Blk.put (y.blk hb) _ _) _ _) (q_put (q_put (Q.trans hq y.q) hg _ _) hg _ _)
theorem put3_out {w0 w1 : World} {y : Wd w1} {g : Nat} {t : TypeId} {cs : List Value} (hb : Blk w1 g t cs.toArray) (hq : Q w0 w1) (hg : w0.heap.size ≤ g) {o1 o2 o3 : Nat} {v1 v2 v3 : Value} {C : World → Prop} (h : ∀ W, Blk W g t (((cs.set o1 v1).set o2 v2).set o3 v3).toArray → Q w0 W → C W) : C (((y.w.setCell ⟨g, o1, none⟩ v1).setCell ⟨g, o2, none⟩ v2).setCell ⟨g, o3, none⟩ v3) :=
  h _ (Blk.put (Blk.put (Blk.put (y.blk hb) _ _) _ _) _ _) (q_put (q_put (q_put (Q.trans hq y.q) hg _ _) hg _ _) hg _ _)
theorem put4_out {w0 w1 : World} {y : Wd w1} {g : Nat} {t : TypeId} {cs : List Value} (hb : Blk w1 g t cs.toArray) (hq : Q w0 w1) (hg : w0.heap.size ≤ g) {o1 o2 o3 o4 : Nat} {v1 v2 v3 v4 : Value} {C : World → Prop} (h : ∀ W, Blk W g t ((((cs.set o1 v1).set o2 v2).set o3 v3).set o4 v4).toArray → Q w0 W → C W) : C ((((y.w.setCell ⟨g, o1, none⟩ v1).setCell ⟨g, o2, none⟩ v2).setCell ⟨g, o3, none⟩ v3).setCell ⟨g, o4, none⟩ v4) :=
  h _ (Blk.put (Blk.put (Blk.put (Blk.put (y.blk hb) _ _) _ _) _ _) _ _) (q_put (q_put (q_put (q_put (Q.trans hq y.q) hg _ _) hg _ _) hg _ _) hg _ _)
theorem put5_out {w0 w1 : World} {y : Wd w1} {g : Nat} {t : TypeId} {cs : List Value} (hb : Blk w1 g t cs.toArray) (hq : Q w0 w1) (hg : w0.heap.size ≤ g) {o1 o2 o3 o4 o5 : Nat} {v1 v2 v3 v4 v5 : Value} {C : World → Prop} (h : ∀ W, Blk W g t (((((cs.set o1 v1).set o2 v2).set o3 v3).set o4 v4).set o5 v5).toArray → Q w0 W → C W) : C (((((y.w.setCell ⟨g, o1, none⟩ v1).setCell ⟨g, o2, none⟩ v2).setCell ⟨g, o3, none⟩ v3).setCell ⟨g, o4, none⟩ v4).setCell ⟨g, o5, none⟩ v5) :=
  h _ (Blk.put (Blk.put (Blk.put (Blk.put (Blk.put (y.blk hb) _ _) _ _) _ _) _ _) _ _) (q_put (q_put (q_put (q_put (q_put (Q.trans hq y.q) hg _ _) hg _ _) hg _ _) hg _ _) hg _ _)
theorem noneE : noneB emptyT = true := rfl
theorem put1_here {w0 w : World} {g : Nat} {t : TypeId} {cs : List Value} (hb : Blk w g t cs.toArray) (hq : Q w0 w) (hg : w0.heap.size ≤ g) {o1 : Nat} {v1 : Value} {C : World → Prop} (h : ∀ W, Blk W g t (cs.set o1 v1).toArray → Q w0 W → C W) : C (w.setCell ⟨g, o1, none⟩ v1) :=
  h _ (Blk.put hb _ _) (q_put hq hg _ _)
theorem ways7 (b1 b2 b3 b4 b5 b6 b7 : Bool) : b1 = false ∨ (b1 = true ∧ b2 = false) ∨ (b1 = true ∧ b2 = true ∧ b3 = false) ∨ (b1 = true ∧ b2 = true ∧ b3 = true ∧ b4 = false) ∨ (b1 = true ∧ b2 = true ∧ b3 = true ∧ b4 = true ∧ b5 = false) ∨ (b1 = true ∧ b2 = true ∧ b3 = true ∧ b4 = true ∧ b5 = true ∧ b6 = false) ∨
      (b1 = true ∧ b2 = true ∧ b3 = true ∧ b4 = true ∧ b5 = true ∧ b6 = true ∧ b7 = false) ∨ (b1 = true ∧ b2 = true ∧ b3 = true ∧ b4 = true ∧ b5 = true ∧ b6 = true ∧ b7 = true) := by
  cases b1 <;> cases b2 <;> cases b3 <;> cases b4 <;> cases b5 <;> cases b6 <;> cases b7 <;> simp
theorem fits_mask (a : ActR) (k : Nat) (hk : k < 24) (h : a.kind = k) : fitsB a = (maskOk (ruleF k) (noneB a.object) (noneB a.target) (decide (a.scope = 0)) (noneB a.group) (decide (a.to.length = 0)) (noneB a.text) (bodyNone a) (decide (a.epoch = 0)) (decide (a.wraps.length = 0)) (decide (a.n = 0)) (decide (a.m = 0)) && ruleB k a) := by
  unfold fitsB
  rw [show a.kind.toNat = k by omega, mask_of a k hk, decide_eq_true (show 0 ≤ a.kind by omega), decide_eq_true (show a.kind < 24 by omega)]
  rfl

set_option maxRecDepth 100000 in
set_option maxHeartbeats 8000000 in
theorem rfits_0 (a : ActR) (w : World) (hI : ActIn w a) (ho : ActOk a) (hk : a.kind = 0) : Calls Tryz.prog 258 #[.agg (actA a)] w fun e w' => e = .returned (.bool (fitsB a)) ∧ Q w w' := by
  have hml : maxLen ≤ 9223372036854775807 := by decide
  obtain ⟨w1, x, hx, hq1, hA⟩ := ActAt.box w a 44
  have hL1 := hA.load
  have hx1 := x.q.size
  have hlt1 := hA.lt
  have HF := Lib.hid (fits_mask a 0 (by decide) hk)
  go_enter Tryz.func258, Tryz.ntmps258
  go_wp2_with (first | (refine wpList_load_run 44 (.tmp 1) (.pointer (some ⟨w.heap.size, 0, none⟩)) (.agg (actA a)) ?_ ?_ ?_ ?_ ?_; rfl; rfl; rfl; exact hL1 _) | (refine wpList_store_blk (Blk.new x.w 44 act0.cells.toArray) rfl 44 (.tmp 3) (.tmp 11) a.cells rfl rfl rfl (by kernel_rfl) (act_all _) (Nat.le_refl 20) ?_))
  intro W hW hbel
  rw [splice_all _ _ (by rfl)] at hW
  have hqx : Q x.w W := hbel _ _ (Nat.le_refl _) (q_new _ _ _)
  have hqW : Q w W := Q.trans hq1 (Q.trans x.q hqx)
  have hA := ActAt.mk (w0 := W) (g := w.heap.size) (a := a) (Nat.lt_of_lt_of_le hlt1 (Q.trans x.q hqx).size) (range_q hA.range (Q.trans x.q hqx) hlt1)
  have hgs : w.heap.size ≤ x.w.heap.size := Nat.le_trans hq1.size x.q.size
  generalize hg : x.w.heap.size = g at *
  have c3 := hA.get 3 rfl
  rw [hk] at c3
  have c10 := hA.get 10 rfl
  have c16 := hA.get 16 rfl
  have c17 := hA.get 17 rfl
  have hL := hA.load
  have hIn : ∀ y : Wd W, ActIn y.w a := fun y => hI.q (Q.trans hqW y.q)
  have hzg : a.group.size ≤ maxLen := ho.strs _ (by simp)
  have hzx : a.text.size ≤ maxLen := ho.strs _ (by simp)
  have hzr : a.target.size ≤ maxLen := ho.strs _ (by simp)
  have hnf : ∀ (y : Wd W) (j : Nat), y.w.frozen? ⟨g, j, none⟩ = false := fun y j => (y.blk hW).frozen j
  have d10 : ∀ y : Wd W, y.w.cell? ⟨g, 10, none⟩ = _ := fun y => (y.blk hW).cell 10
  have d16 : ∀ y : Wd W, y.w.cell? ⟨g, 16, none⟩ = _ := fun y => (y.blk hW).cell 16
  have d17 : ∀ y : Wd W, y.w.cell? ⟨g, 17, none⟩ = _ := fun y => (y.blk hW).cell 17
  have f10 : ∀ y : Wd W, y.w.frozen? ⟨g, 10, none⟩ = false := fun y => (y.blk hW).frozen 10
  have f16 : ∀ y : Wd W, y.w.frozen? ⟨g, 16, none⟩ = false := fun y => (y.blk hW).frozen 16
  have f17 : ∀ y : Wd W, y.w.frozen? ⟨g, 17, none⟩ = false := fun y => (y.blk hW).frozen 17
  clear hnf
  have HK := Lib.hid hk
  obtain ⟨v, hv⟩ := Wd.first W
  have HI := Lib.hid hI
  have HO := Lib.hid ho
  clear hbel hL1 hk hI hqx hx1 hlt1 hx hA hq1 hg hml
  clear ho
  clear hIn
  rw [hv]
  clear hv
  cases g1 : nameB a.text
  all_goals
    go_upto_region 80 with (first | (go_at_call 274; refine (rpublic_any _ _).mono ?_; rintro e w' ⟨rfl, rfl⟩) | (go_at_call 275; refine (rname_any _ _ (by with_reducible assumption)).mono ?_; rintro e w' ⟨rfl, rfl⟩))
  all_goals
    refine put3_out (C := fun u => Code.wp _ _ _ _ u) hW hqW hgs ?_
    intro W2 hB hQ2
    have hB : Blk W2 g 44 (ActR.cells { a with text := emptyT, n := 0, m := 0 }).toArray := hB
    have hLd := Wd.load (P := Tryz.prog) (ty := 44) hB.lt (Blk.range hB) Tryz.underlying44 rfl (by kernel_rfl) ⟨W2, Q.refl W2⟩
    have HQ2 := Lib.hid hQ2
    clear hB hQ2 hW hL
    go_wp2_with (first | (refine wpList_load_run 44 (.tmp 3) (.pointer (some ⟨g, 0, none⟩)) (.agg (actA { a with text := emptyT, n := 0, m := 0 })) ?_ ?_ ?_ ?_ ?_; rfl; rfl; rfl; exact hLd) | (go_at_call 280; refine (rzero_any { a with text := emptyT, n := 0, m := 0 } _).mono ?_; rintro e w' ⟨rfl, hq2⟩))
  all_goals
    go_ret
    refine ⟨?_, by first | exact Q.trans HQ2.out hq2 | exact HQ2.out⟩
    rw [HF.out]
    clear c3 hLd HQ2 HI HO hqW hgs
    simp_all [maskOk, conj, inMask, ruleF, ruleB, zeroB, homeB, objectB, targetB, grantB, labelB, setupB, publicB, digestB, shortB, noneE, bodyNone, bareR, sealedScopeB, rgroupB, withinB, cast32, empty_none, toList_nil, intz]
  all_goals (first | rfl | (rw [Bool.eq_iff_iff]; simp; done) | (intros; omega) | (intros; have := noneB_size (s := a.object) (by assumption); omega))
set_option maxRecDepth 100000 in
set_option maxHeartbeats 8000000 in
theorem rfits_1 (a : ActR) (w : World) (hI : ActIn w a) (ho : ActOk a) (hk : a.kind = 1) : Calls Tryz.prog 258 #[.agg (actA a)] w fun e w' => e = .returned (.bool (fitsB a)) ∧ Q w w' := by
  have hml : maxLen ≤ 9223372036854775807 := by decide
  obtain ⟨w1, x, hx, hq1, hA⟩ := ActAt.box w a 44
  have hL1 := hA.load
  have hx1 := x.q.size
  have hlt1 := hA.lt
  have HF := Lib.hid (fits_mask a 1 (by decide) hk)
  go_enter Tryz.func258, Tryz.ntmps258
  go_wp2_with (first | (refine wpList_load_run 44 (.tmp 1) (.pointer (some ⟨w.heap.size, 0, none⟩)) (.agg (actA a)) ?_ ?_ ?_ ?_ ?_; rfl; rfl; rfl; exact hL1 _) | (refine wpList_store_blk (Blk.new x.w 44 act0.cells.toArray) rfl 44 (.tmp 3) (.tmp 11) a.cells rfl rfl rfl (by kernel_rfl) (act_all _) (Nat.le_refl 20) ?_))
  intro W hW hbel
  rw [splice_all _ _ (by rfl)] at hW
  have hqx : Q x.w W := hbel _ _ (Nat.le_refl _) (q_new _ _ _)
  have hqW : Q w W := Q.trans hq1 (Q.trans x.q hqx)
  have hA := ActAt.mk (w0 := W) (g := w.heap.size) (a := a) (Nat.lt_of_lt_of_le hlt1 (Q.trans x.q hqx).size) (range_q hA.range (Q.trans x.q hqx) hlt1)
  have hgs : w.heap.size ≤ x.w.heap.size := Nat.le_trans hq1.size x.q.size
  generalize hg : x.w.heap.size = g at *
  have c3 := hA.get 3 rfl
  rw [hk] at c3
  have hL := hA.load
  have hIn : ∀ y : Wd W, ActIn y.w a := fun y => hI.q (Q.trans hqW y.q)
  have hzg : a.group.size ≤ maxLen := ho.strs _ (by simp)
  have hzx : a.text.size ≤ maxLen := ho.strs _ (by simp)
  have hzr : a.target.size ≤ maxLen := ho.strs _ (by simp)
  have HK := Lib.hid hk
  obtain ⟨v, hv⟩ := Wd.first W
  have HI := Lib.hid hI
  have HO := Lib.hid ho
  clear hbel hL1 hk hI hqx hx1 hlt1 hx hA hq1 hg hml
  rw [hv]
  clear hv
  cases g1 : audienceB a
  all_goals
    go_wp2_with (first | (refine wpList_store_blk (Wd.blk _ hW) rfl 44 (.tmp 3) (.tmp 48) (bareR a).cells rfl rfl rfl (by kernel_rfl) (act_all _) (Nat.le_refl 20) ?_) | (refine wpList_load_run 44 (.tmp 1) (.pointer (some ⟨w.heap.size, 0, none⟩)) (.agg (actA a)) ?_ ?_ ?_ ?_ ?_; rfl; rfl; rfl; exact hL _) | (go_at_call 274; refine (rpublic_any _ _).mono ?_; rintro e w' ⟨rfl, rfl⟩) | (go_at_call 276; refine (raudience_any a _ (hIn _) ho).mono ?_; rintro e w' ⟨rfl, hq2⟩; obtain ⟨y, rfl⟩ := Wd.next _ hq2; clear hq2) | (go_at_call 277; refine (rbare_any a _).mono ?_; rintro e w' ⟨rfl, hq2⟩; obtain ⟨y, rfl⟩ := Wd.next _ hq2; clear hq2))
  all_goals
    intro W3 hW3 hbel3
    rw [splice_all _ _ (by rfl)] at hW3
    have hq3 : Q w W3 := hbel3 _ _ hgs (Q.trans hqW (Wd.q _))
    clear hbel3
  all_goals
    have hB := hW3
    have hQ2 := hq3
    have hB : Blk W3 g 44 (ActR.cells (bareR a)).toArray := hB
    have hLd := Wd.load (P := Tryz.prog) (ty := 44) hB.lt (Blk.range hB) Tryz.underlying44 rfl (by kernel_rfl) ⟨W3, Q.refl W3⟩
    have HQ2 := Lib.hid hQ2
    clear hB hQ2 hW hL
    go_wp2_with (first | (refine wpList_load_run 44 (.tmp 3) (.pointer (some ⟨g, 0, none⟩)) (.agg (actA (bareR a))) ?_ ?_ ?_ ?_ ?_; rfl; rfl; rfl; exact hLd) | (go_at_call 280; refine (rzero_any (bareR a) _).mono ?_; rintro e w' ⟨rfl, hq2⟩))
  all_goals
    go_ret
    refine ⟨?_, by first | exact Q.trans HQ2.out hq2 | exact HQ2.out⟩
    rw [HF.out]
    clear c3 hLd HQ2 HI HO hqW hgs
    simp_all [maskOk, conj, inMask, ruleF, ruleB, zeroB, homeB, objectB, targetB, grantB, labelB, setupB, publicB, digestB, shortB, noneE, bodyNone, bareR, sealedScopeB, rgroupB, withinB, cast32, empty_none, toList_nil, intz]
  all_goals (first | rfl | (rw [Bool.eq_iff_iff]; simp; done) | (intros; omega) | (intros; have := noneB_size (s := a.object) (by assumption); omega))
set_option maxRecDepth 100000 in
set_option maxHeartbeats 8000000 in
theorem rfits_2 (a : ActR) (w : World) (hI : ActIn w a) (ho : ActOk a) (hk : a.kind = 2) : Calls Tryz.prog 258 #[.agg (actA a)] w fun e w' => e = .returned (.bool (fitsB a)) ∧ Q w w' := by
  have hml : maxLen ≤ 9223372036854775807 := by decide
  obtain ⟨w1, x, hx, hq1, hA⟩ := ActAt.box w a 44
  have hL1 := hA.load
  have hx1 := x.q.size
  have hlt1 := hA.lt
  have HF := Lib.hid (fits_mask a 2 (by decide) hk)
  go_enter Tryz.func258, Tryz.ntmps258
  go_wp2_with (first | (refine wpList_load_run 44 (.tmp 1) (.pointer (some ⟨w.heap.size, 0, none⟩)) (.agg (actA a)) ?_ ?_ ?_ ?_ ?_; rfl; rfl; rfl; exact hL1 _) | (refine wpList_store_blk (Blk.new x.w 44 act0.cells.toArray) rfl 44 (.tmp 3) (.tmp 11) a.cells rfl rfl rfl (by kernel_rfl) (act_all _) (Nat.le_refl 20) ?_))
  intro W hW hbel
  rw [splice_all _ _ (by rfl)] at hW
  have hqx : Q x.w W := hbel _ _ (Nat.le_refl _) (q_new _ _ _)
  have hqW : Q w W := Q.trans hq1 (Q.trans x.q hqx)
  have hA := ActAt.mk (w0 := W) (g := w.heap.size) (a := a) (Nat.lt_of_lt_of_le hlt1 (Q.trans x.q hqx).size) (range_q hA.range (Q.trans x.q hqx) hlt1)
  have hgs : w.heap.size ≤ x.w.heap.size := Nat.le_trans hq1.size x.q.size
  generalize hg : x.w.heap.size = g at *
  have c3 := hA.get 3 rfl
  rw [hk] at c3
  have c5 := hA.get 5 rfl
  have hL := hA.load
  have hIn : ∀ y : Wd W, ActIn y.w a := fun y => hI.q (Q.trans hqW y.q)
  have hzg : a.group.size ≤ maxLen := ho.strs _ (by simp)
  have hzx : a.text.size ≤ maxLen := ho.strs _ (by simp)
  have hzr : a.target.size ≤ maxLen := ho.strs _ (by simp)
  have HK := Lib.hid hk
  obtain ⟨v, hv⟩ := Wd.first W
  have HI := Lib.hid hI
  have HO := Lib.hid ho
  clear hbel hL1 hk hI hqx hx1 hlt1 hx hA hq1 hg hml
  rw [hv]
  clear hv
  cases g1 : audienceB a <;> cases g2 : ((a.object.size : Int) == 32)
  all_goals
    go_wp2_with (first | (refine wpList_store_blk (Wd.blk _ hW) rfl 44 (.tmp 3) (.tmp 62) (bareR a).cells rfl rfl rfl (by kernel_rfl) (act_all _) (Nat.le_refl 20) ?_) | (refine wpList_load_run 44 (.tmp 1) (.pointer (some ⟨w.heap.size, 0, none⟩)) (.agg (actA a)) ?_ ?_ ?_ ?_ ?_; rfl; rfl; rfl; exact hL _) | (go_at_call 274; refine (rpublic_any _ _).mono ?_; rintro e w' ⟨rfl, rfl⟩) | (go_at_call 276; refine (raudience_any a _ (hIn _) ho).mono ?_; rintro e w' ⟨rfl, hq2⟩; obtain ⟨y, rfl⟩ := Wd.next _ hq2; clear hq2) | (go_at_call 277; refine (rbare_any a _).mono ?_; rintro e w' ⟨rfl, hq2⟩; obtain ⟨y, rfl⟩ := Wd.next _ hq2; clear hq2))
  all_goals
    intro W3 hW3 hbel3
    rw [splice_all _ _ (by rfl)] at hW3
    have hq3 : Q w W3 := hbel3 _ _ hgs (Q.trans hqW (Wd.q _))
    clear hbel3
    have d5 : W3.cell? ⟨g, 5, none⟩ = _ := hW3.cell 5
    have f5 : W3.frozen? ⟨g, 5, none⟩ = false := hW3.frozen 5
    go_upto_region 80 with (fail)
  all_goals
    refine put1_here (C := fun u => Code.wp _ _ _ _ u) hW3 hq3 hgs ?_
    intro W2 hB hQ2
    have hB : Blk W2 g 44 (ActR.cells { bareR a with object := emptyT }).toArray := hB
    have hLd := Wd.load (P := Tryz.prog) (ty := 44) hB.lt (Blk.range hB) Tryz.underlying44 rfl (by kernel_rfl) ⟨W2, Q.refl W2⟩
    have HQ2 := Lib.hid hQ2
    clear hB hQ2 hW hL
    go_wp2_with (first | (refine wpList_load_run 44 (.tmp 3) (.pointer (some ⟨g, 0, none⟩)) (.agg (actA { bareR a with object := emptyT })) ?_ ?_ ?_ ?_ ?_; rfl; rfl; rfl; exact hLd) | (go_at_call 280; refine (rzero_any { bareR a with object := emptyT } _).mono ?_; rintro e w' ⟨rfl, hq2⟩))
  all_goals
    go_ret
    refine ⟨?_, by first | exact Q.trans HQ2.out hq2 | exact HQ2.out⟩
    rw [HF.out]
    clear c3 hLd HQ2 HI HO hqW hgs
    simp_all [maskOk, conj, inMask, ruleF, ruleB, zeroB, homeB, objectB, targetB, grantB, labelB, setupB, publicB, digestB, shortB, noneE, bodyNone, bareR, sealedScopeB, rgroupB, withinB, cast32, empty_none, toList_nil, intz]
  all_goals (first | rfl | (rw [Bool.eq_iff_iff]; simp; done) | (intros; omega) | (intros; have := noneB_size (s := a.object) (by assumption); omega))
set_option maxRecDepth 100000 in
set_option maxHeartbeats 8000000 in
theorem rfits_3 (a : ActR) (w : World) (hI : ActIn w a) (ho : ActOk a) (hk : a.kind = 3) : Calls Tryz.prog 258 #[.agg (actA a)] w fun e w' => e = .returned (.bool (fitsB a)) ∧ Q w w' := by
  have hml : maxLen ≤ 9223372036854775807 := by decide
  obtain ⟨w1, x, hx, hq1, hA⟩ := ActAt.box w a 44
  have hL1 := hA.load
  have hx1 := x.q.size
  have hlt1 := hA.lt
  have HF := Lib.hid (fits_mask a 3 (by decide) hk)
  go_enter Tryz.func258, Tryz.ntmps258
  go_wp2_with (first | (refine wpList_load_run 44 (.tmp 1) (.pointer (some ⟨w.heap.size, 0, none⟩)) (.agg (actA a)) ?_ ?_ ?_ ?_ ?_; rfl; rfl; rfl; exact hL1 _) | (refine wpList_store_blk (Blk.new x.w 44 act0.cells.toArray) rfl 44 (.tmp 3) (.tmp 11) a.cells rfl rfl rfl (by kernel_rfl) (act_all _) (Nat.le_refl 20) ?_))
  intro W hW hbel
  rw [splice_all _ _ (by rfl)] at hW
  have hqx : Q x.w W := hbel _ _ (Nat.le_refl _) (q_new _ _ _)
  have hqW : Q w W := Q.trans hq1 (Q.trans x.q hqx)
  have hA := ActAt.mk (w0 := W) (g := w.heap.size) (a := a) (Nat.lt_of_lt_of_le hlt1 (Q.trans x.q hqx).size) (range_q hA.range (Q.trans x.q hqx) hlt1)
  have hgs : w.heap.size ≤ x.w.heap.size := Nat.le_trans hq1.size x.q.size
  generalize hg : x.w.heap.size = g at *
  have c3 := hA.get 3 rfl
  rw [hk] at c3
  have c5 := hA.get 5 rfl
  have hL := hA.load
  have hIn : ∀ y : Wd W, ActIn y.w a := fun y => hI.q (Q.trans hqW y.q)
  have hzg : a.group.size ≤ maxLen := ho.strs _ (by simp)
  have hzx : a.text.size ≤ maxLen := ho.strs _ (by simp)
  have hzr : a.target.size ≤ maxLen := ho.strs _ (by simp)
  have HK := Lib.hid hk
  obtain ⟨v, hv⟩ := Wd.first W
  have HI := Lib.hid hI
  have HO := Lib.hid ho
  clear hbel hL1 hk hI hqx hx1 hlt1 hx hA hq1 hg hml
  rw [hv]
  clear hv
  cases g1 : audienceB a <;> cases g2 : ((a.object.size : Int) == 32)
  all_goals
    go_wp2_with (first | (refine wpList_store_blk (Wd.blk _ hW) rfl 44 (.tmp 3) (.tmp 62) (bareR a).cells rfl rfl rfl (by kernel_rfl) (act_all _) (Nat.le_refl 20) ?_) | (refine wpList_load_run 44 (.tmp 1) (.pointer (some ⟨w.heap.size, 0, none⟩)) (.agg (actA a)) ?_ ?_ ?_ ?_ ?_; rfl; rfl; rfl; exact hL _) | (go_at_call 274; refine (rpublic_any _ _).mono ?_; rintro e w' ⟨rfl, rfl⟩) | (go_at_call 276; refine (raudience_any a _ (hIn _) ho).mono ?_; rintro e w' ⟨rfl, hq2⟩; obtain ⟨y, rfl⟩ := Wd.next _ hq2; clear hq2) | (go_at_call 277; refine (rbare_any a _).mono ?_; rintro e w' ⟨rfl, hq2⟩; obtain ⟨y, rfl⟩ := Wd.next _ hq2; clear hq2))
  all_goals
    intro W3 hW3 hbel3
    rw [splice_all _ _ (by rfl)] at hW3
    have hq3 : Q w W3 := hbel3 _ _ hgs (Q.trans hqW (Wd.q _))
    clear hbel3
    have d5 : W3.cell? ⟨g, 5, none⟩ = _ := hW3.cell 5
    have f5 : W3.frozen? ⟨g, 5, none⟩ = false := hW3.frozen 5
    go_upto_region 80 with (fail)
  all_goals
    refine put1_here (C := fun u => Code.wp _ _ _ _ u) hW3 hq3 hgs ?_
    intro W2 hB hQ2
    have hB : Blk W2 g 44 (ActR.cells { bareR a with object := emptyT }).toArray := hB
    have hLd := Wd.load (P := Tryz.prog) (ty := 44) hB.lt (Blk.range hB) Tryz.underlying44 rfl (by kernel_rfl) ⟨W2, Q.refl W2⟩
    have HQ2 := Lib.hid hQ2
    clear hB hQ2 hW hL
    go_wp2_with (first | (refine wpList_load_run 44 (.tmp 3) (.pointer (some ⟨g, 0, none⟩)) (.agg (actA { bareR a with object := emptyT })) ?_ ?_ ?_ ?_ ?_; rfl; rfl; rfl; exact hLd) | (go_at_call 280; refine (rzero_any { bareR a with object := emptyT } _).mono ?_; rintro e w' ⟨rfl, hq2⟩))
  all_goals
    go_ret
    refine ⟨?_, by first | exact Q.trans HQ2.out hq2 | exact HQ2.out⟩
    rw [HF.out]
    clear c3 hLd HQ2 HI HO hqW hgs
    simp_all [maskOk, conj, inMask, ruleF, ruleB, zeroB, homeB, objectB, targetB, grantB, labelB, setupB, publicB, digestB, shortB, noneE, bodyNone, bareR, sealedScopeB, rgroupB, withinB, cast32, empty_none, toList_nil, intz]
  all_goals (first | rfl | (rw [Bool.eq_iff_iff]; simp; done) | (intros; omega) | (intros; have := noneB_size (s := a.object) (by assumption); omega))
set_option maxRecDepth 100000 in
set_option maxHeartbeats 8000000 in
theorem rfits_14 (a : ActR) (w : World) (hI : ActIn w a) (ho : ActOk a) (hk : a.kind = 14) : Calls Tryz.prog 258 #[.agg (actA a)] w fun e w' => e = .returned (.bool (fitsB a)) ∧ Q w w' := by
  have hml : maxLen ≤ 9223372036854775807 := by decide
  obtain ⟨w1, x, hx, hq1, hA⟩ := ActAt.box w a 44
  have hL1 := hA.load
  have hx1 := x.q.size
  have hlt1 := hA.lt
  have HF := Lib.hid (fits_mask a 14 (by decide) hk)
  go_enter Tryz.func258, Tryz.ntmps258
  go_wp2_with (first | (refine wpList_load_run 44 (.tmp 1) (.pointer (some ⟨w.heap.size, 0, none⟩)) (.agg (actA a)) ?_ ?_ ?_ ?_ ?_; rfl; rfl; rfl; exact hL1 _) | (refine wpList_store_blk (Blk.new x.w 44 act0.cells.toArray) rfl 44 (.tmp 3) (.tmp 11) a.cells rfl rfl rfl (by kernel_rfl) (act_all _) (Nat.le_refl 20) ?_))
  intro W hW hbel
  rw [splice_all _ _ (by rfl)] at hW
  have hqx : Q x.w W := hbel _ _ (Nat.le_refl _) (q_new _ _ _)
  have hqW : Q w W := Q.trans hq1 (Q.trans x.q hqx)
  have hA := ActAt.mk (w0 := W) (g := w.heap.size) (a := a) (Nat.lt_of_lt_of_le hlt1 (Q.trans x.q hqx).size) (range_q hA.range (Q.trans x.q hqx) hlt1)
  have hgs : w.heap.size ≤ x.w.heap.size := Nat.le_trans hq1.size x.q.size
  generalize hg : x.w.heap.size = g at *
  have c3 := hA.get 3 rfl
  rw [hk] at c3
  have c5 := hA.get 5 rfl
  have hL := hA.load
  have hIn : ∀ y : Wd W, ActIn y.w a := fun y => hI.q (Q.trans hqW y.q)
  have hzg : a.group.size ≤ maxLen := ho.strs _ (by simp)
  have hzx : a.text.size ≤ maxLen := ho.strs _ (by simp)
  have hzr : a.target.size ≤ maxLen := ho.strs _ (by simp)
  have HK := Lib.hid hk
  obtain ⟨v, hv⟩ := Wd.first W
  have HI := Lib.hid hI
  have HO := Lib.hid ho
  clear hbel hL1 hk hI hqx hx1 hlt1 hx hA hq1 hg hml
  rw [hv]
  clear hv
  cases g1 : audienceB a <;> cases g2 : ((a.object.size : Int) == 32)
  all_goals
    go_wp2_with (first | (refine wpList_store_blk (Wd.blk _ hW) rfl 44 (.tmp 3) (.tmp 62) (bareR a).cells rfl rfl rfl (by kernel_rfl) (act_all _) (Nat.le_refl 20) ?_) | (refine wpList_load_run 44 (.tmp 1) (.pointer (some ⟨w.heap.size, 0, none⟩)) (.agg (actA a)) ?_ ?_ ?_ ?_ ?_; rfl; rfl; rfl; exact hL _) | (go_at_call 274; refine (rpublic_any _ _).mono ?_; rintro e w' ⟨rfl, rfl⟩) | (go_at_call 276; refine (raudience_any a _ (hIn _) ho).mono ?_; rintro e w' ⟨rfl, hq2⟩; obtain ⟨y, rfl⟩ := Wd.next _ hq2; clear hq2) | (go_at_call 277; refine (rbare_any a _).mono ?_; rintro e w' ⟨rfl, hq2⟩; obtain ⟨y, rfl⟩ := Wd.next _ hq2; clear hq2))
  all_goals
    intro W3 hW3 hbel3
    rw [splice_all _ _ (by rfl)] at hW3
    have hq3 : Q w W3 := hbel3 _ _ hgs (Q.trans hqW (Wd.q _))
    clear hbel3
    have d5 : W3.cell? ⟨g, 5, none⟩ = _ := hW3.cell 5
    have f5 : W3.frozen? ⟨g, 5, none⟩ = false := hW3.frozen 5
    go_upto_region 80 with (fail)
  all_goals
    refine put1_here (C := fun u => Code.wp _ _ _ _ u) hW3 hq3 hgs ?_
    intro W2 hB hQ2
    have hB : Blk W2 g 44 (ActR.cells { bareR a with object := emptyT }).toArray := hB
    have hLd := Wd.load (P := Tryz.prog) (ty := 44) hB.lt (Blk.range hB) Tryz.underlying44 rfl (by kernel_rfl) ⟨W2, Q.refl W2⟩
    have HQ2 := Lib.hid hQ2
    clear hB hQ2 hW hL
    go_wp2_with (first | (refine wpList_load_run 44 (.tmp 3) (.pointer (some ⟨g, 0, none⟩)) (.agg (actA { bareR a with object := emptyT })) ?_ ?_ ?_ ?_ ?_; rfl; rfl; rfl; exact hLd) | (go_at_call 280; refine (rzero_any { bareR a with object := emptyT } _).mono ?_; rintro e w' ⟨rfl, hq2⟩))
  all_goals
    go_ret
    refine ⟨?_, by first | exact Q.trans HQ2.out hq2 | exact HQ2.out⟩
    rw [HF.out]
    clear c3 hLd HQ2 HI HO hqW hgs
    simp_all [maskOk, conj, inMask, ruleF, ruleB, zeroB, homeB, objectB, targetB, grantB, labelB, setupB, publicB, digestB, shortB, noneE, bodyNone, bareR, sealedScopeB, rgroupB, withinB, cast32, empty_none, toList_nil, intz]
  all_goals (first | rfl | (rw [Bool.eq_iff_iff]; simp; done) | (intros; omega) | (intros; have := noneB_size (s := a.object) (by assumption); omega))
set_option maxRecDepth 100000 in
set_option maxHeartbeats 8000000 in
theorem rfits_4 (a : ActR) (w : World) (hI : ActIn w a) (ho : ActOk a) (hk : a.kind = 4) : Calls Tryz.prog 258 #[.agg (actA a)] w fun e w' => e = .returned (.bool (fitsB a)) ∧ Q w w' := by
  have hml : maxLen ≤ 9223372036854775807 := by decide
  obtain ⟨w1, x, hx, hq1, hA⟩ := ActAt.box w a 44
  have hL1 := hA.load
  have hx1 := x.q.size
  have hlt1 := hA.lt
  have HF := Lib.hid (fits_mask a 4 (by decide) hk)
  go_enter Tryz.func258, Tryz.ntmps258
  go_wp2_with (first | (refine wpList_load_run 44 (.tmp 1) (.pointer (some ⟨w.heap.size, 0, none⟩)) (.agg (actA a)) ?_ ?_ ?_ ?_ ?_; rfl; rfl; rfl; exact hL1 _) | (refine wpList_store_blk (Blk.new x.w 44 act0.cells.toArray) rfl 44 (.tmp 3) (.tmp 11) a.cells rfl rfl rfl (by kernel_rfl) (act_all _) (Nat.le_refl 20) ?_))
  intro W hW hbel
  rw [splice_all _ _ (by rfl)] at hW
  have hqx : Q x.w W := hbel _ _ (Nat.le_refl _) (q_new _ _ _)
  have hqW : Q w W := Q.trans hq1 (Q.trans x.q hqx)
  have hA := ActAt.mk (w0 := W) (g := w.heap.size) (a := a) (Nat.lt_of_lt_of_le hlt1 (Q.trans x.q hqx).size) (range_q hA.range (Q.trans x.q hqx) hlt1)
  have hgs : w.heap.size ≤ x.w.heap.size := Nat.le_trans hq1.size x.q.size
  generalize hg : x.w.heap.size = g at *
  have c3 := hA.get 3 rfl
  rw [hk] at c3
  have c5 := hA.get 5 rfl
  have hL := hA.load
  have hIn : ∀ y : Wd W, ActIn y.w a := fun y => hI.q (Q.trans hqW y.q)
  have hzg : a.group.size ≤ maxLen := ho.strs _ (by simp)
  have hzx : a.text.size ≤ maxLen := ho.strs _ (by simp)
  have hzr : a.target.size ≤ maxLen := ho.strs _ (by simp)
  have hnf : ∀ (y : Wd W) (j : Nat), y.w.frozen? ⟨g, j, none⟩ = false := fun y j => (y.blk hW).frozen j
  have d5 : ∀ y : Wd W, y.w.cell? ⟨g, 5, none⟩ = _ := fun y => (y.blk hW).cell 5
  have f5 : ∀ y : Wd W, y.w.frozen? ⟨g, 5, none⟩ = false := fun y => (y.blk hW).frozen 5
  clear hnf
  have HK := Lib.hid hk
  obtain ⟨v, hv⟩ := Wd.first W
  have HI := Lib.hid hI
  have HO := Lib.hid ho
  clear hbel hL1 hk hI hqx hx1 hlt1 hx hA hq1 hg hml
  clear ho
  clear hIn
  rw [hv]
  clear hv
  cases g1 : ((a.object.size : Int) == 32)
  all_goals
    go_upto_region 80 with (first | (go_at_call 274; refine (rpublic_any _ _).mono ?_; rintro e w' ⟨rfl, rfl⟩))
  all_goals
    refine put1_out (C := fun u => Code.wp _ _ _ _ u) hW hqW hgs ?_
    intro W2 hB hQ2
    have hB : Blk W2 g 44 (ActR.cells { a with object := emptyT }).toArray := hB
    have hLd := Wd.load (P := Tryz.prog) (ty := 44) hB.lt (Blk.range hB) Tryz.underlying44 rfl (by kernel_rfl) ⟨W2, Q.refl W2⟩
    have HQ2 := Lib.hid hQ2
    clear hB hQ2 hW hL
    go_wp2_with (first | (refine wpList_load_run 44 (.tmp 3) (.pointer (some ⟨g, 0, none⟩)) (.agg (actA { a with object := emptyT })) ?_ ?_ ?_ ?_ ?_; rfl; rfl; rfl; exact hLd) | (go_at_call 280; refine (rzero_any { a with object := emptyT } _).mono ?_; rintro e w' ⟨rfl, hq2⟩))
  all_goals
    go_ret
    refine ⟨?_, by first | exact Q.trans HQ2.out hq2 | exact HQ2.out⟩
    rw [HF.out]
    clear c3 hLd HQ2 HI HO hqW hgs
    simp_all [maskOk, conj, inMask, ruleF, ruleB, zeroB, homeB, objectB, targetB, grantB, labelB, setupB, publicB, digestB, shortB, noneE, bodyNone, bareR, sealedScopeB, rgroupB, withinB, cast32, empty_none, toList_nil, intz]
  all_goals (first | rfl | (rw [Bool.eq_iff_iff]; simp; done) | (intros; omega) | (intros; have := noneB_size (s := a.object) (by assumption); omega))
set_option maxRecDepth 100000 in
set_option maxHeartbeats 8000000 in
theorem rfits_5 (a : ActR) (w : World) (hI : ActIn w a) (ho : ActOk a) (hk : a.kind = 5) : Calls Tryz.prog 258 #[.agg (actA a)] w fun e w' => e = .returned (.bool (fitsB a)) ∧ Q w w' := by
  have hml : maxLen ≤ 9223372036854775807 := by decide
  obtain ⟨w1, x, hx, hq1, hA⟩ := ActAt.box w a 44
  have hL1 := hA.load
  have hx1 := x.q.size
  have hlt1 := hA.lt
  have HF := Lib.hid (fits_mask a 5 (by decide) hk)
  go_enter Tryz.func258, Tryz.ntmps258
  go_wp2_with (first | (refine wpList_load_run 44 (.tmp 1) (.pointer (some ⟨w.heap.size, 0, none⟩)) (.agg (actA a)) ?_ ?_ ?_ ?_ ?_; rfl; rfl; rfl; exact hL1 _) | (refine wpList_store_blk (Blk.new x.w 44 act0.cells.toArray) rfl 44 (.tmp 3) (.tmp 11) a.cells rfl rfl rfl (by kernel_rfl) (act_all _) (Nat.le_refl 20) ?_))
  intro W hW hbel
  rw [splice_all _ _ (by rfl)] at hW
  have hqx : Q x.w W := hbel _ _ (Nat.le_refl _) (q_new _ _ _)
  have hqW : Q w W := Q.trans hq1 (Q.trans x.q hqx)
  have hA := ActAt.mk (w0 := W) (g := w.heap.size) (a := a) (Nat.lt_of_lt_of_le hlt1 (Q.trans x.q hqx).size) (range_q hA.range (Q.trans x.q hqx) hlt1)
  have hgs : w.heap.size ≤ x.w.heap.size := Nat.le_trans hq1.size x.q.size
  generalize hg : x.w.heap.size = g at *
  have c3 := hA.get 3 rfl
  rw [hk] at c3
  have c5 := hA.get 5 rfl
  have hL := hA.load
  have hIn : ∀ y : Wd W, ActIn y.w a := fun y => hI.q (Q.trans hqW y.q)
  have hzg : a.group.size ≤ maxLen := ho.strs _ (by simp)
  have hzx : a.text.size ≤ maxLen := ho.strs _ (by simp)
  have hzr : a.target.size ≤ maxLen := ho.strs _ (by simp)
  have hnf : ∀ (y : Wd W) (j : Nat), y.w.frozen? ⟨g, j, none⟩ = false := fun y j => (y.blk hW).frozen j
  have d5 : ∀ y : Wd W, y.w.cell? ⟨g, 5, none⟩ = _ := fun y => (y.blk hW).cell 5
  have f5 : ∀ y : Wd W, y.w.frozen? ⟨g, 5, none⟩ = false := fun y => (y.blk hW).frozen 5
  clear hnf
  have HK := Lib.hid hk
  obtain ⟨v, hv⟩ := Wd.first W
  have HI := Lib.hid hI
  have HO := Lib.hid ho
  clear hbel hL1 hk hI hqx hx1 hlt1 hx hA hq1 hg hml
  clear ho
  clear hIn
  rw [hv]
  clear hv
  cases g1 : ((a.object.size : Int) == 32)
  all_goals
    go_upto_region 80 with (first | (go_at_call 274; refine (rpublic_any _ _).mono ?_; rintro e w' ⟨rfl, rfl⟩))
  all_goals
    refine put1_out (C := fun u => Code.wp _ _ _ _ u) hW hqW hgs ?_
    intro W2 hB hQ2
    have hB : Blk W2 g 44 (ActR.cells { a with object := emptyT }).toArray := hB
    have hLd := Wd.load (P := Tryz.prog) (ty := 44) hB.lt (Blk.range hB) Tryz.underlying44 rfl (by kernel_rfl) ⟨W2, Q.refl W2⟩
    have HQ2 := Lib.hid hQ2
    clear hB hQ2 hW hL
    go_wp2_with (first | (refine wpList_load_run 44 (.tmp 3) (.pointer (some ⟨g, 0, none⟩)) (.agg (actA { a with object := emptyT })) ?_ ?_ ?_ ?_ ?_; rfl; rfl; rfl; exact hLd) | (go_at_call 280; refine (rzero_any { a with object := emptyT } _).mono ?_; rintro e w' ⟨rfl, hq2⟩))
  all_goals
    go_ret
    refine ⟨?_, by first | exact Q.trans HQ2.out hq2 | exact HQ2.out⟩
    rw [HF.out]
    clear c3 hLd HQ2 HI HO hqW hgs
    simp_all [maskOk, conj, inMask, ruleF, ruleB, zeroB, homeB, objectB, targetB, grantB, labelB, setupB, publicB, digestB, shortB, noneE, bodyNone, bareR, sealedScopeB, rgroupB, withinB, cast32, empty_none, toList_nil, intz]
  all_goals (first | rfl | (rw [Bool.eq_iff_iff]; simp; done) | (intros; omega) | (intros; have := noneB_size (s := a.object) (by assumption); omega))
set_option maxRecDepth 100000 in
set_option maxHeartbeats 8000000 in
theorem rfits_6 (a : ActR) (w : World) (hI : ActIn w a) (ho : ActOk a) (hk : a.kind = 6) : Calls Tryz.prog 258 #[.agg (actA a)] w fun e w' => e = .returned (.bool (fitsB a)) ∧ Q w w' := by
  have hml : maxLen ≤ 9223372036854775807 := by decide
  obtain ⟨w1, x, hx, hq1, hA⟩ := ActAt.box w a 44
  have hL1 := hA.load
  have hx1 := x.q.size
  have hlt1 := hA.lt
  have HF := Lib.hid (fits_mask a 6 (by decide) hk)
  go_enter Tryz.func258, Tryz.ntmps258
  go_wp2_with (first | (refine wpList_load_run 44 (.tmp 1) (.pointer (some ⟨w.heap.size, 0, none⟩)) (.agg (actA a)) ?_ ?_ ?_ ?_ ?_; rfl; rfl; rfl; exact hL1 _) | (refine wpList_store_blk (Blk.new x.w 44 act0.cells.toArray) rfl 44 (.tmp 3) (.tmp 11) a.cells rfl rfl rfl (by kernel_rfl) (act_all _) (Nat.le_refl 20) ?_))
  intro W hW hbel
  rw [splice_all _ _ (by rfl)] at hW
  have hqx : Q x.w W := hbel _ _ (Nat.le_refl _) (q_new _ _ _)
  have hqW : Q w W := Q.trans hq1 (Q.trans x.q hqx)
  have hA := ActAt.mk (w0 := W) (g := w.heap.size) (a := a) (Nat.lt_of_lt_of_le hlt1 (Q.trans x.q hqx).size) (range_q hA.range (Q.trans x.q hqx) hlt1)
  have hgs : w.heap.size ≤ x.w.heap.size := Nat.le_trans hq1.size x.q.size
  generalize hg : x.w.heap.size = g at *
  have c3 := hA.get 3 rfl
  rw [hk] at c3
  have c5 := hA.get 5 rfl
  have hL := hA.load
  have hIn : ∀ y : Wd W, ActIn y.w a := fun y => hI.q (Q.trans hqW y.q)
  have hzg : a.group.size ≤ maxLen := ho.strs _ (by simp)
  have hzx : a.text.size ≤ maxLen := ho.strs _ (by simp)
  have hzr : a.target.size ≤ maxLen := ho.strs _ (by simp)
  have hnf : ∀ (y : Wd W) (j : Nat), y.w.frozen? ⟨g, j, none⟩ = false := fun y j => (y.blk hW).frozen j
  have d5 : ∀ y : Wd W, y.w.cell? ⟨g, 5, none⟩ = _ := fun y => (y.blk hW).cell 5
  have f5 : ∀ y : Wd W, y.w.frozen? ⟨g, 5, none⟩ = false := fun y => (y.blk hW).frozen 5
  clear hnf
  have HK := Lib.hid hk
  obtain ⟨v, hv⟩ := Wd.first W
  have HI := Lib.hid hI
  have HO := Lib.hid ho
  clear hbel hL1 hk hI hqx hx1 hlt1 hx hA hq1 hg hml
  clear ho
  clear hIn
  rw [hv]
  clear hv
  cases g1 : ((a.object.size : Int) == 32)
  all_goals
    go_upto_region 80 with (first | (go_at_call 274; refine (rpublic_any _ _).mono ?_; rintro e w' ⟨rfl, rfl⟩))
  all_goals
    refine put1_out (C := fun u => Code.wp _ _ _ _ u) hW hqW hgs ?_
    intro W2 hB hQ2
    have hB : Blk W2 g 44 (ActR.cells { a with object := emptyT }).toArray := hB
    have hLd := Wd.load (P := Tryz.prog) (ty := 44) hB.lt (Blk.range hB) Tryz.underlying44 rfl (by kernel_rfl) ⟨W2, Q.refl W2⟩
    have HQ2 := Lib.hid hQ2
    clear hB hQ2 hW hL
    go_wp2_with (first | (refine wpList_load_run 44 (.tmp 3) (.pointer (some ⟨g, 0, none⟩)) (.agg (actA { a with object := emptyT })) ?_ ?_ ?_ ?_ ?_; rfl; rfl; rfl; exact hLd) | (go_at_call 280; refine (rzero_any { a with object := emptyT } _).mono ?_; rintro e w' ⟨rfl, hq2⟩))
  all_goals
    go_ret
    refine ⟨?_, by first | exact Q.trans HQ2.out hq2 | exact HQ2.out⟩
    rw [HF.out]
    clear c3 hLd HQ2 HI HO hqW hgs
    simp_all [maskOk, conj, inMask, ruleF, ruleB, zeroB, homeB, objectB, targetB, grantB, labelB, setupB, publicB, digestB, shortB, noneE, bodyNone, bareR, sealedScopeB, rgroupB, withinB, cast32, empty_none, toList_nil, intz]
  all_goals (first | rfl | (rw [Bool.eq_iff_iff]; simp; done) | (intros; omega) | (intros; have := noneB_size (s := a.object) (by assumption); omega))
set_option maxRecDepth 100000 in
set_option maxHeartbeats 8000000 in
theorem rfits_13 (a : ActR) (w : World) (hI : ActIn w a) (ho : ActOk a) (hk : a.kind = 13) : Calls Tryz.prog 258 #[.agg (actA a)] w fun e w' => e = .returned (.bool (fitsB a)) ∧ Q w w' := by
  have hml : maxLen ≤ 9223372036854775807 := by decide
  obtain ⟨w1, x, hx, hq1, hA⟩ := ActAt.box w a 44
  have hL1 := hA.load
  have hx1 := x.q.size
  have hlt1 := hA.lt
  have HF := Lib.hid (fits_mask a 13 (by decide) hk)
  go_enter Tryz.func258, Tryz.ntmps258
  go_wp2_with (first | (refine wpList_load_run 44 (.tmp 1) (.pointer (some ⟨w.heap.size, 0, none⟩)) (.agg (actA a)) ?_ ?_ ?_ ?_ ?_; rfl; rfl; rfl; exact hL1 _) | (refine wpList_store_blk (Blk.new x.w 44 act0.cells.toArray) rfl 44 (.tmp 3) (.tmp 11) a.cells rfl rfl rfl (by kernel_rfl) (act_all _) (Nat.le_refl 20) ?_))
  intro W hW hbel
  rw [splice_all _ _ (by rfl)] at hW
  have hqx : Q x.w W := hbel _ _ (Nat.le_refl _) (q_new _ _ _)
  have hqW : Q w W := Q.trans hq1 (Q.trans x.q hqx)
  have hA := ActAt.mk (w0 := W) (g := w.heap.size) (a := a) (Nat.lt_of_lt_of_le hlt1 (Q.trans x.q hqx).size) (range_q hA.range (Q.trans x.q hqx) hlt1)
  have hgs : w.heap.size ≤ x.w.heap.size := Nat.le_trans hq1.size x.q.size
  generalize hg : x.w.heap.size = g at *
  have c3 := hA.get 3 rfl
  rw [hk] at c3
  have c5 := hA.get 5 rfl
  have hL := hA.load
  have hIn : ∀ y : Wd W, ActIn y.w a := fun y => hI.q (Q.trans hqW y.q)
  have hzg : a.group.size ≤ maxLen := ho.strs _ (by simp)
  have hzx : a.text.size ≤ maxLen := ho.strs _ (by simp)
  have hzr : a.target.size ≤ maxLen := ho.strs _ (by simp)
  have hnf : ∀ (y : Wd W) (j : Nat), y.w.frozen? ⟨g, j, none⟩ = false := fun y j => (y.blk hW).frozen j
  have d5 : ∀ y : Wd W, y.w.cell? ⟨g, 5, none⟩ = _ := fun y => (y.blk hW).cell 5
  have f5 : ∀ y : Wd W, y.w.frozen? ⟨g, 5, none⟩ = false := fun y => (y.blk hW).frozen 5
  clear hnf
  have HK := Lib.hid hk
  obtain ⟨v, hv⟩ := Wd.first W
  have HI := Lib.hid hI
  have HO := Lib.hid ho
  clear hbel hL1 hk hI hqx hx1 hlt1 hx hA hq1 hg hml
  clear ho
  clear hIn
  rw [hv]
  clear hv
  cases g1 : ((a.object.size : Int) == 32)
  all_goals
    go_upto_region 80 with (first | (go_at_call 274; refine (rpublic_any _ _).mono ?_; rintro e w' ⟨rfl, rfl⟩))
  all_goals
    refine put1_out (C := fun u => Code.wp _ _ _ _ u) hW hqW hgs ?_
    intro W2 hB hQ2
    have hB : Blk W2 g 44 (ActR.cells { a with object := emptyT }).toArray := hB
    have hLd := Wd.load (P := Tryz.prog) (ty := 44) hB.lt (Blk.range hB) Tryz.underlying44 rfl (by kernel_rfl) ⟨W2, Q.refl W2⟩
    have HQ2 := Lib.hid hQ2
    clear hB hQ2 hW hL
    go_wp2_with (first | (refine wpList_load_run 44 (.tmp 3) (.pointer (some ⟨g, 0, none⟩)) (.agg (actA { a with object := emptyT })) ?_ ?_ ?_ ?_ ?_; rfl; rfl; rfl; exact hLd) | (go_at_call 280; refine (rzero_any { a with object := emptyT } _).mono ?_; rintro e w' ⟨rfl, hq2⟩))
  all_goals
    go_ret
    refine ⟨?_, by first | exact Q.trans HQ2.out hq2 | exact HQ2.out⟩
    rw [HF.out]
    clear c3 hLd HQ2 HI HO hqW hgs
    simp_all [maskOk, conj, inMask, ruleF, ruleB, zeroB, homeB, objectB, targetB, grantB, labelB, setupB, publicB, digestB, shortB, noneE, bodyNone, bareR, sealedScopeB, rgroupB, withinB, cast32, empty_none, toList_nil, intz]
  all_goals (first | rfl | (rw [Bool.eq_iff_iff]; simp; done) | (intros; omega) | (intros; have := noneB_size (s := a.object) (by assumption); omega))
set_option maxRecDepth 100000 in
set_option maxHeartbeats 8000000 in
theorem rfits_20 (a : ActR) (w : World) (hI : ActIn w a) (ho : ActOk a) (hk : a.kind = 20) : Calls Tryz.prog 258 #[.agg (actA a)] w fun e w' => e = .returned (.bool (fitsB a)) ∧ Q w w' := by
  have hml : maxLen ≤ 9223372036854775807 := by decide
  obtain ⟨w1, x, hx, hq1, hA⟩ := ActAt.box w a 44
  have hL1 := hA.load
  have hx1 := x.q.size
  have hlt1 := hA.lt
  have HF := Lib.hid (fits_mask a 20 (by decide) hk)
  go_enter Tryz.func258, Tryz.ntmps258
  go_wp2_with (first | (refine wpList_load_run 44 (.tmp 1) (.pointer (some ⟨w.heap.size, 0, none⟩)) (.agg (actA a)) ?_ ?_ ?_ ?_ ?_; rfl; rfl; rfl; exact hL1 _) | (refine wpList_store_blk (Blk.new x.w 44 act0.cells.toArray) rfl 44 (.tmp 3) (.tmp 11) a.cells rfl rfl rfl (by kernel_rfl) (act_all _) (Nat.le_refl 20) ?_))
  intro W hW hbel
  rw [splice_all _ _ (by rfl)] at hW
  have hqx : Q x.w W := hbel _ _ (Nat.le_refl _) (q_new _ _ _)
  have hqW : Q w W := Q.trans hq1 (Q.trans x.q hqx)
  have hA := ActAt.mk (w0 := W) (g := w.heap.size) (a := a) (Nat.lt_of_lt_of_le hlt1 (Q.trans x.q hqx).size) (range_q hA.range (Q.trans x.q hqx) hlt1)
  have hgs : w.heap.size ≤ x.w.heap.size := Nat.le_trans hq1.size x.q.size
  generalize hg : x.w.heap.size = g at *
  have c3 := hA.get 3 rfl
  rw [hk] at c3
  have c5 := hA.get 5 rfl
  have hL := hA.load
  have hIn : ∀ y : Wd W, ActIn y.w a := fun y => hI.q (Q.trans hqW y.q)
  have hzg : a.group.size ≤ maxLen := ho.strs _ (by simp)
  have hzx : a.text.size ≤ maxLen := ho.strs _ (by simp)
  have hzr : a.target.size ≤ maxLen := ho.strs _ (by simp)
  have hnf : ∀ (y : Wd W) (j : Nat), y.w.frozen? ⟨g, j, none⟩ = false := fun y j => (y.blk hW).frozen j
  have d5 : ∀ y : Wd W, y.w.cell? ⟨g, 5, none⟩ = _ := fun y => (y.blk hW).cell 5
  have f5 : ∀ y : Wd W, y.w.frozen? ⟨g, 5, none⟩ = false := fun y => (y.blk hW).frozen 5
  clear hnf
  have HK := Lib.hid hk
  obtain ⟨v, hv⟩ := Wd.first W
  have HI := Lib.hid hI
  have HO := Lib.hid ho
  clear hbel hL1 hk hI hqx hx1 hlt1 hx hA hq1 hg hml
  clear ho
  clear hIn
  rw [hv]
  clear hv
  cases g1 : ((a.object.size : Int) == 32)
  all_goals
    go_upto_region 80 with (first | (go_at_call 274; refine (rpublic_any _ _).mono ?_; rintro e w' ⟨rfl, rfl⟩))
  all_goals
    refine put1_out (C := fun u => Code.wp _ _ _ _ u) hW hqW hgs ?_
    intro W2 hB hQ2
    have hB : Blk W2 g 44 (ActR.cells { a with object := emptyT }).toArray := hB
    have hLd := Wd.load (P := Tryz.prog) (ty := 44) hB.lt (Blk.range hB) Tryz.underlying44 rfl (by kernel_rfl) ⟨W2, Q.refl W2⟩
    have HQ2 := Lib.hid hQ2
    clear hB hQ2 hW hL
    go_wp2_with (first | (refine wpList_load_run 44 (.tmp 3) (.pointer (some ⟨g, 0, none⟩)) (.agg (actA { a with object := emptyT })) ?_ ?_ ?_ ?_ ?_; rfl; rfl; rfl; exact hLd) | (go_at_call 280; refine (rzero_any { a with object := emptyT } _).mono ?_; rintro e w' ⟨rfl, hq2⟩))
  all_goals
    go_ret
    refine ⟨?_, by first | exact Q.trans HQ2.out hq2 | exact HQ2.out⟩
    rw [HF.out]
    clear c3 hLd HQ2 HI HO hqW hgs
    simp_all [maskOk, conj, inMask, ruleF, ruleB, zeroB, homeB, objectB, targetB, grantB, labelB, setupB, publicB, digestB, shortB, noneE, bodyNone, bareR, sealedScopeB, rgroupB, withinB, cast32, empty_none, toList_nil, intz]
  all_goals (first | rfl | (rw [Bool.eq_iff_iff]; simp; done) | (intros; omega) | (intros; have := noneB_size (s := a.object) (by assumption); omega))
end Go.Proofs.YtflgkplneekpfaaGreatDoor.Item
