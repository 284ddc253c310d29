/-
  The contracts of agoraref14's Acts, Claims, Ballots and Decisions: Sorted, then a loop that appends the wanted parts.
  The four lists as known computes them are the reference's. No walk in this text.
  The law KnownLists, walked (printed by gen_lists.py).
  What an argument's type gives: a struct of two integers. How the contract of a law becomes its row: the law returns true, and below the heap's old size nothing has changed, so every argument reads as before. What the rows' list of tables gives: package sum's two tables hold what the text says; and a world for the witness.
  The statement KnownLists holds. The tables of package sum hold what the text lays.
-/
import Derived.Test.YtomkeaeegdjhnaaGreatDoorMgLi
import Derived.Test.YtomkeaeegdjhnaaGreatDoorMgPickL
import Derived.Test.YtomkeaeegdjhnaaGreatDoorProg
import Derived.WideShapes
import Derived.ProofKit
import Derived.OpenShut
import Derived.OpenVars
import Derived.Test.YtomkeaeegdjhnaaGreatDoorCards
import Derived.Test.YtomkeaeegdjhnaaGreatDoorTie
import Derived.Test.YtomkeaeegdjhnaaGreatDoorShaMix
import Derived.Deep.DeepHandedRow
import Derived.Lib.LaidTab
import Derived.Test.YtomkeaeegdjhnaaGreatDoorMgItKn
import Derived.ChangeMaps5
set_option linter.unusedVariables false
set_option linter.unusedSimpArgs false
namespace Go.Proofs.YtomkeaeegdjhnaaGreatDoor.Known
open Go.RowKit Grp Mem _root_.Go.Proofs.YtomkeaeegdjhnaaGreatDoor.Code Sha Sign _root_.Go.Proofs.YtomkeaeegdjhnaaGreatDoor.Item _root_.Go.Proofs.YtomkeaeegdjhnaaGreatDoor.Ins

/-- The wanted parts of a list of items. -/
def partsL {α : Type} (wt : ItemR → Bool) (pt : ItemR → α) (l : List ItemR) : List α := (l.filter wt).map pt
theorem partsL_step {α : Type} (wt : ItemR → Bool) (pt : ItemR → α) (l : List ItemR) (j : Nat) (h : j < l.length) : partsL wt pt (l.take (j + 1)) = partsL wt pt (l.take j) ++ if wt l[j] then [pt l[j]] else [] := by
  unfold partsL
  rw [List.take_succ_eq_append_getElem h, List.filter_append, List.map_append, List.filter_cons]
  cases wt l[j] <;> rfl
theorem flat_snoc {α β : Type} (f : α → List β) (l : List α) (x : α) : l.flatMap f ++ f x = (l ++ [x]).flatMap f := by simp
theorem partsL_le {α : Type} (wt : ItemR → Bool) (pt : ItemR → α) (l : List ItemR) (j : Nat) : (partsL wt pt (l.take j)).length ≤ j := by
  unfold partsL
  rw [List.length_map]
  refine Nat.le_trans (List.length_filter_le _ _) ?_
  rw [List.length_take]
  omega

/-- The reference's list. -/
def refLAc (key : ByteArray) (l : List ItemR) : List ActR := partsL (fun x => decide (x.act.author = key)) (·.act) (sortedK 0 l)
set_option maxRecDepth 100000 in
set_option maxHeartbeats 4000000 in
theorem refAc_any (k : KR) (key : ByteArray) (w : World) (hK : KIn w k) (hn : k.l.length ≤ 100000) (ho : ∀ x ∈ k.l, ItemOk x) :
    Calls Tryz.prog 17 #[.agg (knA k), .string key] w (ListAcAre (refLAc key k.l) w) := by
  obtain ⟨w1, x, hx, hq1, hbk⟩ := boxedB w 25 k.cells
  have hx : w.alloc (.cells (knA k) 25) = x.w := hx
  have cI : ∀ y : Wd w1, y.w.cell? ⟨w.heap.size, 1, none⟩ = some (.slice k.iA k.l.length k.iC) := fun y => (y.blk hbk).cell 1
  have hKy : ∀ y : Wd w1, KIn y.w k := fun y => hK.q (Q.trans hq1 y.q)
  have hso := fun y : Wd w1 => rsorted_any k.iA k.iC k.l 0 y.w (hKy y).items (hKy y).lC.1 (hKy y).lC.2 hn ho
  have HLR := Lib.hid (show refLAc key k.l = partsL (fun x => decide (x.act.author = key)) (·.act) (sortedK 0 k.l) from rfl)
  have hsn : (sortedK 0 k.l).length ≤ 100000 := by have := outK_le 0 k.l k.l.length; rw [outK_all] at this; omega
  have HQ := Lib.hid hq1
  obtain ⟨j0, hji, hy0, hy1, hy2⟩ := info_parts valAc_info
  generalize refLAc key k.l = R at HLR ⊢
  generalize sortedK 0 k.l = l at *
  clear hbk hq1 hK
  go_enter Tryz.func17, Tryz.ntmps17
  go_wp2_with (go_at_call 66; refine (hso _).mono ?_; rintro e w' ⟨A, cl, rfl, hlc, hcm0, hI, hq2⟩; obtain ⟨y, rfl⟩ := Wd.next _ hq2; clear hq2)
  have hYQ := y.q
  obtain ⟨w2, hw2⟩ : ∃ w2, y.w = w2 := ⟨_, rfl⟩
  have HQ2 : Hid (Q w w2) := Lib.hid (hw2 ▸ Q.trans HQ.out y.q)
  rw [hw2] at hI ⊢
  obtain ⟨x2, hx2⟩ := Wd.first w2
  rw [hx2]
  clear hx2 hw2 hYQ cI hKy hso
  go_wp2_with fail
  go_loopw [6, 7] (fun a i wr => ∃ (j c m : Nat) (B : Option Addr) (z : Wd w2), a = .slice B m c ∧ i = .int .i64 j ∧ wr = z.w ∧ j ≤ l.length ∧ m ≤ j ∧ m ≤ c ∧ c ≤ maxLen ∧ Hid (m = (partsL (fun x => decide (x.act.author = key)) (·.act) (l.take j)).length) ∧ Owns z.w w2.heap.size 38 20 (.slice B m c) m ((partsL (fun x => decide (x.act.author = key)) (·.act) (l.take j)).flatMap ActR.cells)) (fun _ i _ => l.length - (intOf i).toNat)
  case atStart => exact ⟨0, 0, 0, none, x2, rfl, rfl, rfl, Nat.zero_le _, Nat.zero_le _, Nat.zero_le _, Nat.zero_le _, Lib.hid rfl, Owns.nil_ _ _ _ _⟩
  case round =>
    obtain ⟨j, c, m, B, z, rfl, rfl, rfl, hj, hmj, hmc, hcm, hm, hown⟩ := hrel
    by_cases hlt : j < l.length
    · obtain ⟨b, o, eA, hb, hcell⟩ := hI.rows (by omega)
      subst eA
      have HTS := Lib.hid (partsL_step (fun x => decide (x.act.author = key)) (·.act) l j hlt)
      have hcj := hcell j hlt
      have hrv : w2.rangeAt b (o + j * 49 + 1) l[j].act.cells := range_sub hcj 1 20
      have hLv : ∀ y : Wd z.w, (Instr.loadAt 38 (.pointer (some ⟨b, o + j * 49 + 1, none⟩))).run Tryz.prog y.w = .ok (.agg (actA l[j].act)) y.w := fun y => Wd.load hb hrv Tryz.underlying38 rfl (by kernel_rfl) ⟨y.w, Q.trans z.q y.q⟩
      have hcA := Wd.get hb hcj 1 (v := .string l[j].act.author) rfl z
      have hzs := z.q.size
      clear hcell hcj hrv
      generalize l[j] = it at *
      by_cases hk : it.act.author = key
      · have HTE := Lib.hid (show partsL (fun x => decide (x.act.author = key)) (·.act) (l.take (j + 1)) = partsL (fun x => decide (x.act.author = key)) (·.act) (l.take j) ++ [it.act] by rw [HTS.out]; simp [hk])
        have n1 : (it.act.author.toList == key.toList) = true := by rw [hk]; simp
        go_wp2_with (first
          | (refine wpList_index_rows 23 46 (.tmp 17) (.tmp 18) b o l.length cl j 49 rfl rfl rfl rfl Tryz.underlying23 (by kernel_rfl) Tryz.sizeOf46 hlt ?_)
          | (refine wpList_index_rows 23 46 (.tmp 26) (.tmp 27) b o l.length cl j 49 rfl rfl rfl rfl Tryz.underlying23 (by kernel_rfl) Tryz.sizeOf46 hlt ?_)
          | (refine wpList_load_run 38 (.tmp 29) (.pointer (some ⟨b, o + j * 49 + 1, none⟩)) (.agg (actA it.act)) ?_ ?_ ?_ ?_ ?_; rfl; rfl; rfl; exact hLv ⟨_, Q.refl _⟩)
          | (refine wpList_buildSlice_run 49 1 _ #[(0, .agg (actA it.act))] _ rfl rfl (by simp only [List.map_toArray, List.map_cons, List.map_nil]; rfl) (bsAc_val it.act _) ?_)
          | (at_builtin; refine wpList_append_rows valAc_len valAc_one rfl (.tmp 25) (.tmp 31) 49 38 j0 _ 264 rfl Tryz.underlying49 hji hy0 hy1 hy2 rfl (by decide) (by decide) w2.heap.size (.slice B m c) m _ rfl (hown.alloc (.cells (actA it.act) 38)) (some ⟨z.w.heap.size, 0, none⟩) 1 1 [it.act] rfl (RowsAt.one z.w 38 it.act _ rfl) rfl (by omega) (by simp; omega) ?_))
        intro A6 cap6 w6 hc6 hm6 hown6 hg6
        have hq6 : Q w2 w6 := q_grown (Q.trans z.q (q_new _ _ _)) (Nat.le_refl _) (hown.alloc (.cells (actA it.act) 38)) hg6
        obtain ⟨y6, rfl⟩ : ∃ y6 : Wd w2, w6 = y6.w := ⟨⟨w6, hq6⟩, rfl⟩
        rw [flat_snoc, ← HTE.out] at hown6
        have HM6 : Hid (m + 1 = (partsL (fun x => decide (x.act.author = key)) (·.act) (l.take (j + 1))).length) := Lib.hid (by rw [HTE.out, List.length_append, ← hm.out]; rfl)
        clear hown hg6 hq6 hLv
        go_wp2_with fail
        exact ⟨⟨j + 1, cap6, m + 1, A6, y6, rfl, by go_num, rfl, by omega, by omega, hc6, hm6, HM6, hown6⟩, by simp only [intOf]; omega⟩
      · have HTE := Lib.hid (show partsL (fun x => decide (x.act.author = key)) (·.act) (l.take (j + 1)) = partsL (fun x => decide (x.act.author = key)) (·.act) (l.take j) by rw [HTS.out]; simp [hk])
        have n1 : (it.act.author.toList == key.toList) = false := beq_eq_false_iff_ne.2 (str_ne hk)
        go_wp2_with (refine wpList_index_rows 23 46 (.tmp 17) (.tmp 18) b o l.length cl j 49 rfl rfl rfl rfl Tryz.underlying23 (by kernel_rfl) Tryz.sizeOf46 hlt ?_)
        exact ⟨⟨j + 1, c, m, B, z, rfl, by go_num, rfl, by omega, by omega, hmc, hcm, Lib.hid (by rw [HTE.out]; exact hm.out), by rw [HTE.out]; exact hown⟩, by simp only [intOf]; omega⟩
    · have hjn : j = l.length := by omega
      have hm := hm.out
      rw [hjn, List.take_length, ← HLR.out] at hown hm
      have hfin : ListAcAre R w (.returned (.slice B m c)) z.w := ⟨B, c, by rw [hm], by omega, hcm, Owns.rows valAc_len hown hm, Q.trans HQ2.out z.q⟩
      have HF := Lib.hid hfin
      clear hfin hown hm
      go_wp2_with fail
      go_ret
      exact HF.out

/-- The reference's list. -/
def refLCl (key : ByteArray) (l : List ItemR) : List ClaimV := partsL (fun x => decide (x.claim.actor = key)) (·.claim) (sortedK 1 l)
set_option maxRecDepth 100000 in
set_option maxHeartbeats 4000000 in
theorem refCl_any (k : KR) (key : ByteArray) (w : World) (hK : KIn w k) (hn : k.l.length ≤ 100000) (ho : ∀ x ∈ k.l, ItemOk x) :
    Calls Tryz.prog 19 #[.agg (knA k), .string key] w (ListClAre (refLCl key k.l) w) := by
  obtain ⟨w1, x, hx, hq1, hbk⟩ := boxedB w 25 k.cells
  have hx : w.alloc (.cells (knA k) 25) = x.w := hx
  have cI : ∀ y : Wd w1, y.w.cell? ⟨w.heap.size, 1, none⟩ = some (.slice k.iA k.l.length k.iC) := fun y => (y.blk hbk).cell 1
  have hKy : ∀ y : Wd w1, KIn y.w k := fun y => hK.q (Q.trans hq1 y.q)
  have hso := fun y : Wd w1 => rsorted_any k.iA k.iC k.l 1 y.w (hKy y).items (hKy y).lC.1 (hKy y).lC.2 hn ho
  have HLR := Lib.hid (show refLCl key k.l = partsL (fun x => decide (x.claim.actor = key)) (·.claim) (sortedK 1 k.l) from rfl)
  have hsn : (sortedK 1 k.l).length ≤ 100000 := by have := outK_le 1 k.l k.l.length; rw [outK_all] at this; omega
  have HQ := Lib.hid hq1
  obtain ⟨j0, hji, hy0, hy1, hy2⟩ := info_parts valCl_info
  generalize refLCl key k.l = R at HLR ⊢
  generalize sortedK 1 k.l = l at *
  clear hbk hq1 hK
  go_enter Tryz.func19, Tryz.ntmps19
  go_wp2_with (go_at_call 66; refine (hso _).mono ?_; rintro e w' ⟨A, cl, rfl, hlc, hcm0, hI, hq2⟩; obtain ⟨y, rfl⟩ := Wd.next _ hq2; clear hq2)
  have hYQ := y.q
  obtain ⟨w2, hw2⟩ : ∃ w2, y.w = w2 := ⟨_, rfl⟩
  have HQ2 : Hid (Q w w2) := Lib.hid (hw2 ▸ Q.trans HQ.out y.q)
  rw [hw2] at hI ⊢
  obtain ⟨x2, hx2⟩ := Wd.first w2
  rw [hx2]
  clear hx2 hw2 hYQ cI hKy hso
  go_wp2_with fail
  go_loopw [6, 7] (fun a i wr => ∃ (j c m : Nat) (B : Option Addr) (z : Wd w2), a = .slice B m c ∧ i = .int .i64 j ∧ wr = z.w ∧ j ≤ l.length ∧ m ≤ j ∧ m ≤ c ∧ c ≤ maxLen ∧ Hid (m = (partsL (fun x => decide (x.claim.actor = key)) (·.claim) (l.take j)).length) ∧ Owns z.w w2.heap.size 40 9 (.slice B m c) m ((partsL (fun x => decide (x.claim.actor = key)) (·.claim) (l.take j)).flatMap ClaimV.cells)) (fun _ i _ => l.length - (intOf i).toNat)
  case atStart => exact ⟨0, 0, 0, none, x2, rfl, rfl, rfl, Nat.zero_le _, Nat.zero_le _, Nat.zero_le _, Nat.zero_le _, Lib.hid rfl, Owns.nil_ _ _ _ _⟩
  case round =>
    obtain ⟨j, c, m, B, z, rfl, rfl, rfl, hj, hmj, hmc, hcm, hm, hown⟩ := hrel
    by_cases hlt : j < l.length
    · obtain ⟨b, o, eA, hb, hcell⟩ := hI.rows (by omega)
      subst eA
      have HTS := Lib.hid (partsL_step (fun x => decide (x.claim.actor = key)) (·.claim) l j hlt)
      have hcj := hcell j hlt
      have hrv : w2.rangeAt b (o + j * 49 + 21) l[j].claim.cells := range_sub hcj 21 9
      have hLv : ∀ y : Wd z.w, (Instr.loadAt 40 (.pointer (some ⟨b, o + j * 49 + 21, none⟩))).run Tryz.prog y.w = .ok (.agg (claimA l[j].claim)) y.w := fun y => Wd.load hb hrv Tryz.underlying40 rfl (by kernel_rfl) ⟨y.w, Q.trans z.q y.q⟩
      have hcA := Wd.get hb hcj 21 (v := .string l[j].claim.actor) rfl z
      have hzs := z.q.size
      clear hcell hcj hrv
      generalize l[j] = it at *
      by_cases hk : it.claim.actor = key
      · have HTE := Lib.hid (show partsL (fun x => decide (x.claim.actor = key)) (·.claim) (l.take (j + 1)) = partsL (fun x => decide (x.claim.actor = key)) (·.claim) (l.take j) ++ [it.claim] by rw [HTS.out]; simp [hk])
        have n1 : (it.claim.actor.toList == key.toList) = true := by rw [hk]; simp
        go_wp2_with (first
          | (refine wpList_index_rows 23 46 (.tmp 17) (.tmp 18) b o l.length cl j 49 rfl rfl rfl rfl Tryz.underlying23 (by kernel_rfl) Tryz.sizeOf46 hlt ?_)
          | (refine wpList_index_rows 23 46 (.tmp 26) (.tmp 27) b o l.length cl j 49 rfl rfl rfl rfl Tryz.underlying23 (by kernel_rfl) Tryz.sizeOf46 hlt ?_)
          | (refine wpList_load_run 40 (.tmp 29) (.pointer (some ⟨b, o + j * 49 + 21, none⟩)) (.agg (claimA it.claim)) ?_ ?_ ?_ ?_ ?_; rfl; rfl; rfl; exact hLv ⟨_, Q.refl _⟩)
          | (refine wpList_buildSlice_run 51 1 _ #[(0, .agg (claimA it.claim))] _ rfl rfl (by simp only [List.map_toArray, List.map_cons, List.map_nil]; rfl) (bsCl_val it.claim _) ?_)
          | (at_builtin; refine wpList_append_rows valCl_len valCl_one rfl (.tmp 25) (.tmp 31) 51 40 j0 _ 88 rfl Tryz.underlying51 hji hy0 hy1 hy2 rfl (by decide) (by decide) w2.heap.size (.slice B m c) m _ rfl (hown.alloc (.cells (claimA it.claim) 40)) (some ⟨z.w.heap.size, 0, none⟩) 1 1 [it.claim] rfl (RowsAt.one z.w 40 it.claim _ rfl) rfl (by omega) (by simp; omega) ?_))
        intro A6 cap6 w6 hc6 hm6 hown6 hg6
        have hq6 : Q w2 w6 := q_grown (Q.trans z.q (q_new _ _ _)) (Nat.le_refl _) (hown.alloc (.cells (claimA it.claim) 40)) hg6
        obtain ⟨y6, rfl⟩ : ∃ y6 : Wd w2, w6 = y6.w := ⟨⟨w6, hq6⟩, rfl⟩
        rw [flat_snoc, ← HTE.out] at hown6
        have HM6 : Hid (m + 1 = (partsL (fun x => decide (x.claim.actor = key)) (·.claim) (l.take (j + 1))).length) := Lib.hid (by rw [HTE.out, List.length_append, ← hm.out]; rfl)
        clear hown hg6 hq6 hLv
        go_wp2_with fail
        exact ⟨⟨j + 1, cap6, m + 1, A6, y6, rfl, by go_num, rfl, by omega, by omega, hc6, hm6, HM6, hown6⟩, by simp only [intOf]; omega⟩
      · have HTE := Lib.hid (show partsL (fun x => decide (x.claim.actor = key)) (·.claim) (l.take (j + 1)) = partsL (fun x => decide (x.claim.actor = key)) (·.claim) (l.take j) by rw [HTS.out]; simp [hk])
        have n1 : (it.claim.actor.toList == key.toList) = false := beq_eq_false_iff_ne.2 (str_ne hk)
        go_wp2_with (refine wpList_index_rows 23 46 (.tmp 17) (.tmp 18) b o l.length cl j 49 rfl rfl rfl rfl Tryz.underlying23 (by kernel_rfl) Tryz.sizeOf46 hlt ?_)
        exact ⟨⟨j + 1, c, m, B, z, rfl, by go_num, rfl, by omega, by omega, hmc, hcm, Lib.hid (by rw [HTE.out]; exact hm.out), by rw [HTE.out]; exact hown⟩, by simp only [intOf]; omega⟩
    · have hjn : j = l.length := by omega
      have hm := hm.out
      rw [hjn, List.take_length, ← HLR.out] at hown hm
      have hfin : ListClAre R w (.returned (.slice B m c)) z.w := ⟨B, c, by rw [hm], by omega, hcm, Owns.rows valCl_len hown hm, Q.trans HQ2.out z.q⟩
      have HF := Lib.hid hfin
      clear hfin hown hm
      go_wp2_with fail
      go_ret
      exact HF.out

/-- The reference's list. -/
def refLDe (key : Int) (l : List ItemR) : List DecR := partsL (fun x => decide (x.dec.server = key)) (·.dec) (sortedK 3 l)
set_option maxRecDepth 100000 in
set_option maxHeartbeats 4000000 in
theorem refDe_any (k : KR) (key : Int) (w : World) (hK : KIn w k) (hn : k.l.length ≤ 100000) (ho : ∀ x ∈ k.l, ItemOk x) :
    Calls Tryz.prog 23 #[.agg (knA k), .int .i64 key] w (ListDeAre (refLDe key k.l) w) := by
  obtain ⟨w1, x, hx, hq1, hbk⟩ := boxedB w 25 k.cells
  have hx : w.alloc (.cells (knA k) 25) = x.w := hx
  have cI : ∀ y : Wd w1, y.w.cell? ⟨w.heap.size, 1, none⟩ = some (.slice k.iA k.l.length k.iC) := fun y => (y.blk hbk).cell 1
  have hKy : ∀ y : Wd w1, KIn y.w k := fun y => hK.q (Q.trans hq1 y.q)
  have hso := fun y : Wd w1 => rsorted_any k.iA k.iC k.l 3 y.w (hKy y).items (hKy y).lC.1 (hKy y).lC.2 hn ho
  have HLR := Lib.hid (show refLDe key k.l = partsL (fun x => decide (x.dec.server = key)) (·.dec) (sortedK 3 k.l) from rfl)
  have hsn : (sortedK 3 k.l).length ≤ 100000 := by have := outK_le 3 k.l k.l.length; rw [outK_all] at this; omega
  have HQ := Lib.hid hq1
  obtain ⟨j0, hji, hy0, hy1, hy2⟩ := info_parts valDe_info
  generalize refLDe key k.l = R at HLR ⊢
  generalize sortedK 3 k.l = l at *
  clear hbk hq1 hK
  go_enter Tryz.func23, Tryz.ntmps23
  go_wp2_with (go_at_call 66; refine (hso _).mono ?_; rintro e w' ⟨A, cl, rfl, hlc, hcm0, hI, hq2⟩; obtain ⟨y, rfl⟩ := Wd.next _ hq2; clear hq2)
  have hYQ := y.q
  obtain ⟨w2, hw2⟩ : ∃ w2, y.w = w2 := ⟨_, rfl⟩
  have HQ2 : Hid (Q w w2) := Lib.hid (hw2 ▸ Q.trans HQ.out y.q)
  rw [hw2] at hI ⊢
  obtain ⟨x2, hx2⟩ := Wd.first w2
  rw [hx2]
  clear hx2 hw2 hYQ cI hKy hso
  go_wp2_with fail
  go_loopw [6, 7] (fun a i wr => ∃ (j c m : Nat) (B : Option Addr) (z : Wd w2), a = .slice B m c ∧ i = .int .i64 j ∧ wr = z.w ∧ j ≤ l.length ∧ m ≤ j ∧ m ≤ c ∧ c ≤ maxLen ∧ Hid (m = (partsL (fun x => decide (x.dec.server = key)) (·.dec) (l.take j)).length) ∧ Owns z.w w2.heap.size 44 12 (.slice B m c) m ((partsL (fun x => decide (x.dec.server = key)) (·.dec) (l.take j)).flatMap DecR.cells)) (fun _ i _ => l.length - (intOf i).toNat)
  case atStart => exact ⟨0, 0, 0, none, x2, rfl, rfl, rfl, Nat.zero_le _, Nat.zero_le _, Nat.zero_le _, Nat.zero_le _, Lib.hid rfl, Owns.nil_ _ _ _ _⟩
  case round =>
    obtain ⟨j, c, m, B, z, rfl, rfl, rfl, hj, hmj, hmc, hcm, hm, hown⟩ := hrel
    by_cases hlt : j < l.length
    · obtain ⟨b, o, eA, hb, hcell⟩ := hI.rows (by omega)
      subst eA
      have HTS := Lib.hid (partsL_step (fun x => decide (x.dec.server = key)) (·.dec) l j hlt)
      have hcj := hcell j hlt
      have hrv : w2.rangeAt b (o + j * 49 + 37) l[j].dec.cells := range_sub hcj 37 12
      have hLv : ∀ y : Wd z.w, (Instr.loadAt 44 (.pointer (some ⟨b, o + j * 49 + 37, none⟩))).run Tryz.prog y.w = .ok (.agg (decA l[j].dec)) y.w := fun y => Wd.load hb hrv Tryz.underlying44 rfl (by kernel_rfl) ⟨y.w, Q.trans z.q y.q⟩
      have hcA := Wd.get hb hcj 37 (v := .int .i64 l[j].dec.server) rfl z
      have hzs := z.q.size
      clear hcell hcj hrv
      generalize l[j] = it at *
      by_cases hk : it.dec.server = key
      · have HTE := Lib.hid (show partsL (fun x => decide (x.dec.server = key)) (·.dec) (l.take (j + 1)) = partsL (fun x => decide (x.dec.server = key)) (·.dec) (l.take j) ++ [it.dec] by rw [HTS.out]; simp [hk])
        have n1 : (it.dec.server == key) = true := by simpa using hk
        go_wp2_with (first
          | (refine wpList_index_rows 23 46 (.tmp 17) (.tmp 18) b o l.length cl j 49 rfl rfl rfl rfl Tryz.underlying23 (by kernel_rfl) Tryz.sizeOf46 hlt ?_)
          | (refine wpList_index_rows 23 46 (.tmp 26) (.tmp 27) b o l.length cl j 49 rfl rfl rfl rfl Tryz.underlying23 (by kernel_rfl) Tryz.sizeOf46 hlt ?_)
          | (refine wpList_load_run 44 (.tmp 29) (.pointer (some ⟨b, o + j * 49 + 37, none⟩)) (.agg (decA it.dec)) ?_ ?_ ?_ ?_ ?_; rfl; rfl; rfl; exact hLv ⟨_, Q.refl _⟩)
          | (refine wpList_buildSlice_run 55 1 _ #[(0, .agg (decA it.dec))] _ rfl rfl (by simp only [List.map_toArray, List.map_cons, List.map_nil]; rfl) (bsDe_val it.dec _) ?_)
          | (at_builtin; refine wpList_append_rows valDe_len valDe_one rfl (.tmp 25) (.tmp 31) 55 44 j0 _ 136 rfl Tryz.underlying55 hji hy0 hy1 hy2 rfl (by decide) (by decide) w2.heap.size (.slice B m c) m _ rfl (hown.alloc (.cells (decA it.dec) 44)) (some ⟨z.w.heap.size, 0, none⟩) 1 1 [it.dec] rfl (RowsAt.one z.w 44 it.dec _ rfl) rfl (by omega) (by simp; omega) ?_))
        intro A6 cap6 w6 hc6 hm6 hown6 hg6
        have hq6 : Q w2 w6 := q_grown (Q.trans z.q (q_new _ _ _)) (Nat.le_refl _) (hown.alloc (.cells (decA it.dec) 44)) hg6
        obtain ⟨y6, rfl⟩ : ∃ y6 : Wd w2, w6 = y6.w := ⟨⟨w6, hq6⟩, rfl⟩
        rw [flat_snoc, ← HTE.out] at hown6
        have HM6 : Hid (m + 1 = (partsL (fun x => decide (x.dec.server = key)) (·.dec) (l.take (j + 1))).length) := Lib.hid (by rw [HTE.out, List.length_append, ← hm.out]; rfl)
        clear hown hg6 hq6 hLv
        go_wp2_with fail
        exact ⟨⟨j + 1, cap6, m + 1, A6, y6, rfl, by go_num, rfl, by omega, by omega, hc6, hm6, HM6, hown6⟩, by simp only [intOf]; omega⟩
      · have HTE := Lib.hid (show partsL (fun x => decide (x.dec.server = key)) (·.dec) (l.take (j + 1)) = partsL (fun x => decide (x.dec.server = key)) (·.dec) (l.take j) by rw [HTS.out]; simp [hk])
        have n1 : (it.dec.server == key) = false := by simpa using hk
        go_wp2_with (refine wpList_index_rows 23 46 (.tmp 17) (.tmp 18) b o l.length cl j 49 rfl rfl rfl rfl Tryz.underlying23 (by kernel_rfl) Tryz.sizeOf46 hlt ?_)
        exact ⟨⟨j + 1, c, m, B, z, rfl, by go_num, rfl, by omega, by omega, hmc, hcm, Lib.hid (by rw [HTE.out]; exact hm.out), by rw [HTE.out]; exact hown⟩, by simp only [intOf]; omega⟩
    · have hjn : j = l.length := by omega
      have hm := hm.out
      rw [hjn, List.take_length, ← HLR.out] at hown hm
      have hfin : ListDeAre R w (.returned (.slice B m c)) z.w := ⟨B, c, by rw [hm], by omega, hcm, Owns.rows valDe_len hown hm, Q.trans HQ2.out z.q⟩
      have HF := Lib.hid hfin
      clear hfin hown hm
      go_wp2_with fail
      go_ret
      exact HF.out

/-- The reference's list. -/
def refLB (key : ByteArray) (gen : Int) (l : List ItemR) : List BallotV := partsL (fun x => decide (x.ballot.actor = key) && decide (x.ballot.gen = gen)) (·.ballot) (sortedK 2 l)
set_option maxRecDepth 100000 in
set_option maxHeartbeats 4000000 in
theorem refB_any (k : KR) (key : ByteArray) (gen : Int) (w : World) (hK : KIn w k) (hn : k.l.length ≤ 100000) (ho : ∀ x ∈ k.l, ItemOk x) :
    Calls Tryz.prog 21 #[.agg (knA k), .string key, .int .i64 gen] w (BallotsAre (refLB key gen k.l) w) := by
  obtain ⟨w1, x, hx, hq1, hbk⟩ := boxedB w 25 k.cells
  have hx : w.alloc (.cells (knA k) 25) = x.w := hx
  have cI : ∀ y : Wd w1, y.w.cell? ⟨w.heap.size, 1, none⟩ = some (.slice k.iA k.l.length k.iC) := fun y => (y.blk hbk).cell 1
  have hKy : ∀ y : Wd w1, KIn y.w k := fun y => hK.q (Q.trans hq1 y.q)
  have hso := fun y : Wd w1 => rsorted_any k.iA k.iC k.l 2 y.w (hKy y).items (hKy y).lC.1 (hKy y).lC.2 hn ho
  have HLR := Lib.hid (show refLB key gen k.l = partsL (fun x => decide (x.ballot.actor = key) && decide (x.ballot.gen = gen)) (·.ballot) (sortedK 2 k.l) from rfl)
  have hsn : (sortedK 2 k.l).length ≤ 100000 := by have := outK_le 2 k.l k.l.length; rw [outK_all] at this; omega
  have HQ := Lib.hid hq1
  obtain ⟨j0, hji, hy0, hy1, hy2⟩ := info_parts bal_info
  generalize refLB key gen k.l = R at HLR ⊢
  generalize sortedK 2 k.l = l at *
  clear hbk hq1 hK
  go_enter Tryz.func21, Tryz.ntmps21
  go_wp2_with (go_at_call 66; refine (hso _).mono ?_; rintro e w' ⟨A, cl, rfl, hlc, hcm0, hI, hq2⟩; obtain ⟨y, rfl⟩ := Wd.next _ hq2; clear hq2)
  have hYQ := y.q
  obtain ⟨w2, hw2⟩ : ∃ w2, y.w = w2 := ⟨_, rfl⟩
  have HQ2 : Hid (Q w w2) := Lib.hid (hw2 ▸ Q.trans HQ.out y.q)
  rw [hw2] at hI ⊢
  obtain ⟨x2, hx2⟩ := Wd.first w2
  rw [hx2]
  clear hx2 hw2 hYQ cI hKy hso
  go_wp2_with fail
  go_loopw [8, 9] (fun a i wr => ∃ (j c m : Nat) (B : Option Addr) (z : Wd w2), a = .slice B m c ∧ i = .int .i64 j ∧ wr = z.w ∧ j ≤ l.length ∧ m ≤ j ∧ m ≤ c ∧ c ≤ maxLen ∧ Hid (m = (partsL (fun x => decide (x.ballot.actor = key) && decide (x.ballot.gen = gen)) (·.ballot) (l.take j)).length) ∧ Owns z.w w2.heap.size 42 7 (.slice B m c) m ((partsL (fun x => decide (x.ballot.actor = key) && decide (x.ballot.gen = gen)) (·.ballot) (l.take j)).flatMap BallotV.cells)) (fun _ i _ => l.length - (intOf i).toNat)
  case atStart => exact ⟨0, 0, 0, none, x2, rfl, rfl, rfl, Nat.zero_le _, Nat.zero_le _, Nat.zero_le _, Nat.zero_le _, Lib.hid rfl, Owns.nil_ _ _ _ _⟩
  case round =>
    obtain ⟨j, c, m, B, z, rfl, rfl, rfl, hj, hmj, hmc, hcm, hm, hown⟩ := hrel
    by_cases hlt : j < l.length
    · obtain ⟨b, o, eA, hb, hcell⟩ := hI.rows (by omega)
      subst eA
      have HTS := Lib.hid (partsL_step (fun x => decide (x.ballot.actor = key) && decide (x.ballot.gen = gen)) (·.ballot) l j hlt)
      have hcj := hcell j hlt
      have hrv : w2.rangeAt b (o + j * 49 + 30) l[j].ballot.cells := range_sub hcj 30 7
      have hLv : ∀ y : Wd z.w, (Instr.loadAt 42 (.pointer (some ⟨b, o + j * 49 + 30, none⟩))).run Tryz.prog y.w = .ok (.agg (ballotA l[j].ballot)) y.w := fun y => Wd.load hb hrv Tryz.underlying42 rfl (by kernel_rfl) ⟨y.w, Q.trans z.q y.q⟩
      have hcA := Wd.get hb hcj 31 (v := .string l[j].ballot.actor) rfl z
      have hcG := Wd.get hb hcj 32 (v := .int .i64 l[j].ballot.gen) rfl z
      have hzs := z.q.size
      clear hcell hcj hrv
      generalize l[j] = it at *
      by_cases hk : it.ballot.actor = key
      · by_cases hg : it.ballot.gen = gen
        · have HTE := Lib.hid (show partsL (fun x => decide (x.ballot.actor = key) && decide (x.ballot.gen = gen)) (·.ballot) (l.take (j + 1)) = partsL (fun x => decide (x.ballot.actor = key) && decide (x.ballot.gen = gen)) (·.ballot) (l.take j) ++ [it.ballot] by rw [HTS.out]; simp [hk, hg])
          have n2 : (it.ballot.gen == gen) = true := by simpa using hg
          have n1 : (it.ballot.actor.toList == key.toList) = true := by rw [hk]; simp
          go_wp2_with (first
            | (refine wpList_index_rows 23 46 (.tmp 28) (.tmp 29) b o l.length cl j 49 rfl rfl rfl rfl Tryz.underlying23 (by kernel_rfl) Tryz.sizeOf46 hlt ?_)
            | (refine wpList_index_rows 23 46 (.tmp 19) (.tmp 20) b o l.length cl j 49 rfl rfl rfl rfl Tryz.underlying23 (by kernel_rfl) Tryz.sizeOf46 hlt ?_)
            | (refine wpList_index_rows 23 46 (.tmp 38) (.tmp 39) b o l.length cl j 49 rfl rfl rfl rfl Tryz.underlying23 (by kernel_rfl) Tryz.sizeOf46 hlt ?_)
            | (refine wpList_load_run 42 (.tmp 41) (.pointer (some ⟨b, o + j * 49 + 30, none⟩)) (.agg (ballotA it.ballot)) ?_ ?_ ?_ ?_ ?_; rfl; rfl; rfl; exact hLv ⟨_, Q.refl _⟩)
            | (refine wpList_buildSlice_run 53 1 _ #[(0, .agg (ballotA it.ballot))] _ rfl rfl (by simp only [List.map_toArray, List.map_cons, List.map_nil]; rfl) (bs_ballot it.ballot _) ?_)
            | (at_builtin; refine wpList_append_rows bal_len bal_one rfl (.tmp 37) (.tmp 43) 53 42 j0 _ 72 rfl Tryz.underlying53 hji hy0 hy1 hy2 rfl (by decide) (by decide) w2.heap.size (.slice B m c) m _ rfl (hown.alloc (.cells (ballotA it.ballot) 42)) (some ⟨z.w.heap.size, 0, none⟩) 1 1 [it.ballot] rfl (RowsAt.one z.w 42 it.ballot _ rfl) rfl (by omega) (by simp; omega) ?_))
          intro A6 cap6 w6 hc6 hm6 hown6 hg6
          have hq6 : Q w2 w6 := q_grown (Q.trans z.q (q_new _ _ _)) (Nat.le_refl _) (hown.alloc (.cells (ballotA it.ballot) 42)) hg6
          obtain ⟨y6, rfl⟩ : ∃ y6 : Wd w2, w6 = y6.w := ⟨⟨w6, hq6⟩, rfl⟩
          rw [flat_snoc, ← HTE.out] at hown6
          have HM6 : Hid (m + 1 = (partsL (fun x => decide (x.ballot.actor = key) && decide (x.ballot.gen = gen)) (·.ballot) (l.take (j + 1))).length) := Lib.hid (by rw [HTE.out, List.length_append, ← hm.out]; rfl)
          clear hown hg6 hq6 hLv
          go_wp2_with fail
          exact ⟨⟨j + 1, cap6, m + 1, A6, y6, rfl, by go_num, rfl, by omega, by omega, hc6, hm6, HM6, hown6⟩, by simp only [intOf]; omega⟩
        · have HTE := Lib.hid (show partsL (fun x => decide (x.ballot.actor = key) && decide (x.ballot.gen = gen)) (·.ballot) (l.take (j + 1)) = partsL (fun x => decide (x.ballot.actor = key) && decide (x.ballot.gen = gen)) (·.ballot) (l.take j) by rw [HTS.out]; simp [hk, hg])
          have n1 : (it.ballot.actor.toList == key.toList) = true := by rw [hk]; simp
          have n2 : (it.ballot.gen == gen) = false := by simpa using hg
          go_wp2_with (first | (refine wpList_index_rows 23 46 (.tmp 28) (.tmp 29) b o l.length cl j 49 rfl rfl rfl rfl Tryz.underlying23 (by kernel_rfl) Tryz.sizeOf46 hlt ?_) | refine wpList_index_rows 23 46 (.tmp 19) (.tmp 20) b o l.length cl j 49 rfl rfl rfl rfl Tryz.underlying23 (by kernel_rfl) Tryz.sizeOf46 hlt ?_)
          exact ⟨⟨j + 1, c, m, B, z, rfl, by go_num, rfl, by omega, by omega, hmc, hcm, Lib.hid (by rw [HTE.out]; exact hm.out), by rw [HTE.out]; exact hown⟩, by simp only [intOf]; omega⟩
      · have HTE := Lib.hid (show partsL (fun x => decide (x.ballot.actor = key) && decide (x.ballot.gen = gen)) (·.ballot) (l.take (j + 1)) = partsL (fun x => decide (x.ballot.actor = key) && decide (x.ballot.gen = gen)) (·.ballot) (l.take j) by rw [HTS.out]; simp [hk])
        have n1 : (it.ballot.actor.toList == key.toList) = false := beq_eq_false_iff_ne.2 (str_ne hk)
        go_wp2_with (refine wpList_index_rows 23 46 (.tmp 19) (.tmp 20) b o l.length cl j 49 rfl rfl rfl rfl Tryz.underlying23 (by kernel_rfl) Tryz.sizeOf46 hlt ?_)
        exact ⟨⟨j + 1, c, m, B, z, rfl, by go_num, rfl, by omega, by omega, hmc, hcm, Lib.hid (by rw [HTE.out]; exact hm.out), by rw [HTE.out]; exact hown⟩, by simp only [intOf]; omega⟩
    · have hjn : j = l.length := by omega
      have hm := hm.out
      rw [hjn, List.take_length, ← HLR.out] at hown hm
      have hfin : BallotsAre R w (.returned (.slice B m c)) z.w := ⟨B, c, by rw [hm], by omega, hcm, Owns.rows bal_len hown hm, Q.trans HQ2.out z.q⟩
      have HF := Lib.hid hfin
      clear hfin hown hm
      go_wp2_with fail
      go_ret
      exact HF.out

end Go.Proofs.YtomkeaeegdjhnaaGreatDoor.Known

namespace Go.Proofs.YtomkeaeegdjhnaaGreatDoor.Known
open Go.RowKit Grp Mem _root_.Go.Proofs.YtomkeaeegdjhnaaGreatDoor.Code Sha Sign _root_.Go.Proofs.YtomkeaeegdjhnaaGreatDoor.Item _root_.Go.Proofs.YtomkeaeegdjhnaaGreatDoor.Ins

theorem ltI_eq (a b : ItemR) : ltI a b = if b.act.seq ≠ a.act.seq then decide (a.act.seq < b.act.seq) else if b.dec.number ≠ a.dec.number then decide (a.dec.number < b.dec.number) else lessB (digOf a) (digOf b) := rfl
theorem lessB_neg {a b c : ByteArray} (h : lessB a b = false) (k : lessB b c = false) : lessB a c = false := by
  cases h2 : lessB a c
  · rfl
  · rcases lessB_three b c with h3 | h3 | h3
    · rw [k] at h3; cases h3
    · subst h3; rw [h] at h2; cases h2
    · have := lessB_trans h2 h3
      rw [h] at this; cases this
theorem ltI_asymm (a b : ItemR) (h : ltI a b = true) : ltI b a = false := by
  rw [ltI_eq] at h ⊢
  by_cases h1 : a.act.seq = b.act.seq
  · rw [if_neg (by simp [h1])] at h ⊢
    by_cases h2 : a.dec.number = b.dec.number
    · rw [if_neg (by simp [h2])] at h ⊢
      exact lessB_asymm h
    · rw [if_pos (by omega)] at h ⊢
      simp only [decide_eq_true_eq, decide_eq_false_iff_not] at *
      omega
  · rw [if_pos (by omega)] at h ⊢
    simp only [decide_eq_true_eq, decide_eq_false_iff_not] at *
    omega
theorem ltI_neg (a b c : ItemR) (h : ltI a b = false) (k : ltI b c = false) : ltI a c = false := by
  rw [ltI_eq] at h k ⊢
  by_cases h1 : b.act.seq = a.act.seq
  · rw [if_neg (by simp [h1])] at h
    by_cases h3 : c.act.seq = b.act.seq
    · rw [if_neg (by simp [h3])] at k
      rw [if_neg (by simp [h1, h3])]
      by_cases h2 : b.dec.number = a.dec.number
      · rw [if_neg (by simp [h2])] at h
        by_cases h4 : c.dec.number = b.dec.number
        · rw [if_neg (by simp [h4])] at k
          rw [if_neg (by simp [h2, h4])]
          exact lessB_neg h k
        · rw [if_pos (by omega)] at k
          rw [if_pos (by omega)]
          simp only [decide_eq_false_iff_not] at *
          omega
      · rw [if_pos (by omega)] at h
        simp only [decide_eq_false_iff_not] at h
        by_cases h4 : c.dec.number = b.dec.number
        · rw [if_pos (by omega)]
          simp only [decide_eq_false_iff_not]
          omega
        · rw [if_pos (by omega)] at k
          simp only [decide_eq_false_iff_not] at k
          rw [if_pos (by omega)]
          simp only [decide_eq_false_iff_not]
          omega
    · rw [if_pos (by omega)] at k
      simp only [decide_eq_false_iff_not] at k
      rw [if_pos (by omega)]
      simp only [decide_eq_false_iff_not]
      omega
  · rw [if_pos (by omega)] at h
    simp only [decide_eq_false_iff_not] at h
    by_cases h3 : c.act.seq = b.act.seq
    · rw [if_pos (by omega)]
      simp only [decide_eq_false_iff_not]
      omega
    · rw [if_pos (by omega)] at k
      simp only [decide_eq_false_iff_not] at k
      rw [if_pos (by omega)]
      simp only [decide_eq_false_iff_not]
      omega
theorem ltF_eq {α : Type} (n m : Int) (d e : ByteArray) (x y : α) : ltOf cmpF (⟨n, d, x⟩ : Found α) ⟨m, e, y⟩ = if m ≠ n then decide (n < m) else lessB d e := by
  unfold ltOf cmpF orI Lib.compareInt cmpS
  dsimp only
  by_cases h : n = m
  · subst h
    have e1 : (if n < n then (-1 : Int) else if n > n then 1 else 0) = 0 := by simp
    rw [e1, if_pos rfl]
    cases h1 : lessB d e <;> cases h2 : lessB e d <;> simp
  · by_cases h1 : n < m
    · have e1 : (if n < m then (-1 : Int) else if n > m then 1 else 0) = -1 := by simp [h1]
      rw [e1, if_neg (by decide), if_pos (fun e => h e.symm)]
      simp [h1]
    · have e1 : (if n < m then (-1 : Int) else if n > m then 1 else 0) = 1 := by rw [if_neg h1, if_pos (by omega)]
      rw [e1, if_neg (by decide), if_pos (fun e => h e.symm)]
      simp [h1]
theorem list_law {α : Type} [Inhabited α] (κ : Int) (wt : ItemR → Bool) (found : ItemR → Found α) (pt : ItemR → α) (want : ItemR → Bool) (hv : ∀ x, (found x).val = pt x) (hp : ∀ x, (want x && itemRight x) = (kindB κ x && wt x))
    (ho : ∀ x y, kindB κ x = true → kindB κ y = true → ltOf cmpF (found x) (found y) = ltI x y) (l : List ItemR) : ((sortA ((l.filter fun x => want x && itemRight x).map found).toArray).toList).map (·.val) = partsL wt pt (sortedK κ l) := by
  have e1 : (sortA ((l.filter fun x => want x && itemRight x).map found).toArray).toList = sortR (ltOf cmpF) ((l.filter fun x => want x && itemRight x).map found) := insertionSort_list _ _
  rw [e1, ← map_sortR ltI (ltOf cmpF) found (fun x => kindB κ x = true) ho _ (fun x hx => by
    have h1 := (List.mem_filter.1 hx).2
    rw [hp] at h1
    exact (Bool.and_eq_true_iff.1 h1).1)]
  unfold partsL sortedK
  rw [filter_sortR ltI ltI_asymm ltI_neg, List.filter_filter, List.map_map]
  have e2 : (fun x => want x && itemRight x) = fun x => wt x && kindB κ x := funext fun x => by rw [hp, Bool.and_comm]
  rw [e2]
  exact List.map_congr_left fun x _ => hv x
theorem kindB_iff (κ : Int) (x : ItemR) : kindB κ x = true ↔ x.kind = κ ∧ itemRight x = true := by
  unfold kindB
  rw [Bool.and_eq_true_iff, decide_eq_true_eq]
theorem act_seq0 {a : ActR} (h : a.same act0 = true) : a.seq = 0 := by
  unfold ActR.same conj at h
  simp only [List.foldr_cons, Bool.and_eq_true_iff, decide_eq_true_eq] at h
  exact h.2.1
theorem dec_num0 {a : DecR} (h : a.same dec0 = true) : a.number = 0 := by
  unfold DecR.same conj at h
  simp only [List.foldr_cons, Bool.and_eq_true_iff, decide_eq_true_eq] at h
  exact h.2.1
theorem kind0_num {x : ItemR} (h : kindB 0 x = true) : x.dec.number = 0 := by
  obtain ⟨h1, h2⟩ := (kindB_iff _ _).1 h
  unfold itemRight at h2
  rw [if_pos h1] at h2
  simp only [Bool.and_eq_true_iff] at h2
  exact dec_num0 h2.2.2.2
theorem kind1_num {x : ItemR} (h : kindB 1 x = true) : x.act.seq = 0 ∧ x.dec.number = 0 := by
  obtain ⟨h1, h2⟩ := (kindB_iff _ _).1 h
  unfold itemRight at h2
  rw [if_neg (by omega), if_pos h1] at h2
  simp only [Bool.and_eq_true_iff] at h2
  exact ⟨act_seq0 h2.2.1, dec_num0 h2.2.2.2⟩
theorem kind2_num {x : ItemR} (h : kindB 2 x = true) : x.act.seq = 0 ∧ x.dec.number = 0 := by
  obtain ⟨h1, h2⟩ := (kindB_iff _ _).1 h
  unfold itemRight at h2
  rw [if_neg (by omega), if_neg (by omega), if_pos h1] at h2
  simp only [Bool.and_eq_true_iff] at h2
  exact ⟨act_seq0 h2.2.1, dec_num0 h2.2.2.2⟩
theorem kind3_num {x : ItemR} (h : kindB 3 x = true) : x.act.seq = 0 := by
  obtain ⟨h1, h2⟩ := (kindB_iff _ _).1 h
  unfold itemRight at h2
  rw [if_neg (by omega), if_neg (by omega), if_neg (by omega), if_pos h1] at h2
  simp only [Bool.and_eq_true_iff] at h2
  exact act_seq0 h2.2.1
theorem listAc_law (key : ByteArray) (l : List ItemR) : listAc key l = refLAc key l :=
  list_law 0 _ foundAc (·.act) (wantAc key) (fun _ => rfl) (fun x => by unfold wantAc kindB; cases decide (x.kind = 0) <;> cases itemRight x <;> simp) (fun x y hx hy => by
    unfold foundAc
    rw [ltF_eq, ltI_eq]
    have h1 := kind0_num hx
    have h2 := kind0_num hy
    by_cases h : y.act.seq = x.act.seq
    · rw [if_neg (by simp [h]), if_neg (by simp [h]), if_neg (by simp [h1, h2])]
    · rw [if_pos h, if_pos h]) l
theorem listCl_law (key : ByteArray) (l : List ItemR) : listCl key l = refLCl key l :=
  list_law 1 _ foundCl (·.claim) (wantCl key) (fun _ => rfl) (fun x => by unfold wantCl kindB; cases decide (x.kind = 1) <;> cases itemRight x <;> simp) (fun x y hx hy => by
    unfold foundCl
    rw [ltF_eq, ltI_eq]
    have h1 := kind1_num hx
    have h2 := kind1_num hy
    rw [if_neg (by simp), if_neg (by simp [h1.1, h2.1]), if_neg (by simp [h1.2, h2.2])]) l
theorem ballots_law (key : ByteArray) (gen : Int) (l : List ItemR) : ballotsK key gen l = refLB key gen l :=
  list_law 2 _ foundB (·.ballot) (wantB key gen) (fun _ => rfl) (fun x => by unfold wantB kindB; cases decide (x.kind = 2) <;> cases itemRight x <;> simp) (fun x y hx hy => by
    unfold foundB
    rw [ltF_eq, ltI_eq]
    have h1 := kind2_num hx
    have h2 := kind2_num hy
    rw [if_neg (by simp), if_neg (by simp [h1.1, h2.1]), if_neg (by simp [h1.2, h2.2])]) l
theorem listDe_law (key : Int) (l : List ItemR) : listDe key l = refLDe key l :=
  list_law 3 _ foundDe (·.dec) (wantDe key) (fun _ => rfl) (fun x => by unfold wantDe kindB; cases decide (x.kind = 3) <;> cases itemRight x <;> simp) (fun x y hx hy => by
    unfold foundDe
    rw [ltF_eq, ltI_eq]
    have h1 := kind3_num hx
    have h2 := kind3_num hy
    rw [if_neg (show ¬ y.act.seq ≠ x.act.seq by simp [h1, h2])]) l
end Go.Proofs.YtomkeaeegdjhnaaGreatDoor.Known

namespace Go.Proofs.YtomkeaeegdjhnaaGreatDoor.Known
open Go.RowKit Grp Mem _root_.Go.Proofs.YtomkeaeegdjhnaaGreatDoor.Code Sha Sign _root_.Go.Proofs.YtomkeaeegdjhnaaGreatDoor.Item _root_.Go.Proofs.YtomkeaeegdjhnaaGreatDoor.Ins

theorem neq_of_eql {P : Program} {t : TypeId} {x y : Array Value} {r : Bool} {w : World} (h : (binOp .eql t (.agg x) (.agg y)).run P w = .ok (.bool r) w) : (binOp .neq t (.agg x) (.agg y)).run P w = .ok (.bool (!r)) w := by
  have e1 : binOp .eql t (.agg x) (.agg y) = (do pure (.bool (← Op.equal t (.agg x) (.agg y)))) := rfl
  have e2 : binOp .neq t (.agg x) (.agg y) = (do pure (.bool (!(← Op.equal t (.agg x) (.agg y))))) := rfl
  rw [e1] at h
  rw [e2]
  rw [Sem.run_bind] at h ⊢
  cases hr : Sem.run P (Op.equal t (.agg x) (.agg y)) w with
  | ok u w' =>
    rw [hr] at h
    simp only [Result.andThen_ok, Sem.run_pure, Result.ok.injEq, Value.bool.injEq] at h ⊢
    obtain ⟨rfl, rfl⟩ := h
    exact ⟨rfl, rfl⟩
  | _ => rw [hr] at h; simp [Result.andThen] at h
theorem same_tt {l : List Bool} (h : ∀ b ∈ l, b = true) : conj l = true := by
  unfold conj
  induction l with
  | nil => rfl
  | cons b l ih => rw [List.foldr_cons, h b (by simp), ih fun c hc => h c (by simp [hc])]; rfl
theorem actSame_self (a : ActR) : a.same a = true := same_tt (by simp)
theorem claimSame_self (a : ClaimV) : a.same a = true := same_tt (by simp)
theorem ballotSame_self (a : BallotV) : a.same a = true := same_tt (by simp)
theorem decSame_self (a : DecR) : a.same a = true := same_tt (by simp)
theorem itemSame_self (a : ItemR) : a.same a = true := same_tt (by simp [actSame_self, claimSame_self, ballotSame_self, decSame_self])
theorem parts_mem {α : Type} {wt : ItemR → Bool} {pt : ItemR → α} {κ : Int} {l : List ItemR} {a : α} (h : a ∈ partsL wt pt (sortedK κ l)) : ∃ x ∈ l, a = pt x := by
  obtain ⟨x, hx, rfl⟩ := List.mem_map.1 h
  refine ⟨x, ?_, rfl⟩
  have h1 := (List.mem_filter.1 hx).1
  rw [← outK_all] at h1
  exact mem_outK κ l _ x h1
theorem parts_le {α : Type} (wt : ItemR → Bool) (pt : ItemR → α) (κ : Int) (l : List ItemR) : (partsL wt pt (sortedK κ l)).length ≤ l.length := by
  have h1 := partsL_le wt pt (sortedK κ l) (sortedK κ l).length
  rw [List.take_length] at h1
  have h2 := outK_le κ l l.length
  rw [outK_all] at h2
  omega

set_option maxRecDepth 100000 in
set_option maxHeartbeats 16000000 in
theorem lists_walk (k : KR) (actor : ByteArray) (n : Int) (w : World) (hT : Tab w) (hK : KIn w k) (ok : KOk k) : Calls Tryz.prog 4 #[.agg (knA k), .string actor, .int .i64 n] w fun e w' => e = .returned (.bool true) ∧ Q w w' := by
  obtain ⟨w1, x, hx, hq1, hl1, hl2⟩ := boxed w 25 k.cells
  have hx : w.alloc (.cells (knA k) 25) = x.w := hx
  have hL : ∀ y : Wd w1, (Instr.loadAt 25 (.pointer (some ⟨w.heap.size, 0, none⟩))).run Tryz.prog y.w = .ok (.agg (knA k)) y.w := Wd.load hl1 hl2 Tryz.underlying25 rfl (by kernel_rfl)
  have hKy : ∀ z, Q w1 z → KIn z k := fun z hz => hK.q (Q.trans hq1 hz)
  have hTy : ∀ z, Q w1 z → Tab z := fun z hz => hT.q (Q.trans hq1 hz)
  have hSm := fun y : Wd w1 => small_any y.w (hTy _ y.q)
  have hFa := fun y : Wd w1 => few_any k y.w (hKy _ y.q)
  have HQ := Lib.hid hq1
  clear hl1 hl2 hq1
  cases hf : fewB k
  · rw [hf] at hFa
    clear hKy hTy hK hT hf
    go_enter Tryz.func4, Tryz.ntmps4
    go_wp2_with (first | (go_at_call 8; refine (hSm _).mono ?_; rintro e w' ⟨rfl, hq2⟩; obtain ⟨y, rfl⟩ := Wd.next _ hq2; clear hq2) | (refine wpList_load_run 25 (.tmp 3) (.pointer (some ⟨w.heap.size, 0, none⟩)) (.agg (knA k)) ?_ ?_ ?_ ?_ ?_; rfl; rfl; rfl; exact hL _) | (go_at_call 9; refine (hFa _).mono ?_; rintro e w' ⟨rfl, hq2⟩; obtain ⟨y2, rfl⟩ := Wd.next _ hq2; clear hq2))
    go_ret
    exact ⟨rfl, Q.trans HQ.out y2.q⟩
  have hln := (few_facts hf).1
  rw [hf] at hFa
  have hok : ∀ x ∈ k.l, ItemOk x := ok.items
  have hAc := fun z (hz : Q w1 z) => allAc_any k actor z (hTy z hz) (hKy z hz) hln
  have hAr := fun z (hz : Q w1 z) => refAc_any k actor z (hKy z hz) (by omega) hok
  have hCc := fun z (hz : Q w1 z) => allCl_any k actor z (hTy z hz) (hKy z hz) hln
  have hCr := fun z (hz : Q w1 z) => refCl_any k actor z (hKy z hz) (by omega) hok
  have hBc := fun z (hz : Q w1 z) => ballots_any k actor n z (hTy z hz) (hKy z hz) hln
  have hBr := fun z (hz : Q w1 z) => refB_any k actor n z (hKy z hz) (by omega) hok
  have hDc := fun z (hz : Q w1 z) => allDe_any k n z (hTy z hz) (hKy z hz) hln
  have hDr := fun z (hz : Q w1 z) => refDe_any k n z (hKy z hz) (by omega) hok
  rw [listAc_law] at hAc
  rw [listCl_law] at hCc
  rw [ballots_law] at hBc
  rw [listDe_law] at hDc
  have hAm : ∀ a ∈ refLAc actor k.l, ∀ z, Q w1 z → ItemIn z (itActR a) := fun a ha z hz => by
    obtain ⟨y, hy, rfl⟩ := parts_mem ha
    exact ⟨((hKy z hz).items.each y hy).act, dec0_in z⟩
  have hDm : ∀ a ∈ refLDe n k.l, ∀ z, Q w1 z → ItemIn z (itDecR a) := fun a ha z hz => by
    obtain ⟨y, hy, rfl⟩ := parts_mem ha
    exact ⟨act0_in z, ((hKy z hz).items.each y hy).dec⟩
  have hAl : (refLAc actor k.l).length ≤ 100000 := Nat.le_trans (parts_le _ _ _ _) (by omega)
  have hCl : (refLCl actor k.l).length ≤ 100000 := Nat.le_trans (parts_le _ _ _ _) (by omega)
  have hBl : (refLB actor n k.l).length ≤ 100000 := Nat.le_trans (parts_le _ _ _ _) (by omega)
  have hDl : (refLDe n k.l).length ≤ 100000 := Nat.le_trans (parts_le _ _ _ _) (by omega)
  generalize refLAc actor k.l = RA at *
  generalize refLCl actor k.l = RC at *
  generalize refLB actor n k.l = RB at *
  generalize refLDe n k.l = RD at *
  clear hKy hTy hK hT hf hok ok
  go_enter Tryz.func4, Tryz.ntmps4
  go_upto_region 4 with (first | (go_at_call 8; refine (hSm _).mono ?_; rintro e w' ⟨rfl, hq2⟩; obtain ⟨y, rfl⟩ := Wd.next _ hq2; clear hq2) | (refine wpList_load_run 25 (.tmp 3) (.pointer (some ⟨w.heap.size, 0, none⟩)) (.agg (knA k)) ?_ ?_ ?_ ?_ ?_; rfl; rfl; rfl; exact hL _) | (go_at_call 9; refine (hFa _).mono ?_; rintro e w' ⟨rfl, hq2⟩; obtain ⟨y2, rfl⟩ := Wd.next _ hq2; clear hq2))
  have hLz : ∀ z, Q w1 z → (Instr.loadAt 25 (.pointer (some ⟨w.heap.size, 0, none⟩))).run Tryz.prog z = .ok (.agg (knA k)) z := fun z hz => hL ⟨z, hz⟩
  obtain ⟨W0, hW0⟩ : ∃ W0, y2.w = W0 := ⟨_, rfl⟩
  have g0 : Q w1 W0 := hW0 ▸ y2.q
  rw [hW0]
  clear hL hSm hFa hW0 hx
  refine wp_region_S (fun z => Q W0 z) (by kernel_rfl) (Q.refl _).drew ?_
  intro z hz
  refine held_read 0 (v := .agg (knA k)) rfl (by kernel_rfl) (by kernel_rfl) (by kernel_rfl) (by intro c a d v w h; cases d <;> exact h) rfl hz (fun z hz => exec_load 25 (.tmp 3) _ _ rfl rfl (hLz z (Q.trans g0 hz))) ?_
  try simp only [Act.put, List.setIfInBounds_toArray, List.set_cons_succ, List.set_cons_zero]
  refine held_pure 1 (v := .string actor) rfl (by kernel_rfl) (by kernel_rfl) (by kernel_rfl) (by intro c a d v w h; cases d <;> exact h) rfl hz (fun w => by rfl) ?_
  try simp only [Act.put, List.setIfInBounds_toArray, List.set_cons_succ, List.set_cons_zero]
  refine held_read 3 (v := .agg (knA k)) rfl (by kernel_rfl) (by kernel_rfl) (by kernel_rfl) (by intro c a d v w h; cases d <;> exact h) rfl hz (fun z hz => exec_load 25 (.tmp 3) _ _ rfl rfl (hLz z (Q.trans g0 hz))) ?_
  try simp only [Act.put, List.setIfInBounds_toArray, List.set_cons_succ, List.set_cons_zero]
  refine held_pure 4 (v := .string actor) rfl (by kernel_rfl) (by kernel_rfl) (by kernel_rfl) (by intro c a d v w h; cases d <;> exact h) rfl hz (fun w => by rfl) ?_
  try simp only [Act.put, List.setIfInBounds_toArray, List.set_cons_succ, List.set_cons_zero]
  refine held_one 2 rfl (by kernel_rfl) rfl (fun K' hK' => ?_)
  go_simp
  refine (hAc z (Q.trans g0 hz)).mono ?_
  rintro e z5 ⟨a1, ac1, rfl, al1, am1, ar1, q5⟩
  refine hK' _ _ (Q.trans hz q5) ?_
  clear hK' K'
  try simp only [Act.put, List.setIfInBounds_toArray, List.set_cons_succ, List.set_cons_zero]
  refine held_one 5 rfl (by kernel_rfl) rfl (fun K' hK' => ?_)
  go_simp
  refine (hAr z5 (Q.trans g0 (Q.trans hz q5))).mono ?_
  rintro e W1 ⟨a2, ac2, rfl, al2, am2, ar2, q6⟩
  have hzz := Q.trans (Q.trans hz q5) q6
  refine hK' _ _ hzz ?_
  clear hK' K'
  try simp only [Act.put, List.setIfInBounds_toArray, List.set_cons_succ, List.set_cons_zero]
  replace ar1 := ar1.q q6
  have g1 := Q.trans g0 hzz
  refine held_pure 6 (v := .slice a1 RA.length ac1) rfl (by kernel_rfl) (by kernel_rfl) (by kernel_rfl) (by intro c a d v w h; cases d <;> exact h) rfl hzz (fun w => by rfl) ?_
  try simp only [Act.put, List.setIfInBounds_toArray, List.set_cons_succ, List.set_cons_zero]
  refine held_pure 7 (v := .slice a2 RA.length ac2) rfl (by kernel_rfl) (by kernel_rfl) (by kernel_rfl) (by intro c a d v w h; cases d <;> exact h) rfl hzz (fun w => by rfl) ?_
  try simp only [Act.put, List.setIfInBounds_toArray, List.set_cons_succ, List.set_cons_zero]
  refine wpAnyH_done (by kernel_rfl) ?_ _
  clear g0 hz hzz q5 q6 hAc hAr
  clear z5 z
  go_upto_region 5 with (fail)
  refine wp_region_S (fun z => Q W1 z) (by kernel_rfl) (Q.refl _).drew ?_
  intro z hz
  refine held_read 0 (v := .agg (knA k)) rfl (by kernel_rfl) (by kernel_rfl) (by kernel_rfl) (by intro c a d v w h; cases d <;> exact h) rfl hz (fun z hz => exec_load 25 (.tmp 3) _ _ rfl rfl (hLz z (Q.trans g1 hz))) ?_
  try simp only [Act.put, List.setIfInBounds_toArray, List.set_cons_succ, List.set_cons_zero]
  refine held_pure 1 (v := .string actor) rfl (by kernel_rfl) (by kernel_rfl) (by kernel_rfl) (by intro c a d v w h; cases d <;> exact h) rfl hz (fun w => by rfl) ?_
  try simp only [Act.put, List.setIfInBounds_toArray, List.set_cons_succ, List.set_cons_zero]
  refine held_read 3 (v := .agg (knA k)) rfl (by kernel_rfl) (by kernel_rfl) (by kernel_rfl) (by intro c a d v w h; cases d <;> exact h) rfl hz (fun z hz => exec_load 25 (.tmp 3) _ _ rfl rfl (hLz z (Q.trans g1 hz))) ?_
  try simp only [Act.put, List.setIfInBounds_toArray, List.set_cons_succ, List.set_cons_zero]
  refine held_pure 4 (v := .string actor) rfl (by kernel_rfl) (by kernel_rfl) (by kernel_rfl) (by intro c a d v w h; cases d <;> exact h) rfl hz (fun w => by rfl) ?_
  try simp only [Act.put, List.setIfInBounds_toArray, List.set_cons_succ, List.set_cons_zero]
  refine held_one 2 rfl (by kernel_rfl) rfl (fun K' hK' => ?_)
  go_simp
  refine (hCc z (Q.trans g1 hz)).mono ?_
  rintro e z5 ⟨c1, cc1, rfl, cl1, cm1, cr1, q5⟩
  refine hK' _ _ (Q.trans hz q5) ?_
  clear hK' K'
  try simp only [Act.put, List.setIfInBounds_toArray, List.set_cons_succ, List.set_cons_zero]
  refine held_one 5 rfl (by kernel_rfl) rfl (fun K' hK' => ?_)
  go_simp
  refine (hCr z5 (Q.trans g1 (Q.trans hz q5))).mono ?_
  rintro e W2 ⟨c2, cc2, rfl, cl2, cm2, cr2, q6⟩
  have hzz := Q.trans (Q.trans hz q5) q6
  refine hK' _ _ hzz ?_
  clear hK' K'
  try simp only [Act.put, List.setIfInBounds_toArray, List.set_cons_succ, List.set_cons_zero]
  replace cr1 := cr1.q q6
  replace ar1 := ar1.q hzz
  replace ar2 := ar2.q hzz
  have g2 := Q.trans g1 hzz
  refine held_pure 6 (v := .slice c1 RC.length cc1) rfl (by kernel_rfl) (by kernel_rfl) (by kernel_rfl) (by intro c a d v w h; cases d <;> exact h) rfl hzz (fun w => by rfl) ?_
  try simp only [Act.put, List.setIfInBounds_toArray, List.set_cons_succ, List.set_cons_zero]
  refine held_pure 7 (v := .slice c2 RC.length cc2) rfl (by kernel_rfl) (by kernel_rfl) (by kernel_rfl) (by intro c a d v w h; cases d <;> exact h) rfl hzz (fun w => by rfl) ?_
  try simp only [Act.put, List.setIfInBounds_toArray, List.set_cons_succ, List.set_cons_zero]
  refine wpAnyH_done (by kernel_rfl) ?_ _
  clear g1 hz hzz q5 q6 hCc hCr
  clear z5 z
  go_upto_region 6 with (fail)
  refine wp_region_S (fun z => Q W2 z) (by kernel_rfl) (Q.refl _).drew ?_
  intro z hz
  refine held_read 0 (v := .agg (knA k)) rfl (by kernel_rfl) (by kernel_rfl) (by kernel_rfl) (by intro c a d v w h; cases d <;> exact h) rfl hz (fun z hz => exec_load 25 (.tmp 3) _ _ rfl rfl (hLz z (Q.trans g2 hz))) ?_
  try simp only [Act.put, List.setIfInBounds_toArray, List.set_cons_succ, List.set_cons_zero]
  refine held_pure 1 (v := .string actor) rfl (by kernel_rfl) (by kernel_rfl) (by kernel_rfl) (by intro c a d v w h; cases d <;> exact h) rfl hz (fun w => by rfl) ?_
  try simp only [Act.put, List.setIfInBounds_toArray, List.set_cons_succ, List.set_cons_zero]
  refine held_pure 2 (v := .int .i64 n) rfl (by kernel_rfl) (by kernel_rfl) (by kernel_rfl) (by intro c a d v w h; cases d <;> exact h) rfl hz (fun w => by rfl) ?_
  try simp only [Act.put, List.setIfInBounds_toArray, List.set_cons_succ, List.set_cons_zero]
  refine held_read 4 (v := .agg (knA k)) rfl (by kernel_rfl) (by kernel_rfl) (by kernel_rfl) (by intro c a d v w h; cases d <;> exact h) rfl hz (fun z hz => exec_load 25 (.tmp 3) _ _ rfl rfl (hLz z (Q.trans g2 hz))) ?_
  try simp only [Act.put, List.setIfInBounds_toArray, List.set_cons_succ, List.set_cons_zero]
  refine held_pure 5 (v := .string actor) rfl (by kernel_rfl) (by kernel_rfl) (by kernel_rfl) (by intro c a d v w h; cases d <;> exact h) rfl hz (fun w => by rfl) ?_
  try simp only [Act.put, List.setIfInBounds_toArray, List.set_cons_succ, List.set_cons_zero]
  refine held_pure 6 (v := .int .i64 n) rfl (by kernel_rfl) (by kernel_rfl) (by kernel_rfl) (by intro c a d v w h; cases d <;> exact h) rfl hz (fun w => by rfl) ?_
  try simp only [Act.put, List.setIfInBounds_toArray, List.set_cons_succ, List.set_cons_zero]
  refine held_one 3 rfl (by kernel_rfl) rfl (fun K' hK' => ?_)
  go_simp
  refine (hBc z (Q.trans g2 hz)).mono ?_
  rintro e z5 ⟨b1, bc1, rfl, bl1, bm1, br1, q5⟩
  refine hK' _ _ (Q.trans hz q5) ?_
  clear hK' K'
  try simp only [Act.put, List.setIfInBounds_toArray, List.set_cons_succ, List.set_cons_zero]
  refine held_one 7 rfl (by kernel_rfl) rfl (fun K' hK' => ?_)
  go_simp
  refine (hBr z5 (Q.trans g2 (Q.trans hz q5))).mono ?_
  rintro e W3 ⟨b2, bc2, rfl, bl2, bm2, br2, q6⟩
  have hzz := Q.trans (Q.trans hz q5) q6
  refine hK' _ _ hzz ?_
  clear hK' K'
  try simp only [Act.put, List.setIfInBounds_toArray, List.set_cons_succ, List.set_cons_zero]
  replace br1 := br1.q q6
  replace ar1 := ar1.q hzz
  replace ar2 := ar2.q hzz
  replace cr1 := cr1.q hzz
  replace cr2 := cr2.q hzz
  have g3 := Q.trans g2 hzz
  refine held_pure 8 (v := .slice b1 RB.length bc1) rfl (by kernel_rfl) (by kernel_rfl) (by kernel_rfl) (by intro c a d v w h; cases d <;> exact h) rfl hzz (fun w => by rfl) ?_
  try simp only [Act.put, List.setIfInBounds_toArray, List.set_cons_succ, List.set_cons_zero]
  refine held_pure 9 (v := .slice b2 RB.length bc2) rfl (by kernel_rfl) (by kernel_rfl) (by kernel_rfl) (by intro c a d v w h; cases d <;> exact h) rfl hzz (fun w => by rfl) ?_
  try simp only [Act.put, List.setIfInBounds_toArray, List.set_cons_succ, List.set_cons_zero]
  refine wpAnyH_done (by kernel_rfl) ?_ _
  clear g2 hz hzz q5 q6 hBc hBr
  clear z5 z
  go_upto_region 7 with (fail)
  refine wp_region_S (fun z => Q W3 z) (by kernel_rfl) (Q.refl _).drew ?_
  intro z hz
  refine held_read 0 (v := .agg (knA k)) rfl (by kernel_rfl) (by kernel_rfl) (by kernel_rfl) (by intro c a d v w h; cases d <;> exact h) rfl hz (fun z hz => exec_load 25 (.tmp 3) _ _ rfl rfl (hLz z (Q.trans g3 hz))) ?_
  try simp only [Act.put, List.setIfInBounds_toArray, List.set_cons_succ, List.set_cons_zero]
  refine held_pure 1 (v := .int .i64 n) rfl (by kernel_rfl) (by kernel_rfl) (by kernel_rfl) (by intro c a d v w h; cases d <;> exact h) rfl hz (fun w => by rfl) ?_
  try simp only [Act.put, List.setIfInBounds_toArray, List.set_cons_succ, List.set_cons_zero]
  refine held_read 3 (v := .agg (knA k)) rfl (by kernel_rfl) (by kernel_rfl) (by kernel_rfl) (by intro c a d v w h; cases d <;> exact h) rfl hz (fun z hz => exec_load 25 (.tmp 3) _ _ rfl rfl (hLz z (Q.trans g3 hz))) ?_
  try simp only [Act.put, List.setIfInBounds_toArray, List.set_cons_succ, List.set_cons_zero]
  refine held_pure 4 (v := .int .i64 n) rfl (by kernel_rfl) (by kernel_rfl) (by kernel_rfl) (by intro c a d v w h; cases d <;> exact h) rfl hz (fun w => by rfl) ?_
  try simp only [Act.put, List.setIfInBounds_toArray, List.set_cons_succ, List.set_cons_zero]
  refine held_one 2 rfl (by kernel_rfl) rfl (fun K' hK' => ?_)
  go_simp
  refine (hDc z (Q.trans g3 hz)).mono ?_
  rintro e z5 ⟨d1, dc1, rfl, dl1, dm1, dr1, q5⟩
  refine hK' _ _ (Q.trans hz q5) ?_
  clear hK' K'
  try simp only [Act.put, List.setIfInBounds_toArray, List.set_cons_succ, List.set_cons_zero]
  refine held_one 5 rfl (by kernel_rfl) rfl (fun K' hK' => ?_)
  go_simp
  refine (hDr z5 (Q.trans g3 (Q.trans hz q5))).mono ?_
  rintro e W4 ⟨d2, dc2, rfl, dl2, dm2, dr2, q6⟩
  have hzz := Q.trans (Q.trans hz q5) q6
  refine hK' _ _ hzz ?_
  clear hK' K'
  try simp only [Act.put, List.setIfInBounds_toArray, List.set_cons_succ, List.set_cons_zero]
  replace dr1 := dr1.q q6
  replace ar1 := ar1.q hzz
  replace ar2 := ar2.q hzz
  replace cr1 := cr1.q hzz
  replace cr2 := cr2.q hzz
  replace br1 := br1.q hzz
  replace br2 := br2.q hzz
  have g4 := Q.trans g3 hzz
  refine held_pure 6 (v := .slice d1 RD.length dc1) rfl (by kernel_rfl) (by kernel_rfl) (by kernel_rfl) (by intro c a d v w h; cases d <;> exact h) rfl hzz (fun w => by rfl) ?_
  try simp only [Act.put, List.setIfInBounds_toArray, List.set_cons_succ, List.set_cons_zero]
  refine held_pure 7 (v := .slice d2 RD.length dc2) rfl (by kernel_rfl) (by kernel_rfl) (by kernel_rfl) (by intro c a d v w h; cases d <;> exact h) rfl hzz (fun w => by rfl) ?_
  try simp only [Act.put, List.setIfInBounds_toArray, List.set_cons_succ, List.set_cons_zero]
  refine wpAnyH_done (by kernel_rfl) ?_ _
  clear g3 hz hzz q5 q6 hDc hDr
  clear z5 z
  obtain ⟨v, hv⟩ := Wd.first W4
  rw [hv]
  clear hv hLz
  have hAm4 : ∀ a ∈ RA, ∀ y : Wd W4, ItemIn y.w (itActR a) := fun a ha y => hAm a ha _ (Q.trans g4 y.q)
  have hDm4 : ∀ a ∈ RD, ∀ y : Wd W4, ItemIn y.w (itDecR a) := fun a ha y => hDm a ha _ (Q.trans g4 y.q)
  have HQ4 := Lib.hid (Q.trans HQ.out g4)
  clear hAm hDm g4
  go_upto_region 10 with (fail)
  go_wp2_with fail
  go_loopw [16] (fun i wr => ∃ (j : Nat) (z : Wd W4), i = .int .i64 j ∧ wr = z.w ∧ j ≤ RA.length) (fun i _ => RA.length - (intOf i).toNat)
  case atStart => exact ⟨0, v, rfl, rfl, Nat.zero_le _⟩
  case round =>
    obtain ⟨j1, z1, rfl, rfl, hj1⟩ := hrel
    by_cases hlt1 : j1 < RA.length
    · obtain ⟨b1, o1, e1, hb1, hc1⟩ := ar1 (by omega)
      obtain ⟨b2, o2, e2, hb2, hc2⟩ := ar2 (by omega)
      have hg1 := hc1 j1 hlt1
      have hg2 := hc2 j1 hlt1
      have hjl : (j1 : Int) < (RA.length : Int) := by omega
      have hL1 : ∀ y : Wd W4, (Instr.loadAt 38 (.pointer (some ⟨b1, o1 + j1 * 20, none⟩))).run Tryz.prog y.w = .ok (.agg (actA RA[j1])) y.w := Wd.load hb1 hg1 Tryz.underlying38 rfl (by kernel_rfl)
      have hL2 : ∀ y : Wd W4, (Instr.loadAt 38 (.pointer (some ⟨b2, o2 + j1 * 20, none⟩))).run Tryz.prog y.w = .ok (.agg (actA RA[j1])) y.w := Wd.load hb2 hg2 Tryz.underlying38 rfl (by kernel_rfl)
      have hIn := hAm4 _ (List.getElem_mem hlt1)
      have hOf := fun y : Wd W4 => rofAct_any RA[j1] y.w
      have hSe := fun y : Wd W4 => ritemSame_any (itActR RA[j1]) (itActR RA[j1]) y.w (hIn y) (hIn y)
      rw [itemSame_self] at hSe
      rw [e1, e2]
      clear hc1 hc2 hg1 hg2 hIn
      generalize RA[j1] = q at *
      go_upto_region 13 with (fail)
      refine wp_region_wd z1 (by kernel_rfl) (by kernel_rfl) ?_
      repeat (first | (refine wpQuiet_load_run 38 (.tmp 85) (.pointer (some ⟨b1, o1 + j1 * 20, none⟩)) (.agg (actA q)) ?_ ?_ ?_ ?_ ?_; rfl; rfl; rfl; exact hL1; dsimp only [Act.put]; simp only [List.setIfInBounds_toArray, List.set_cons_succ, List.set_cons_zero]) | (refine wpQuiet_load_run 38 (.tmp 90) (.pointer (some ⟨b2, o2 + j1 * 20, none⟩)) (.agg (actA q)) ?_ ?_ ?_ ?_ ?_; rfl; rfl; rfl; exact hL2; dsimp only [Act.put]; simp only [List.setIfInBounds_toArray, List.set_cons_succ, List.set_cons_zero]) | go_big_quiet_step (first | with_reducible exact Wd.call _ (hOf _) | with_reducible exact Wd.call _ (hSe _)))
      refine wpQuiet_nil ?_
      rintro w'' ⟨y, rfl⟩
      go_wp2_with fail
      exact ⟨⟨j1 + 1, y, by go_num, rfl, by omega⟩, by simp only [intOf]; omega⟩
    · have hjn1 : ¬ (j1 : Int) < (RA.length : Int) := by omega
      go_wp2_with fail
      go_loopw [17] (fun i wr => ∃ (j : Nat) (z : Wd W4), i = .int .i64 j ∧ wr = z.w ∧ j ≤ RC.length) (fun i _ => RC.length - (intOf i).toNat)
      case atStart => exact ⟨0, z1, rfl, rfl, Nat.zero_le _⟩
      case round =>
        obtain ⟨j3, z3, rfl, rfl, hj3⟩ := hrel
        by_cases hlt3 : j3 < RC.length
        · obtain ⟨b1, o1, e1, hb1, hc1⟩ := cr1 (by omega)
          obtain ⟨b2, o2, e2, hb2, hc2⟩ := cr2 (by omega)
          have hg1 := hc1 j3 hlt3
          have hg2 := hc2 j3 hlt3
          have hjl : (j3 : Int) < (RC.length : Int) := by omega
          have hL1 : ∀ y : Wd W4, (Instr.loadAt 40 (.pointer (some ⟨b1, o1 + j3 * 9, none⟩))).run Tryz.prog y.w = .ok (.agg (claimA RC[j3])) y.w := Wd.load hb1 hg1 Tryz.underlying40 rfl (by kernel_rfl)
          have hL2 : ∀ y : Wd W4, (Instr.loadAt 40 (.pointer (some ⟨b2, o2 + j3 * 9, none⟩))).run Tryz.prog y.w = .ok (.agg (claimA RC[j3])) y.w := Wd.load hb2 hg2 Tryz.underlying40 rfl (by kernel_rfl)
          have heq := fun w => neq_of_eql (claimEq RC[j3] RC[j3] w)
          rw [claimSame_self] at heq
          have heq : ∀ w, (binOp .neq 40 (.agg (claimA RC[j3])) (.agg (claimA RC[j3]))).run Tryz.prog w = .ok (.bool false) w := heq
          rw [e1, e2]
          clear hc1 hc2 hg1 hg2
          generalize RC[j3] = q at *
          go_upto_region 18 with (fail)
          refine wp_region_wd z3 (by kernel_rfl) (by kernel_rfl) ?_
          repeat (first | (refine wpQuiet_load_run 40 (.tmp 103) (.pointer (some ⟨b1, o1 + j3 * 9, none⟩)) (.agg (claimA q)) ?_ ?_ ?_ ?_ ?_; rfl; rfl; rfl; exact hL1; dsimp only [Act.put]; simp only [List.setIfInBounds_toArray, List.set_cons_succ, List.set_cons_zero]) | (refine wpQuiet_load_run 40 (.tmp 107) (.pointer (some ⟨b2, o2 + j3 * 9, none⟩)) (.agg (claimA q)) ?_ ?_ ?_ ?_ ?_; rfl; rfl; rfl; exact hL2; dsimp only [Act.put]; simp only [List.setIfInBounds_toArray, List.set_cons_succ, List.set_cons_zero]) | go_big_quiet_step (fail))
          refine wpQuiet_nil ?_
          rintro w'' ⟨y, rfl⟩
          go_wp2_with fail
          exact ⟨⟨j3 + 1, y, by go_num, rfl, by omega⟩, by simp only [intOf]; omega⟩
        · have hjn3 : ¬ (j3 : Int) < (RC.length : Int) := by omega
          go_wp2_with fail
          go_loopw [18] (fun i wr => ∃ (j : Nat) (z : Wd W4), i = .int .i64 j ∧ wr = z.w ∧ j ≤ RB.length) (fun i _ => RB.length - (intOf i).toNat)
          case atStart => exact ⟨0, z3, rfl, rfl, Nat.zero_le _⟩
          case round =>
            obtain ⟨j5, z5, rfl, rfl, hj5⟩ := hrel
            by_cases hlt5 : j5 < RB.length
            · obtain ⟨b1, o1, e1, hb1, hc1⟩ := br1 (by omega)
              obtain ⟨b2, o2, e2, hb2, hc2⟩ := br2 (by omega)
              have hg1 := hc1 j5 hlt5
              have hg2 := hc2 j5 hlt5
              have hjl : (j5 : Int) < (RB.length : Int) := by omega
              have hL1 : ∀ y : Wd W4, (Instr.loadAt 42 (.pointer (some ⟨b1, o1 + j5 * 7, none⟩))).run Tryz.prog y.w = .ok (.agg (ballotA RB[j5])) y.w := Wd.load hb1 hg1 Tryz.underlying42 rfl (by kernel_rfl)
              have hL2 : ∀ y : Wd W4, (Instr.loadAt 42 (.pointer (some ⟨b2, o2 + j5 * 7, none⟩))).run Tryz.prog y.w = .ok (.agg (ballotA RB[j5])) y.w := Wd.load hb2 hg2 Tryz.underlying42 rfl (by kernel_rfl)
              have heq := fun w => neq_of_eql (ballotEq RB[j5] RB[j5] w)
              rw [ballotSame_self] at heq
              have heq : ∀ w, (binOp .neq 42 (.agg (ballotA RB[j5])) (.agg (ballotA RB[j5]))).run Tryz.prog w = .ok (.bool false) w := heq
              rw [e1, e2]
              clear hc1 hc2 hg1 hg2
              generalize RB[j5] = q at *
              go_upto_region 23 with (fail)
              refine wp_region_wd z5 (by kernel_rfl) (by kernel_rfl) ?_
              repeat (first | (refine wpQuiet_load_run 42 (.tmp 118) (.pointer (some ⟨b1, o1 + j5 * 7, none⟩)) (.agg (ballotA q)) ?_ ?_ ?_ ?_ ?_; rfl; rfl; rfl; exact hL1; dsimp only [Act.put]; simp only [List.setIfInBounds_toArray, List.set_cons_succ, List.set_cons_zero]) | (refine wpQuiet_load_run 42 (.tmp 122) (.pointer (some ⟨b2, o2 + j5 * 7, none⟩)) (.agg (ballotA q)) ?_ ?_ ?_ ?_ ?_; rfl; rfl; rfl; exact hL2; dsimp only [Act.put]; simp only [List.setIfInBounds_toArray, List.set_cons_succ, List.set_cons_zero]) | go_big_quiet_step (fail))
              refine wpQuiet_nil ?_
              rintro w'' ⟨y, rfl⟩
              go_wp2_with fail
              exact ⟨⟨j5 + 1, y, by go_num, rfl, by omega⟩, by simp only [intOf]; omega⟩
            · have hjn5 : ¬ (j5 : Int) < (RB.length : Int) := by omega
              go_wp2_with fail
              go_loopw [19] (fun i wr => ∃ (j : Nat) (z : Wd W4), i = .int .i64 j ∧ wr = z.w ∧ j ≤ RD.length) (fun i _ => RD.length - (intOf i).toNat)
              case atStart => exact ⟨0, z5, rfl, rfl, Nat.zero_le _⟩
              case round =>
                obtain ⟨j7, z7, rfl, rfl, hj7⟩ := hrel
                by_cases hlt7 : j7 < RD.length
                · obtain ⟨b1, o1, e1, hb1, hc1⟩ := dr1 (by omega)
                  obtain ⟨b2, o2, e2, hb2, hc2⟩ := dr2 (by omega)
                  have hg1 := hc1 j7 hlt7
                  have hg2 := hc2 j7 hlt7
                  have hjl : (j7 : Int) < (RD.length : Int) := by omega
                  have hL1 : ∀ y : Wd W4, (Instr.loadAt 44 (.pointer (some ⟨b1, o1 + j7 * 12, none⟩))).run Tryz.prog y.w = .ok (.agg (decA RD[j7])) y.w := Wd.load hb1 hg1 Tryz.underlying44 rfl (by kernel_rfl)
                  have hL2 : ∀ y : Wd W4, (Instr.loadAt 44 (.pointer (some ⟨b2, o2 + j7 * 12, none⟩))).run Tryz.prog y.w = .ok (.agg (decA RD[j7])) y.w := Wd.load hb2 hg2 Tryz.underlying44 rfl (by kernel_rfl)
                  have hIn := hDm4 _ (List.getElem_mem hlt7)
                  have hOf := fun y : Wd W4 => rofDec_any RD[j7] y.w
                  have hSe := fun y : Wd W4 => ritemSame_any (itDecR RD[j7]) (itDecR RD[j7]) y.w (hIn y) (hIn y)
                  rw [itemSame_self] at hSe
                  rw [e1, e2]
                  clear hc1 hc2 hg1 hg2 hIn
                  generalize RD[j7] = q at *
                  go_upto_region 28 with (fail)
                  refine wp_region_wd z7 (by kernel_rfl) (by kernel_rfl) ?_
                  repeat (first | (refine wpQuiet_load_run 44 (.tmp 133) (.pointer (some ⟨b1, o1 + j7 * 12, none⟩)) (.agg (decA q)) ?_ ?_ ?_ ?_ ?_; rfl; rfl; rfl; exact hL1; dsimp only [Act.put]; simp only [List.setIfInBounds_toArray, List.set_cons_succ, List.set_cons_zero]) | (refine wpQuiet_load_run 44 (.tmp 138) (.pointer (some ⟨b2, o2 + j7 * 12, none⟩)) (.agg (decA q)) ?_ ?_ ?_ ?_ ?_; rfl; rfl; rfl; exact hL2; dsimp only [Act.put]; simp only [List.setIfInBounds_toArray, List.set_cons_succ, List.set_cons_zero]) | go_big_quiet_step (first | with_reducible exact Wd.call _ (hOf _) | with_reducible exact Wd.call _ (hSe _)))
                  refine wpQuiet_nil ?_
                  rintro w'' ⟨y, rfl⟩
                  go_wp2_with fail
                  exact ⟨⟨j7 + 1, y, by go_num, rfl, by omega⟩, by simp only [intOf]; omega⟩
                · have hjn7 : ¬ (j7 : Int) < (RD.length : Int) := by omega
                  go_wp2_with fail
                  go_ret
                  exact ⟨rfl, Q.trans HQ4.out z7.q⟩
end Go.Proofs.YtomkeaeegdjhnaaGreatDoor.Known

namespace Go.Proofs.YtomkeaeegdjhnaaGreatDoor.Laid

theorem cell_int {P : Program} {W : World} {r : Reach} {base : Nat} {i : TypeId} {v : Value} (hi : P.underlying i = some (.int .i64)) (h : Cell.okWide P W r base i v) :
    ∃ a : Int, v = .int .i64 a ∧ -9223372036854775808 ≤ a ∧ a ≤ 9223372036854775807 := by
  simp only [Cell.okWide, hi] at h
  cases v with
  | int k n =>
    simp only [Cell.ok, hi] at h
    obtain ⟨rfl, h1, h2⟩ := h
    exact ⟨n, rfl, h1, h2⟩
  | _ => simp [Cell.ok, hi] at h
theorem open_pair {P : Program} {W : World} {r : Reach} {base : Nat} {v : Value} {t i : TypeId} {fs : Array Field} (hu : P.underlying t = some (.struct fs)) (hct : P.cellTypes P.depth t = some [i, i]) (hc : P.cellsOf t = 2) (hi : P.underlying i = some (.int .i64))
    (h : Value.okWide P W r base t v) : ∃ a b : Int, v = .agg #[.int .i64 a, .int .i64 b] ∧ (-9223372036854775808 ≤ a ∧ a ≤ 9223372036854775807) ∧ -9223372036854775808 ≤ b ∧ b ≤ 9223372036854775807 := by
  simp only [Value.okWide, hu] at h
  obtain ⟨cs, rfl, hsz, ts, hts, -, hcell⟩ := h
  rw [hct] at hts
  obtain rfl := Option.some.inj hts
  rw [hc] at hsz
  obtain ⟨l⟩ := cs
  match l, hsz with
  | [c0, c1], _ =>
    obtain ⟨u0, h0, k0⟩ := hcell 0 c0 rfl
    obtain ⟨u1, h1, k1⟩ := hcell 1 c1 rfl
    obtain rfl := Option.some.inj h0
    obtain rfl := Option.some.inj h1
    obtain ⟨a, rfl, ha⟩ := cell_int hi k0
    obtain ⟨b, rfl, hb⟩ := cell_int hi k1
    exact ⟨a, b, rfl, ha, hb⟩
theorem open_i64 {P : Program} {W : World} {r : Reach} {base : Nat} {i : TypeId} {v : Value} (hi : P.underlying i = some (.int .i64)) (h : Value.okWide P W r base i v) :
    ∃ a : Int, v = .int .i64 a ∧ -9223372036854775808 ≤ a ∧ a ≤ 9223372036854775807 := by
  simp only [Value.okWide, hi] at h
  exact cell_int hi h
end Go.Proofs.YtomkeaeegdjhnaaGreatDoor.Laid

namespace Go.Proofs.YtomkeaeegdjhnaaGreatDoor.Post
open Go.ChangeShapes Go.WideShapes Go.ChangeAt Go.RowKit

theorem trodAll_below {H : Type} {enc : TypeId × Value → H} {P : Program} (hl : laidOutB P = true) {W W' : World} (hb : Below W.heap.size W W') :
    ∀ {ts : List TypeId} {vs : List Value} {ds : List (DataW H)} {ps : List MemPlace}, ts.all (fun t => P.readableRec t && decide (t < P.types.size)) = true → (∀ x ∈ ps, x.block < W.heap.size) →
      DataW.TrodAll enc P W 0 (fun _ => true) true ts vs ds ps → DataW.TrodAll enc P W' 0 (fun b => decide (b < W.heap.size)) true ts vs ds ps := by
  intro ts
  induction ts with
  | nil =>
    intro vs ds ps _ _ h
    obtain ⟨rfl, rfl, rfl⟩ := trodAll_nil h
    exact trodAll_mk0
  | cons t ts ih =>
    intro vs ds ps hr hlt h
    obtain ⟨v, vs', d, ds', p, q, rfl, rfl, rfl, h1, h2⟩ := trodAll_cons h
    simp only [List.all_cons, Bool.and_eq_true, decide_eq_true_eq] at hr
    exact trodAll_cons_mk (Below.trod hl hr.1.1 hr.1.2 h1 hb (fun x hx => hlt x (List.mem_append_left _ hx))) (ih (by simpa using hr.2) (fun x hx => hlt x (List.mem_append_right _ hx)) h2)

theorem law_post {H : Type} {enc : TypeId × Value → H} {P : Program} {f : Func} {s : ChangeSpec} {apart : Bool} {W W' : World} {args : Array Value} {ds gs : List (DataW H)} {before : List MemPlace} {tb : TypeId}
    (hl : laidOutB P = true) (hts : f.params.toList.all (fun t => P.readableRec t && decide (t < P.types.size)) = true) (hvs : varsRowed P s.vars = true)
    (hrt : f.resultTypes.toList = [tb]) (hn : f.resultTypes.size = 1) (hub : P.underlying tb = some .bool)
    (hW : DataW.Whole enc P f.params.toList s.vars apart W args.toList ds gs before)
    (hr : (s.fn H (ds ++ gs)).results = [.lit (.bool true)]) (ha : (s.fn H (ds ++ gs)).args = ds) (hv : (s.fn H (ds ++ gs)).vars = gs)
    (hb : Below W.heap.size W W') :
    s.post enc P f apart true false false W args (.bool true) W' := by
  have hW' := hW
  have hlt := hW.lt
  obtain ⟨p, q, hA, hV, rfl, hfz, hnd⟩ := hW
  refine ⟨ds, gs, p ++ q, [], p, q, hW', ?_, ?_, ?_, hb.frame _, fun h => by cases h⟩
  · rw [hr, hrt, hn]
    exact trodAll_mk1 (shut_bool hub true)
  · rw [ha]
    exact trodAll_below hl hb hts (fun x hx => hlt x (List.mem_append_left _ hx)) hA
  · rw [hv]
    exact Below.trodVars hl hb hvs hV

end Go.Proofs.YtomkeaeegdjhnaaGreatDoor.Post

namespace Go.Proofs.YtomkeaeegdjhnaaGreatDoor.Laid
open Go.ChangeShapes Go.WideShapes Go.ChangeAt Go.RowKit

theorem own : ownKnob Tryz.prog.godebug = none := by kernel_rfl
theorem laidOut : laidOutB Tryz.prog = true := by kernel_rfl
theorem gCon : Tryz.prog.globalNamed "agora/sum.constants" = some 1 := by kernel_rfl
theorem gIni : Tryz.prog.globalNamed "agora/sum.initial" = some 0 := by kernel_rfl
theorem gConType : (Tryz.prog.globals[(1 : Nat)]?).map (·.type) = some 146 := by kernel_rfl
theorem gIniType : (Tryz.prog.globals[(0 : Nat)]?).map (·.type) = some 89 := by kernel_rfl
theorem cells64 : Tryz.prog.cellsOf 146 = 64 := by kernel_rfl
theorem cells8 : Tryz.prog.cellsOf 89 = 8 := by kernel_rfl
theorem cells1 : Tryz.prog.cellsOf 88 = 1 := by kernel_rfl

theorem laidMet_rest {P : Program} {W : World} {x : String × DataW Unit} {name : String} {k : IntKind} {zs : List Int} {g : Nat} {t e : TypeId} {n : Nat}
    (hg : P.globalNamed name = some g) (hty : (P.globals[g]?).map (·.type) = some t) (ht : P.underlying t = some (.array n e)) (he : P.underlying e = some (.int k)) (hce : P.cellsOf e = 1) (hct : P.cellsOf t = n)
    (h : laidMet P [x, (name, Lib.tabData k zs)] W) : Lib.TabIs P W name k zs := by
  obtain ⟨ps, ⟨g', t', cs, fuel, p, q, hg', ht', hvar, hd, ⟨g2, t2, cs2, fuel2, p2, q2, hg2, ht2, hvar2, hd2, _, _⟩, _⟩, _⟩ := h
  obtain rfl := Option.some.inj (hg.symm.trans hg2)
  obtain rfl := Option.some.inj (hty.symm.trans ht2)
  unfold Lib.TabIs
  rw [hvar2, ← Lib.cells_of_tab ht he hce hct hd2]

theorem block_of {P : Program} {W : World} {name : String} {cs : Array Value} {g : Nat} (hg : P.globalNamed name = some g) (h : W.var? P name = some cs) : ∃ t fr, W.heap[g]? = some (.cells cs t fr) := by
  simp only [World.var?, hg, Option.bind_some] at h
  split at h
  · rename_i cs' t fr hh
    obtain rfl := Option.some.inj h
    exact ⟨t, fr, hh⟩
  · cases h
theorem lt_of {W : World} {g : Nat} {o : Obj} (h : W.heap[g]? = some o) : g < W.heap.size := (Array.getElem?_eq_some_iff.mp h).1

theorem tab {W : World} (h : laidMetH Tryz.prog [("agora/sum.constants", Rows.laid_agora_sum_constants), ("agora/sum.initial", Rows.laid_agora_sum_initial)] W) : Sha.Tab W := by
  have hc : Lib.TabIs Tryz.prog W "agora/sum.constants" .u32 Sha.KL := Lib.tabIs_of_head (rest := [("agora/sum.initial", Rows.laid_agora_sum_initial)]) gCon gConType Tryz.underlying146 Tryz.underlying88 cells1 cells64 h
  have hi : Lib.TabIs Tryz.prog W "agora/sum.initial" .u32 Sha.HL := laidMet_rest (x := ("agora/sum.constants", Rows.laid_agora_sum_constants)) gIni gIniType Tryz.underlying89 Tryz.underlying88 cells1 cells8 h
  obtain ⟨t1, f1, h1⟩ := block_of gCon hc
  obtain ⟨t2, f2, h2⟩ := block_of gIni hi
  exact ⟨⟨t2, f2, h2⟩, fun i hi => hc.cell gCon i hi, lt_of h2, lt_of h1⟩

/- A world for the witness: the settled one, the tables holding what the text lays. -/
def put (cs : Array Value) : Obj → Obj
  | .cells _ t frozen => .cells cs t frozen
  | o => o
noncomputable def laidWorld (os : Os) (args : Array Value) : World :=
  { World.holding Tryz.prog os ⟨#[], args, []⟩ with heap := ((World.holding Tryz.prog os ⟨#[], args, []⟩).heap.modify 1 (put (Sha.KL.map fun z => Value.int .u32 z).toArray)).modify 0 (put (Sha.HL.map fun z => Value.int .u32 z).toArray) }
end Go.Proofs.YtomkeaeegdjhnaaGreatDoor.Laid

namespace Go.Proofs.YtomkeaeegdjhnaaGreatDoor.knownLists
open Go.ChangeShapes Go.WideShapes Go.ChangeAt Go.RowKit
open Go.ChangeMaps (open_string)

theorem open_sl {α : Type} {H : Type} {enc : TypeId × Value → H} {P : Program} {W : World} {r : Reach} {b0 base : Nat} {held : Bool} {t e : TypeId} {k : Nat} {f : α → List Value} {G : α → Prop} {v : Value} {d : DataW H} {p : List MemPlace}
    (ht : P.underlying t = some (.slice e)) (hO : Mem.Opens enc P W base (fun _ => true) held t Mem.SliceR.cells (Mem.SliceR.Good W k f G)) (hval : Value.okWide P W r b0 t v) (h : DataW.Trod enc P W base (fun _ => true) held t v d p) :
    ∃ (A : Option Addr) (c : Nat) (l : List α), v = .slice A l.length c ∧ l.length ≤ c ∧ c ≤ maxLen ∧ Mem.RowsAt W A k f l ∧ ∀ a ∈ l, G a := by
  obtain ⟨A, n, c, rfl⟩ := okWide_slice ht hval
  obtain ⟨fuel, hf⟩ := h
  obtain ⟨s, hs, hg⟩ := hO fuel _ _ hf
  simp [Value.cells, Mem.SliceR.cells] at hs
  obtain ⟨rfl, rfl, rfl⟩ := hs
  exact ⟨s.A, s.c, s.l, rfl, hg.le, hg.cap, hg.rows, hg.all⟩

theorem laid_met (os : Os) : laidMet Tryz.prog Rows.knownListsRow.laid ((Laid.laidWorld os #[.agg #[.slice none 0 0, .slice none 0 0], .string ⟨#[]⟩, .int .i64 0]).forCall (fun _ _ => 0) ⟨#[], #[.agg #[.slice none 0 0, .slice none 0 0], .string ⟨#[]⟩, .int .i64 0], []⟩).memory :=
  laidMet_of_run' 8 (by kernel_rfl) (by kernel_rfl)
theorem reads (os : Os) {H : Type} (enc : TypeId × Value → H) : ∃ places, DataW.whole enc Tryz.prog ((Laid.laidWorld os #[.agg #[.slice none 0 0, .slice none 0 0], .string ⟨#[]⟩, .int .i64 0]).forCall (fun _ _ => 0) ⟨#[], #[.agg #[.slice none 0 0, .slice none 0 0], .string ⟨#[]⟩, .int .i64 0], []⟩).memory Tryz.f4.params.toList Rows.knownListsSpec.vars false #[Value.agg #[.slice none 0 0, .slice none 0 0], .string ⟨#[]⟩, .int .i64 0].toList 8 = some ([.agg [.nil, .nil], .lit (.string []), .lit (.int .i64 0)], [], places) :=
  ⟨[], by kernel_rfl⟩

set_option maxRecDepth 100000 in
theorem contract (H : Type) (enc : TypeId × Value → H) (W : World) (base : Nat) (args : Array Value) (ds gs : List (DataW H)) (before : List MemPlace)
    (hval : ∀ (j : Nat) t v, Tryz.f4.params[j]? = some t → args[j]? = some v → Value.okWide Tryz.prog W .any base t v)
    (hW : DataW.Whole enc Tryz.prog Tryz.f4.params.toList Rows.knownListsSpec.vars false W args.toList ds gs before) (hL : laidMetH Tryz.prog Rows.knownListsRow.laid W) :
    Calls Tryz.prog 4 args W fun e W' => ∃ v, e = .returned v ∧ Rows.knownListsSpec.post enc Tryz.prog Tryz.f4 false true false false W args v W' := by
  have hW' := hW
  obtain ⟨p, q, hA0, hV, rfl, hfz, hnd⟩ := hW
  have hA : DataW.TrodAll enc Tryz.prog W 0 (fun _ => true) true Tryz.f4.params.toList args.toList ds p := hA0
  rw [Tryz.params4] at hA hval
  obtain ⟨v0, vs0, d0, ds0, p0, q0, hargs, rfl, rfl, h0, r0⟩ := trodAll_cons hA
  obtain ⟨v1, vs1, d1, ds1, p1, q1, rfl, rfl, rfl, h1, r1⟩ := trodAll_cons r0
  obtain ⟨v2, vs2, d2, ds2, p2, q2, rfl, rfl, rfl, h2, r2⟩ := trodAll_cons r1
  obtain ⟨rfl, rfl, rfl⟩ := trodAll_nil r2
  obtain rfl : args = #[v0, v1, v2] := by cases args; simp_all
  obtain ⟨rfl, rfl⟩ := trodVars_none hV
  obtain ⟨k0, rfl, in0, ok0⟩ := Known.open_kn (hval 0 25 v0 rfl rfl) h0
  obtain ⟨s1, rfl, rfl, rfl, z1⟩ := open_string Tryz.underlying9 (hval 1 9 v1 rfl rfl) h1
  obtain ⟨a2, rfl, w2⟩ := Laid.open_i64 Tryz.underlying3 (hval 2 3 v2 rfl rfl)
  clear hA0
  refine (Known.lists_walk k0 s1 a2 W (Laid.tab hL) in0 ok0).mono fun e W' ⟨he, hg⟩ => ?_
  subst he
  exact ⟨_, rfl, Post.law_post (tb := 4) Laid.laidOut (by kernel_rfl) (by kernel_rfl) (by kernel_rfl) (by kernel_rfl) Tryz.underlying4 hW' rfl rfl rfl hg⟩

set_option maxRecDepth 100000 in
theorem lifted (os : Os) (started : os.Started) (H : Type) (enc : TypeId × Value → H) (F : Stop.Interp) :
    ReturnsInHanded {} Tryz.checked os 4 .any ((OpenSpec.ofChange Rows.knownListsSpec).preRow enc Tryz.prog Tryz.f4 Rows.knownListsRow.domain false Rows.knownListsRow.laid) (((OpenSpec.ofChange Rows.knownListsSpec).at F).post enc Tryz.prog Tryz.f4 false true false false) := by
  obtain ⟨places, hx⟩ := reads os enc
  refine returnsInHanded_of_row (C := Tryz.checked) (s := OpenSpec.ofChange Rows.knownListsSpec) Laid.own started (by kernel_rfl) Tryz.func4
    (witness_row_at (enc := enc) (C := Tryz.checked) false (Laid.laidWorld os #[.agg #[.slice none 0 0, .slice none 0 0], .string ⟨#[]⟩, .int .i64 0]) #[.agg #[.slice none 0 0, .slice none 0 0], .string ⟨#[]⟩, .int .i64 0] rfl (by kernel_rfl) (by kernel_rfl) (by kernel_rfl)
      (OpenSpec.preRow_of_cond 8 hx (by kernel_rfl) (fun k hk => by cases hk) (by kernel_rfl) (laid_met os))) ?_
  intro W base args ds gs before hval hW _ _ _ hL _ _
  exact contract H enc W base args ds gs before hval hW hL

theorem c10 : (Rows.knownListsRow.inPlace == Tryz.prog.inPlace 4) = true := by kernel_rfl
theorem c11 : (Rows.knownListsRow.unfollowed == Tryz.prog.unfollowed 4) = true := by kernel_rfl
theorem c12 : (Rows.knownListsRow.recurses == Tryz.prog.recurses 4) = true := by kernel_rfl
theorem c13 : (Rows.knownListsRow.named == Tryz.prog.varsNamed 4) = true := by kernel_rfl
theorem closed : joinedFacts Tryz.prog 4 Tryz.f4 (OpenSpec.ofChange Rows.knownListsSpec).bare Rows.knownListsRow = true := by
  unfold joinedFacts
  rw [c10, c11, c12, c13]
  kernel_rfl
set_option maxRecDepth 100000 in
theorem said : Rows.KnownListsSaid :=
  OpenClaim.holds_of_cond 4 Tryz.f4 rfl rfl rfl rfl rfl rfl rfl ⟨rfl, rfl, rfl, rfl, rfl⟩ rfl rfl rfl rfl rfl (by kernel_rfl) Tryz.func4 closed
    (of_decide_eq_true (by kernel_rfl)) (by unfold Func.isWrapper; first | (rw [if_pos (by decide +kernel)]; kernel_rfl) | (rw [if_neg (by decide +kernel)]; exact ⟨rfl, rfl⟩))
    (fun os started H enc _ F => by rw [OpenClaim.pre_eq_preRow]; exact lifted os started H enc F)

theorem plain (f : FuncId) (fn : Func) (hf : Tryz.pinned.checked.prog.funcNamed "agora/agoralaw14.KnownLists" = some f) (hfn : Tryz.pinned.checked.prog.funcs[f]? = some fn) :
    false = Tryz.pinned.checked.prog.looks [] ∧ ∀ (j : Nat) t, fn.params[j]? = some t → Tryz.pinned.checked.prog.wantsStandIn t = false := by
  obtain rfl : f = 4 := Option.some.inj ((show Tryz.prog.funcNamed "agora/agoralaw14.KnownLists" = some 4 by kernel_rfl).symm.trans hf) |>.symm
  obtain rfl : fn = Tryz.f4 := (Option.some.inj (Tryz.func4.symm.trans hfn)).symm
  refine ⟨by kernel_rfl, fun j t ht => ?_⟩
  rw [Tryz.params4] at ht
  have hm := Array.mem_of_getElem? ht
  have hall : (#[25, 9, 3] : Array TypeId).all (fun t => !Tryz.prog.wantsStandIn t) = true := by kernel_rfl
  have hb := (Array.all_eq_true_iff_forall_mem.mp hall) t hm
  show Tryz.prog.wantsStandIn t = false
  simpa using hb

theorem proved : Rows.KnownListsCardSaid :=
  Claim7.holds_tied_plain_at .later [] _ _ _ _ said (fun _ h => by cases h) (by kernel_rfl) (fun _ h => by cases h) knownLists_row_tie rfl ⟨rfl, rfl⟩ (by kernel_rfl) rfl plain (by kernel_rfl)
#print axioms proved
end Go.Proofs.YtomkeaeegdjhnaaGreatDoor.knownLists
