/-
  Package item's OfAct and OfDecision.
  What known.Acts, Claims, Ballots and Decisions are of a filled set, as plain data: each item once, in order. No walk in this text.
  Each item of a filled set occurs once in the list of its kind, and the lists ascend. No walk in this text.
-/
import Derived.Test.YtpdalnojimgjbaaGreatDoorPickSm
import Derived.Test.YtpdalnojimgjbaaGreatDoorOpenItem
import Derived.Lib.SliceRun
import Derived.Deep.Cut
import Derived.Test.YtpdalnojimgjbaaGreatDoorPicks
set_option linter.unusedVariables false
set_option linter.unusedSimpArgs false
namespace Go.Proofs.YtpdalnojimgjbaaGreatDoor.Known
open Go.RowKit Grp Mem _root_.Go.Proofs.YtpdalnojimgjbaaGreatDoor.Code Sha Sign _root_.Go.Proofs.YtpdalnojimgjbaaGreatDoor.Item

theorem owns_empty (w : World) (t : TypeId) (k : Nat) : Owns (w.alloc (.cells #[] t)) w.heap.size t k (.slice (some ⟨w.heap.size, 0, none⟩) 0 0) 0 [] :=
  ⟨by simp, .inr ⟨w.heap.size, 0, #[], (0, 0), rfl, Nat.le_refl _, Blk.new w t #[], .inl rfl, Nat.le_refl _, Nat.zero_le _, by simp, by simp⟩⟩
theorem wrp_len (x : WrapV) : x.cells.length = 5 := rfl
theorem wrp_one (x : WrapV) : ∀ v ∈ x.cells, v.oneCell' = true := by
  intro v hv
  simp only [WrapV.cells, List.mem_cons, List.not_mem_nil, or_false] at hv
  rcases hv with rfl | rfl | rfl | rfl | rfl <;> rfl
theorem wrap_info : (Tryz.prog.info? 139).map (fun i => (i.zero, i.size, i.bytes)) = some (some (.agg (WrapV.cells default).toArray), 5, 64) := by kernel_rfl
theorem rows_strs {w : World} {A : Option Addr} {l : List ByteArray} (h : Strs w A l) : RowsAt w A 1 strC l := fun h0 => by
  obtain ⟨b, o, e, hb, hc⟩ := h h0
  refine ⟨b, o, e, hb, fun j hj i v hv => ?_⟩
  have hi : i = 0 := by
    have := (List.getElem?_eq_some_iff.1 hv).1
    simp [strC] at this
    omega
  subst hi
  have : v = .string l[j] := by simpa [strC] using hv.symm
  rw [this, Nat.mul_one, Nat.add_zero]
  exact hc j hj
theorem rows_wrs {w : World} {A : Option Addr} {l : List WrapV} (h : Wrs w A l) : RowsAt w A 5 WrapV.cells l := h
/-- Rows in a block from B on. -/
def RowsFrom {α : Type} (B : Nat) (w : World) (A : Option Addr) (k : Nat) (f : α → List Value) (l : List α) : Prop := 0 < l.length → ∃ b o, A = some ⟨b, o, none⟩ ∧ B ≤ b ∧ b < w.heap.size ∧ ∀ j (h : j < l.length), w.rangeAt b (o + j * k) (f l[j])
theorem RowsFrom.rows {α : Type} {B : Nat} {w : World} {A : Option Addr} {k : Nat} {f : α → List Value} {l : List α} (h : RowsFrom B w A k f l) : RowsAt w A k f l := fun h0 => by
  obtain ⟨b, o, e, _, h2, h3⟩ := h h0
  exact ⟨b, o, e, h2, h3⟩
theorem RowsFrom.q {α : Type} {B : Nat} {w w' : World} {A : Option Addr} {k : Nat} {f : α → List Value} {l : List α} (h : RowsFrom B w A k f l) (hq : Q w w') : RowsFrom B w' A k f l := fun h0 => by
  obtain ⟨b, o, e, h1, h2, h3⟩ := h h0
  exact ⟨b, o, e, h1, Nat.lt_of_lt_of_le h2 hq.size, fun j hj => range_q (h3 j hj) hq h2⟩
theorem RowsFrom.far {α : Type} {B : Nat} {w w' : World} {A : Option Addr} {k : Nat} {f : α → List Value} {l : List α} (h : RowsFrom B w A k f l) (hf : ∀ b, B ≤ b → w'.heap[b]? = w.heap[b]?) : RowsFrom B w' A k f l := fun h0 => by
  obtain ⟨b, o, e, h1, h2, h3⟩ := h h0
  have e1 := hf b h1
  refine ⟨b, o, e, h1, ?_, fun j hj i v hv => (World.cell?_of_block (w := w) e1).trans (h3 j hj i v hv)⟩
  rcases Nat.lt_or_ge b w'.heap.size with h7 | h7
  · exact h7
  · rw [Array.getElem?_eq_none h7, Array.getElem?_eq_getElem h2] at e1
    cases e1
theorem rows_from {α : Type} {f : α → List Value} {k : Nat} {w : World} {base n : Nat} {e : TypeId} {A : Option Addr} {c : Nat} {l : List α} (hk : ∀ x, (f x).length = k) (h : Owns w base e k (.slice A n c) n (l.flatMap f)) (hn : n = l.length) : RowsFrom base w A k f l := fun h0 => by
  obtain ⟨b, o, e1, h2, h3⟩ := Owns.rows hk h hn h0
  rcases h.2 with ⟨e2, h4⟩ | ⟨g, cap, cur, fz, hv, hb, _⟩
  · omega
  · injection hv with hA _ _
    rw [e1] at hA
    injection hA with hA
    injection hA with hA
    subst hA
    exact ⟨b, o, e1, hb, h2, h3⟩
/-- What slices.Clone hands back. -/
def ClonedRows {α : Type} (k : Nat) (f : α → List Value) (l : List α) (w : World) (e : Ending) (w' : World) : Prop := ∃ (A : Option Addr) (c : Nat), e = .returned (.slice A l.length c) ∧ l.length ≤ c ∧ c ≤ maxLen ∧ RowsFrom w.heap.size w' A k f l ∧ Q w w'

open Go.Op in
theorem eqnil_cloneS (w : World) (a : Option Addr) (n c n' c' : Nat) : (binOp .eql 34 (.slice a n c) (.slice none n' c')).run Tryz.prog w = .ok (.bool a.isNone) w := Lib.run_eql_slice_nil w _ _ a n c n' c' Tryz.underlying34
theorem bs_cloneS (w : World) : (Instr.buildSlice 34 0 #[]).run Tryz.prog w = .ok (.slice (some ⟨w.heap.size, 0, none⟩) 0 0) (w.alloc (.cells #[] 9)) := by kernel_rfl
set_option maxRecDepth 100000 in
set_option maxHeartbeats 1000000 in
theorem cloneS_any (A : Option Addr) (c : Nat) (l : List ByteArray) (w : World) (hS : RowsAt w A 1 strC l) (hl : l.length ≤ 1000000) : Calls Tryz.prog 104 #[.slice A l.length c] w (ClonedRows 1 strC l w) := by
  obtain ⟨i0, hi, hz0, hz1, hz2⟩ := info_parts str_info
  have q22 := eqnil_cloneS
  cases A with
  | none =>
    have h0 : l = [] := by
      rcases Nat.eq_zero_or_pos l.length with h | h
      · exact List.length_eq_zero_iff.1 h
      · obtain ⟨_, _, e, _⟩ := hS h
        cases e
    subst h0
    go_enter Tryz.func104, Tryz.ntmps104
    go_wp2_with fail
    go_ret
    exact ⟨none, 0, rfl, Nat.le_refl _, Nat.zero_le _, fun h => by simp at h, Q.refl _⟩
  | some a =>
    have hq1 := q_new w #[] 9
    have hown := owns_empty w 9 1
    have hS1 := hS.q hq1
    obtain ⟨w1, hw1⟩ : ∃ w1, w.alloc (.cells #[] 9) = w1 := ⟨_, rfl⟩
    have hbs := bs_cloneS w
    have hs1 : w.heap.size ≤ w1.heap.size := by rw [← hw1]; simp
    rw [hw1] at hq1 hown hS1 hbs
    clear hw1
    go_enter Tryz.func104, Tryz.ntmps104
    go_upto_region 3 with (fail)
    refine wp_region_lit ?_
    refine wpList_buildSlice_run 34 0 _ #[] _ rfl rfl (by simp) hbs ?_
    dsimp only [Act.put]
    simp only [List.setIfInBounds_toArray, List.set_cons_succ, List.set_cons_zero]
    refine wpList_move (.tmp 0) (.slice (some a) l.length c) rfl rfl rfl ?_
    dsimp only [Act.put]
    simp only [List.setIfInBounds_toArray, List.set_cons_succ, List.set_cons_zero]
    refine wpList_append_rows str_len str_one rfl (.tmp 5) (.tmp 6) 34 9 i0 _ 16 rfl Tryz.underlying34 hi hz0 hz1 hz2 rfl (by decide) (by decide) w.heap.size (.slice (some ⟨w.heap.size, 0, none⟩) 0 0) 0 [] rfl hown (some a) l.length c l rfl hS1 rfl (by omega) hs1 ?_
    intro A2 c2 w2 hc2 hm2 hown2 hg2
    have hq2 : Q w w2 := q_grown hq1 (Nat.le_refl _) hown hg2
    rw [Nat.zero_add] at hown2
    have hfin : ClonedRows 1 strC l w (.returned (.slice A2 l.length c2)) w2 := ⟨A2, c2, rfl, by omega, hm2, rows_from str_len hown2 rfl, hq2⟩
    have HF := Lib.hid hfin
    clear hfin hown2 hg2 hq2
    go_wp2_with fail
    go_ret
    exact HF.out

open Go.Op in
theorem eqnil_cloneW (w : World) (a : Option Addr) (n c n' c' : Nat) : (binOp .eql 37 (.slice a n c) (.slice none n' c')).run Tryz.prog w = .ok (.bool a.isNone) w := Lib.run_eql_slice_nil w _ _ a n c n' c' Tryz.underlying37
theorem bs_cloneW (w : World) : (Instr.buildSlice 37 0 #[]).run Tryz.prog w = .ok (.slice (some ⟨w.heap.size, 0, none⟩) 0 0) (w.alloc (.cells #[] 139)) := by kernel_rfl
set_option maxRecDepth 100000 in
set_option maxHeartbeats 1000000 in
theorem cloneW_any (A : Option Addr) (c : Nat) (l : List WrapV) (w : World) (hS : RowsAt w A 5 WrapV.cells l) (hl : l.length ≤ 1000000) : Calls Tryz.prog 105 #[.slice A l.length c] w (ClonedRows 5 WrapV.cells l w) := by
  obtain ⟨i0, hi, hz0, hz1, hz2⟩ := info_parts wrap_info
  have q22 := eqnil_cloneW
  cases A with
  | none =>
    have h0 : l = [] := by
      rcases Nat.eq_zero_or_pos l.length with h | h
      · exact List.length_eq_zero_iff.1 h
      · obtain ⟨_, _, e, _⟩ := hS h
        cases e
    subst h0
    go_enter Tryz.func105, Tryz.ntmps105
    go_wp2_with fail
    go_ret
    exact ⟨none, 0, rfl, Nat.le_refl _, Nat.zero_le _, fun h => by simp at h, Q.refl _⟩
  | some a =>
    have hq1 := q_new w #[] 139
    have hown := owns_empty w 139 5
    have hS1 := hS.q hq1
    obtain ⟨w1, hw1⟩ : ∃ w1, w.alloc (.cells #[] 139) = w1 := ⟨_, rfl⟩
    have hbs := bs_cloneW w
    have hs1 : w.heap.size ≤ w1.heap.size := by rw [← hw1]; simp
    rw [hw1] at hq1 hown hS1 hbs
    clear hw1
    go_enter Tryz.func105, Tryz.ntmps105
    go_upto_region 3 with (fail)
    refine wp_region_lit ?_
    refine wpList_buildSlice_run 37 0 _ #[] _ rfl rfl (by simp) hbs ?_
    dsimp only [Act.put]
    simp only [List.setIfInBounds_toArray, List.set_cons_succ, List.set_cons_zero]
    refine wpList_move (.tmp 0) (.slice (some a) l.length c) rfl rfl rfl ?_
    dsimp only [Act.put]
    simp only [List.setIfInBounds_toArray, List.set_cons_succ, List.set_cons_zero]
    refine wpList_append_rows wrp_len wrp_one rfl (.tmp 5) (.tmp 6) 37 139 i0 _ 64 rfl Tryz.underlying37 hi hz0 hz1 hz2 rfl (by decide) (by decide) w.heap.size (.slice (some ⟨w.heap.size, 0, none⟩) 0 0) 0 [] rfl hown (some a) l.length c l rfl hS1 rfl (by omega) hs1 ?_
    intro A2 c2 w2 hc2 hm2 hown2 hg2
    have hq2 : Q w w2 := q_grown hq1 (Nat.le_refl _) hown hg2
    rw [Nat.zero_add] at hown2
    have hfin : ClonedRows 5 WrapV.cells l w (.returned (.slice A2 l.length c2)) w2 := ⟨A2, c2, rfl, by omega, hm2, rows_from wrp_len hown2 rfl, hq2⟩
    have HF := Lib.hid hfin
    clear hfin hown2 hg2 hq2
    go_wp2_with fail
    go_ret
    exact HF.out


def itAct (a : ActR) : ItemR := ⟨0, a, claim0, ballot0, dec0⟩
def itDec (d : DecR) : ItemR := ⟨3, act0, claim0, ballot0, d⟩
set_option maxRecDepth 100000 in
theorem build_act (a : ActR) (w : World) : (Instr.build 49 #[(0, .int .i64 0), (1, .agg (actA a))]).run Tryz.prog w = .ok (.agg (itA (itAct a))) w := by kernel_rfl
set_option maxRecDepth 100000 in
theorem build_dec (d : DecR) (w : World) : (Instr.build 49 #[(0, .int .i64 3), (4, .agg (decA d))]).run Tryz.prog w = .ok (.agg (itA (itDec d))) w := by kernel_rfl
/-- The same but for where its lists lie. -/
def ActR.to' (a : ActR) (A : Option Addr) (c : Nat) : ActR := { a with toA := A, toC := c }
def ActR.wr' (a : ActR) (A : Option Addr) (c : Nat) : ActR := { a with wrA := A, wrC := c }
def DecR.to' (d : DecR) (A : Option Addr) (c : Nat) : DecR := { d with toA := A, toC := c }
theorem to_cells (a : ActR) (A : Option Addr) (c : Nat) : splice a.cells 9 [.slice A a.to.length c] = (ActR.to' a A c).cells := rfl
theorem wr_cells (a : ActR) (A : Option Addr) (c : Nat) : splice a.cells 15 [.slice A a.wraps.length c] = (ActR.wr' a A c).cells := rfl
theorem dto_cells (d : DecR) (A : Option Addr) (c : Nat) : splice d.cells 6 [.slice A d.to.length c] = (DecR.to' d A c).cells := rfl
/-- What OfAct hands back. -/
def OfActIs (a : ActR) (w : World) (e : Ending) (w' : World) : Prop := ∃ a' : ActR, e = .returned (.agg (itA (itAct a'))) ∧ (∀ b : ActR, a'.same b = a.same b) ∧ ItemIn w' (itAct a') ∧ Q w w'
def OfDecIs (d : DecR) (w : World) (e : Ending) (w' : World) : Prop := ∃ d' : DecR, e = .returned (.agg (itA (itDec d'))) ∧ (∀ b : DecR, d'.same b = d.same b) ∧ ItemIn w' (itDec d') ∧ Q w w'

set_option maxRecDepth 100000 in
set_option maxHeartbeats 2000000 in
theorem ofDec_any (d : DecR) (w : World) (hD : DecIn w d) (hl : d.to.length ≤ 1000000) : Calls Tryz.prog 41 #[.agg (decA d)] w (OfDecIs d w) := by
  have hb1 := Blk.new w 47 (decA d)
  have hq1 := q_new w (decA d) 47
  have hbr := Blk.new' (g := w.heap.size + 1) (w.alloc (.cells (decA d) 47)) 49 (itA item0) (by simp)
  have hq2 := q_new (w.alloc (.cells (decA d) 47)) (itA item0) 49
  have hb1 := hb1.q hq2
  have hq := Q.trans hq1 hq2
  obtain ⟨w2, hw2⟩ : ∃ w2, w2 = (w.alloc (.cells (decA d) 47)).alloc (.cells (itA item0) 49) := ⟨_, rfl⟩
  rw [← hw2] at hb1 hbr hq
  have hcl := fun y : Wd w2 => cloneS_any d.toA d.toC d.to y.w (rows_strs (hD.to.q (Q.trans hq y.q))) hl
  have cT : ∀ y : Wd w2, y.w.cell? ⟨w.heap.size, 6, none⟩ = some (.slice d.toA d.to.length d.toC) := fun y => (y.blk hb1).cell 6
  have hB1 : ∀ y : Wd w2, Blk y.w w.heap.size 47 d.cells.toArray := fun y => y.blk hb1
  have hBr : ∀ y : Wd w2, Blk y.w (w.heap.size + 1) 49 item0.cells.toArray := fun y => y.blk hbr
  have hfz : ∀ y : Wd w2, y.w.frozen? ⟨w.heap.size, 6, none⟩ = false := fun y => (hB1 y).frozen 6
  obtain ⟨u, hu⟩ : ∃ u : Wd w2, u.w = w2 := ⟨⟨w2, Q.refl _⟩, rfl⟩
  have HX := Lib.hid (hu.trans hw2)
  have HQ := Lib.hid hq
  have hws : w2.heap.size = w.heap.size + 1 + 1 := by rw [hw2]; simp
  clear hu hw2 hq1 hq2 hq hb1 hbr
  go_enter Tryz.func41, Tryz.ntmps41
  go_upto_region 1 with (fail)
  refine (show Code.wp _ _ _ _ u.w → Code.wp _ _ _ _ _ from fun h => by rw [HX.out] at h; exact h) ?_
  go_upto_region 2 with (go_at_call 104; refine (hcl _).mono ?_; rintro e w' ⟨TA, tc, rfl, ht1, ht2, htR, hq3⟩; obtain ⟨y, rfl⟩ := Wd.next _ hq3; clear hq3)
  have hus := u.q.size
  have hW0 := Blk.setCells [.slice TA d.to.length tc] 6 _ y.w (hB1 y) (show 7 ≤ 12 by decide)
  rw [dto_cells] at hW0
  have hfar0 := fun b (hne : b ≠ w.heap.size) => setCells_far (g := w.heap.size) hne [.slice TA d.to.length tc] 6 y.w
  have hbel0 := fun (B : Nat) (w0 : World) (hB : B ≤ w.heap.size) (hw : Below B w0 y.w) => below_setCells hB [.slice TA d.to.length tc] 6 w0 y.w hw
  obtain ⟨W, hWe⟩ : ∃ W, y.w.setCell ⟨w.heap.size, 6, none⟩ (.slice TA d.to.length tc) = W := ⟨_, rfl⟩
  have hWe2 : y.w.setCells w.heap.size 6 [.slice TA d.to.length tc] = W := hWe
  rw [hWe2] at hW0 hfar0 hbel0
  rw [hWe]
  have hqW : Q w W := hbel0 _ _ (Nat.le_refl _) (Q.trans HQ.out y.q)
  have htW := htR.far (w' := W) (fun b hb => hfar0 b (by omega))
  have hBrW : Blk W (w.heap.size + 1) 49 item0.cells.toArray := (hfar0 _ (by omega)).trans (hBr y)
  have hLd := Wd.load (P := Tryz.prog) (ty := 47) hW0.lt (Blk.range hW0) Tryz.underlying47 rfl (by kernel_rfl) ⟨W, Q.refl W⟩
  have HQW := Lib.hid hqW
  clear hWe hWe2 hW0 hfar0 hbel0 htR hB1 hBr hfz cT hcl hqW
  go_upto_region 2 with (fail)
  refine wp_region_lit ?_
  refine wpList_load_run 47 (.tmp 1) (.pointer (some ⟨w.heap.size, 0, none⟩)) (.agg (decA (DecR.to' d TA tc))) rfl rfl rfl hLd ?_
  dsimp only [Act.put]
  simp only [List.setIfInBounds_toArray, List.set_cons_succ, List.set_cons_zero]
  refine wpList_build_run 49 _ #[(0, .int .i64 3), (4, .agg (decA (DecR.to' d TA tc)))] (.agg (itA (itDec (DecR.to' d TA tc)))) rfl rfl (by simp only [List.map_toArray, List.map_cons, List.map_nil]; rfl) (build_dec _ _) ?_
  dsimp only [Act.put]
  simp only [List.setIfInBounds_toArray, List.set_cons_succ, List.set_cons_zero]
  refine wpList_store_far hBrW rfl 49 (.tmp 2) (.tmp 8) (itDec (DecR.to' d TA tc)).cells rfl rfl rfl (by kernel_rfl) (it_all _) (Nat.le_refl 49) ?_
  intro W3 hW3 hbel3 hfar3
  rw [splice_all _ _ (by rfl)] at hW3
  have hq3 : Q w W3 := hbel3 _ _ (Nat.le_succ _) HQW.out
  have ht3 := htW.far (w' := W3) (fun b hb => hfar3 b (by omega))
  have hin : ItemIn W3 (itDec (DecR.to' d TA tc)) := ⟨act0_in W3, ⟨strs_of ht3.rows, ⟨ht1, ht2⟩⟩⟩
  have hfin : OfDecIs d w (.returned (.agg (itA (itDec (DecR.to' d TA tc))))) W3 := ⟨_, rfl, fun b => rfl, hin, hq3⟩
  have HF := Lib.hid hfin
  clear hbel3 hfar3 hLd htW ht3 hin hfin hq3
  go_wp2_with fail
  exact bodyPost_ret (results_cell_row rfl _ _ (w.heap.size + 1) 49 (itA (itDec (DecR.to' d TA tc))) (0, 0) _ rfl hW3 Tryz.underlying49 rfl (by kernel_rfl)) rfl HF.out

set_option maxRecDepth 100000 in
set_option maxHeartbeats 2000000 in
theorem ofAct_any (a : ActR) (w : World) (hD : ActIn w a) (hl : a.to.length ≤ 1000000) (hl2 : a.wraps.length ≤ 1000000) : Calls Tryz.prog 40 #[.agg (actA a)] w (OfActIs a w) := by
  have hb1 := Blk.new w 41 (actA a)
  have hq1 := q_new w (actA a) 41
  have hbr := Blk.new' (g := w.heap.size + 1) (w.alloc (.cells (actA a) 41)) 49 (itA item0) (by simp)
  have hq2 := q_new (w.alloc (.cells (actA a) 41)) (itA item0) 49
  have hb1 := hb1.q hq2
  have hq := Q.trans hq1 hq2
  obtain ⟨w2, hw2⟩ : ∃ w2, w2 = (w.alloc (.cells (actA a) 41)).alloc (.cells (itA item0) 49) := ⟨_, rfl⟩
  rw [← hw2] at hb1 hbr hq
  have hcl := fun y : Wd w2 => cloneS_any a.toA a.toC a.to y.w (rows_strs (hD.to.q (Q.trans hq y.q))) hl
  have cT : ∀ y : Wd w2, y.w.cell? ⟨w.heap.size, 9, none⟩ = some (.slice a.toA a.to.length a.toC) := fun y => (y.blk hb1).cell 9
  have hB1 : ∀ y : Wd w2, Blk y.w w.heap.size 41 a.cells.toArray := fun y => y.blk hb1
  have hBr : ∀ y : Wd w2, Blk y.w (w.heap.size + 1) 49 item0.cells.toArray := fun y => y.blk hbr
  have hfz : ∀ y : Wd w2, y.w.frozen? ⟨w.heap.size, 9, none⟩ = false := fun y => (hB1 y).frozen 9
  obtain ⟨u, hu⟩ : ∃ u : Wd w2, u.w = w2 := ⟨⟨w2, Q.refl _⟩, rfl⟩
  have HX := Lib.hid (hu.trans hw2)
  have HQ := Lib.hid hq
  have hws : w2.heap.size = w.heap.size + 1 + 1 := by rw [hw2]; simp
  clear hu hw2 hq1 hq2 hq hb1 hbr
  go_enter Tryz.func40, Tryz.ntmps40
  go_upto_region 1 with (fail)
  refine (show Code.wp _ _ _ _ u.w → Code.wp _ _ _ _ _ from fun h => by rw [HX.out] at h; exact h) ?_
  go_upto_region 2 with (go_at_call 104; refine (hcl _).mono ?_; rintro e w' ⟨TA, tc, rfl, ht1, ht2, htR, hq3⟩; obtain ⟨y, rfl⟩ := Wd.next _ hq3; clear hq3)
  have hus := u.q.size
  have hW0 := Blk.setCells [.slice TA a.to.length tc] 9 _ y.w (hB1 y) (show 10 ≤ 20 by decide)
  rw [to_cells] at hW0
  have hfar0 := fun b (hne : b ≠ w.heap.size) => setCells_far (g := w.heap.size) hne [.slice TA a.to.length tc] 9 y.w
  have hbel0 := fun (B : Nat) (w0 : World) (hB : B ≤ w.heap.size) (hw : Below B w0 y.w) => below_setCells hB [.slice TA a.to.length tc] 9 w0 y.w hw
  obtain ⟨W, hWe⟩ : ∃ W, y.w.setCell ⟨w.heap.size, 9, none⟩ (.slice TA a.to.length tc) = W := ⟨_, rfl⟩
  have hWe2 : y.w.setCells w.heap.size 9 [.slice TA a.to.length tc] = W := hWe
  rw [hWe2] at hW0 hfar0 hbel0
  rw [hWe]
  have hqW : Q w W := hbel0 _ _ (Nat.le_refl _) (Q.trans HQ.out y.q)
  have htW := htR.far (w' := W) (fun b hb => hfar0 b (by omega))
  have hBrW : Blk W (w.heap.size + 1) 49 item0.cells.toArray := (hfar0 _ (by omega)).trans (hBr y)
  have hWs : w.heap.size + 1 + 1 ≤ W.heap.size := Nat.le_trans (by have := y.q.size; omega) (hbel0 0 y.w (Nat.zero_le _) (Below.refl _ _)).size
  have HQW := Lib.hid hqW
  have hcl2 := fun y : Wd W => cloneW_any a.wrA a.wrC a.wraps y.w (rows_wrs (hD.wraps.q (Q.trans HQW.out y.q))) hl2
  have cT2 : ∀ y : Wd W, y.w.cell? ⟨w.heap.size, 15, none⟩ = some (.slice a.wrA a.wraps.length a.wrC) := fun y => (y.blk hW0).cell 15
  have hB2 : ∀ y : Wd W, Blk y.w w.heap.size 41 (ActR.to' a TA tc).cells.toArray := fun y => y.blk hW0
  have hBr2 : ∀ y : Wd W, Blk y.w (w.heap.size + 1) 49 item0.cells.toArray := fun y => y.blk hBrW
  have hfz2 : ∀ y : Wd W, y.w.frozen? ⟨w.heap.size, 15, none⟩ = false := fun y => (hB2 y).frozen 15
  have htW2 : ∀ z : Wd W, RowsFrom (w.heap.size + 1 + 1) z.w TA 1 strC a.to := fun z h0 => by
    obtain ⟨b, o, e, h1, h2, h3⟩ := htW.q z.q h0
    exact ⟨b, o, e, by omega, h2, h3⟩
  obtain ⟨v, hv⟩ := Wd.first W
  rw [hv]
  clear hv hWe hWe2 hW0 hfar0 hbel0 htR hB1 hBr hfz cT hcl hqW htW hBrW
  go_upto_region 3 with (go_at_call 105; refine (hcl2 _).mono ?_; rintro e w' ⟨WA, wc, rfl, hr1, hr2, hrR, hq3⟩; obtain ⟨z, rfl⟩ := Wd.next _ hq3; clear hq3)
  have hvs := v.q.size
  have hZ0 := Blk.setCells [.slice WA a.wraps.length wc] 15 _ z.w (hB2 z) (show 16 ≤ 20 by decide)
  rw [show splice (ActR.to' a TA tc).cells 15 [.slice WA a.wraps.length wc] = (ActR.wr' (ActR.to' a TA tc) WA wc).cells from wr_cells (ActR.to' a TA tc) WA wc] at hZ0
  have hfarz := fun b (hne : b ≠ w.heap.size) => setCells_far (g := w.heap.size) hne [.slice WA a.wraps.length wc] 15 z.w
  have hbelz := fun (B : Nat) (w0 : World) (hB : B ≤ w.heap.size) (hw : Below B w0 z.w) => below_setCells hB [.slice WA a.wraps.length wc] 15 w0 z.w hw
  obtain ⟨Z, hZe⟩ : ∃ Z, z.w.setCell ⟨w.heap.size, 15, none⟩ (.slice WA a.wraps.length wc) = Z := ⟨_, rfl⟩
  have hZe2 : z.w.setCells w.heap.size 15 [.slice WA a.wraps.length wc] = Z := hZe
  rw [hZe2] at hZ0 hfarz hbelz
  rw [hZe]
  have hqZ : Q w Z := hbelz _ _ (Nat.le_refl _) (Q.trans HQW.out z.q)
  have htZ := (htW2 z).far (w' := Z) (fun b hb => hfarz b (by omega))
  have hrZ := hrR.far (w' := Z) (fun b hb => hfarz b (by omega))
  have hBrZ : Blk Z (w.heap.size + 1) 49 item0.cells.toArray := (hfarz _ (by omega)).trans (hBr2 z)
  have hLd := Wd.load (P := Tryz.prog) (ty := 41) hZ0.lt (Blk.range hZ0) Tryz.underlying41 rfl (by kernel_rfl) ⟨Z, Q.refl Z⟩
  have HQZ := Lib.hid hqZ
  obtain ⟨a2, ha2⟩ : ∃ a2, a2 = ActR.wr' (ActR.to' a TA tc) WA wc := ⟨_, rfl⟩
  rw [← ha2] at hLd
  have hLd : (Instr.loadAt 41 (.pointer (some ⟨w.heap.size, 0, none⟩))).run Tryz.prog Z = .ok (.agg (actA a2)) Z := hLd
  have HA := Lib.hid ha2
  clear hZe hZe2 hZ0 hfarz hbelz hrR hB2 hBr2 hfz2 cT2 hcl2 hqZ htW2 ha2
  go_upto_region 3 with (fail)
  refine wp_region_lit ?_
  refine wpList_load_run 41 (.tmp 1) (.pointer (some ⟨w.heap.size, 0, none⟩)) (.agg (actA a2)) rfl rfl rfl hLd ?_
  dsimp only [Act.put]
  simp only [List.setIfInBounds_toArray, List.set_cons_succ, List.set_cons_zero]
  refine wpList_build_run 49 _ #[(0, .int .i64 0), (1, .agg (actA a2))] (.agg (itA (itAct a2))) rfl rfl (by simp only [List.map_toArray, List.map_cons, List.map_nil]; rfl) (build_act _ _) ?_
  dsimp only [Act.put]
  simp only [List.setIfInBounds_toArray, List.set_cons_succ, List.set_cons_zero]
  refine wpList_store_far hBrZ rfl 49 (.tmp 2) (.tmp 12) (itAct a2).cells rfl rfl rfl (by kernel_rfl) (it_all _) (Nat.le_refl 49) ?_
  intro W3 hW3 hbel3 hfar3
  rw [splice_all _ _ (by rfl)] at hW3
  have hq3 : Q w W3 := hbel3 _ _ (Nat.le_succ _) HQZ.out
  have ht3 := htZ.far (w' := W3) (fun b hb => hfar3 b (by omega))
  have hr3 := hrZ.far (w' := W3) (fun b hb => hfar3 b (by omega))
  have hin : ItemIn W3 (itAct a2) := by
    rw [HA.out]
    exact ⟨⟨strs_of ht3.rows, wrs_of hr3.rows, ⟨ht1, ht2⟩, ⟨hr1, hr2⟩⟩, dec0_in W3⟩
  have hfin : OfActIs a w (.returned (.agg (itA (itAct a2)))) W3 := ⟨_, rfl, fun b => by rw [HA.out]; rfl, hin, hq3⟩
  have HF := Lib.hid hfin
  clear hbel3 hfar3 hLd ht3 hr3 htZ hrZ hin hfin hq3
  go_wp2_with fail
  exact bodyPost_ret (results_cell_row rfl _ _ (w.heap.size + 1) 49 (itA (itAct a2)) (0, 0) _ rfl hW3 Tryz.underlying49 rfl (by kernel_rfl)) rfl HF.out

end Go.Proofs.YtpdalnojimgjbaaGreatDoor.Known

namespace Go.Proofs.YtpdalnojimgjbaaGreatDoor.Known
open Go.RowKit Grp Mem _root_.Go.Proofs.YtpdalnojimgjbaaGreatDoor.Code Sha Sign _root_.Go.Proofs.YtpdalnojimgjbaaGreatDoor.Item

/-! ### The order of pick -/
theorem cmpS_neg (a b : ByteArray) : cmpS a b < 0 ↔ lessB a b = true := by
  unfold cmpS
  by_cases h : lessB a b = true
  · simp [h]
  · by_cases h2 : lessB b a = true <;> simp [h, h2]
theorem cmpI_neg (a b : Int) : Lib.compareInt a b < 0 ↔ a < b := by
  unfold Lib.compareInt
  (repeat' split) <;> omega
theorem cmpI_zero (a b : Int) : Lib.compareInt a b = 0 ↔ a = b := by
  unfold Lib.compareInt
  (repeat' split) <;> omega
theorem lt_iff {α : Type} (x y : Found α) : ltOf cmpF x y = true ↔ x.rank < y.rank ∨ (x.rank = y.rank ∧ lessB x.dig y.dig = true) := by
  unfold ltOf cmpF orI
  rw [decide_eq_true_eq]
  by_cases h : Lib.compareInt x.rank y.rank = 0
  · rw [if_pos h, cmpS_neg]
    have := (cmpI_zero _ _).1 h
    constructor
    · intro h2; exact .inr ⟨this, h2⟩
    · rintro (h2 | h2)
      · omega
      · exact h2.2
  · rw [if_neg h, cmpI_neg]
    have : x.rank ≠ y.rank := fun e => h ((cmpI_zero _ _).2 e)
    constructor
    · intro h2; exact .inl h2
    · rintro (h2 | h2)
      · exact h2
      · exact absurd h2.1 this
theorem lt_false {α : Type} (x y : Found α) : ltOf cmpF x y = false ↔ ¬ (x.rank < y.rank ∨ (x.rank = y.rank ∧ lessB x.dig y.dig = true)) := by
  rw [← lt_iff]
  simp
theorem swo_cmp {α : Type} [Inhabited α] : Go.Sort.SWO (ltOf (α := Found α) cmpF) := by
  refine ⟨fun x => ?_, fun x y z h1 h2 => ?_, fun x y z h1 h2 => ?_⟩
  · rw [lt_false, lessB_irrefl]
    simp
  · rw [lt_iff] at h1 h2 ⊢
    rcases h1 with h1 | ⟨h1, h1'⟩ <;> rcases h2 with h2 | ⟨h2, h2'⟩
    · exact .inl (by omega)
    · exact .inl (by omega)
    · exact .inl (by omega)
    · exact .inr ⟨by omega, lessB_trans h1' h2'⟩
  · rw [lt_false] at h1 h2 ⊢
    rintro (h | ⟨h, h'⟩)
    · by_cases h3 : x.rank < y.rank
      · exact h1 (.inl h3)
      · exact h2 (.inl (by omega))
    · by_cases h3 : x.rank < y.rank
      · exact h1 (.inl h3)
      by_cases h4 : y.rank < z.rank
      · exact h2 (.inl h4)
      have e1 : x.rank = y.rank := by omega
      have e2 : y.rank = z.rank := by omega
      have n1 : lessB x.dig y.dig = false := by
        cases hh : lessB x.dig y.dig
        · rfl
        · exact absurd (.inr ⟨e1, hh⟩) h1
      have n2 : lessB y.dig z.dig = false := by
        cases hh : lessB y.dig z.dig
        · rfl
        · exact absurd (.inr ⟨e2, hh⟩) h2
      rcases lessB_three x.dig y.dig with h5 | h5 | h5
      · rw [n1] at h5; cases h5
      · rw [h5] at h'; rw [n2] at h'; cases h'
      · have := lessB_trans h5 h'
        rw [n2] at this
        cases this
def sortL {α : Type} [Inhabited α] (l : List (Found α)) : List (Found α) := (sortA l.toArray).toList
theorem sortL_perm {α : Type} [Inhabited α] (l : List (Found α)) : (sortL l).Perm l := by
  have h := (Go.Sort.insertionSort_holds (lt := ltOf (α := Found α) cmpF) swo_cmp l.toArray 0 l.toArray.size (Nat.zero_le _) (Nat.le_refl _)).1
  obtain ⟨h1, _, h3⟩ := h
  have e : ∀ (d : Array (Found α)) (n : Nat), d.size = n → d.extract 0 n = d := by
    intro d n h
    subst h
    simp
  rw [e _ _ h1] at h3
  simpa [sortL, sortA] using h3
theorem sortL_asc {α : Type} [Inhabited α] (l : List (Found α)) (i j : Nat) (hij : i < j) (hj : j < (sortL l).length) : ((sortL l)[i]'(by omega)).rank ≤ (sortL l)[j].rank := by
  have h := (Go.Sort.insertionSort_holds (lt := ltOf (α := Found α) cmpF) swo_cmp l.toArray 0 l.toArray.size (Nat.zero_le _) (Nat.le_refl _)).2
  have hl : (sortL l).length = l.length := (sortL_perm l).length_eq
  have h2 := h i j (Nat.zero_le _) hij (by simp; omega)
  rw [lt_false] at h2
  have hs : (sortA l.toArray).size = l.length := by rw [← Array.length_toList]; exact hl
  have e1 : ∀ (m : Nat) (hm : m < (sortL l).length), (sortL l)[m] = (Go.Sort.insertionSort (ltOf cmpF) l.toArray 0 l.toArray.size)[m]! := by
    intro m hm
    have h9 : (sortA l.toArray)[m]! = (sortA l.toArray)[m]'(by omega) := getElem!_pos (sortA l.toArray) m (by omega)
    exact Eq.trans rfl h9.symm
  rw [e1, e1]
  omega

/-! ### One item with a digest -/
theorem count_one {L : List ItemR} {p : ItemR → Bool} {it : ItemR} (hA : Asc (digs L)) (hm : it ∈ L) (hp : p it = true) (hu : ∀ x ∈ L, p x = true → digOf x = digOf it) : L.countP p = 1 := by
  induction L with
  | nil => cases hm
  | cons a L ih =>
    obtain ⟨h1, h2⟩ := List.pairwise_cons.1 hA
    have hne : ∀ x ∈ L, digOf x ≠ digOf a := fun x hx e => by
      have := h1 (digOf x) (List.mem_map.2 ⟨x, hx, rfl⟩)
      rw [e, lessB_irrefl] at this
      cases this
    rw [List.countP_cons]
    rcases List.mem_cons.1 hm with rfl | hm
    · have h0 : L.countP p = 0 := by
        rw [List.countP_eq_zero]
        intro x hx hpx
        exact hne x hx (hu x (List.mem_cons_of_mem _ hx) hpx)
      rw [h0, hp]
      rfl
    · have ha : p a = false := by
        cases hpa : p a
        · rfl
        · exact absurd (hu a (List.mem_cons_self ..) hpa).symm (hne it hm)
      rw [ih h2 hm (fun x hx => hu x (List.mem_cons_of_mem _ hx)), ha]
      rfl
theorem tup_inj {x y : WrapV} (h : WrapV.tup x = WrapV.tup y) : x = y := by
  cases x; cases y
  simp [WrapV.tup] at h
  simp [h]
theorem tups_inj : ∀ {l m : List WrapV}, l.map WrapV.tup = m.map WrapV.tup → l = m
  | [], [], _ => rfl
  | [], _ :: _, h => by simp at h
  | _ :: _, [], h => by simp at h
  | a :: l, b :: m, h => by
    rw [List.map_cons, List.map_cons, List.cons.injEq] at h
    rw [tup_inj h.1, tups_inj h.2]
theorem act_eq {a b : ActR} (h : a.same b = true) : b = ActR.wr' (ActR.to' a b.toA b.toC) b.wrA b.wrC := by
  obtain ⟨a1, a2, a3, a4, a5, a6, a7, a8, a9, a10, a11, a12, a13, a14, a15, a16, a17, a18, a19, a20, a21, a22, a23, a24⟩ := a
  obtain ⟨b1, b2, b3, b4, b5, b6, b7, b8, b9, b10, b11, b12, b13, b14, b15, b16, b17, b18, b19, b20, b21, b22, b23, b24⟩ := b
  simp only [ActR.same, conj, List.foldr_cons, List.foldr_nil, Bool.and_eq_true, decide_eq_true_eq, and_true] at h
  obtain ⟨rfl, rfl, rfl, rfl, rfl, rfl, rfl, rfl, rfl, rfl, rfl, rfl, rfl, rfl, rfl, hw, rfl, rfl, rfl, rfl⟩ := h
  have := tups_inj hw
  subst this
  rfl
theorem claim_eq {a b : ClaimV} (h : a.same b = true) : a = b := by
  cases a; cases b
  simp only [ClaimV.same, conj, List.foldr_cons, List.foldr_nil, Bool.and_eq_true, decide_eq_true_eq, and_true] at h
  simp [h]
theorem ballot_eq {a b : BallotV} (h : a.same b = true) : a = b := by
  cases a; cases b
  simp only [BallotV.same, conj, List.foldr_cons, List.foldr_nil, Bool.and_eq_true, decide_eq_true_eq, and_true] at h
  simp [h]
theorem dec_eq {a b : DecR} (h : a.same b = true) : b = DecR.to' a b.toA b.toC := by
  obtain ⟨a1, a2, a3, a4, a5, a6, a7, a8, a9, a10, a11, a12, a13, a14⟩ := a
  obtain ⟨b1, b2, b3, b4, b5, b6, b7, b8, b9, b10, b11, b12, b13, b14⟩ := b
  simp only [DecR.same, conj, List.foldr_cons, List.foldr_nil, Bool.and_eq_true, decide_eq_true_eq, and_true] at h
  obtain ⟨rfl, rfl, rfl, rfl, rfl, rfl, rfl, rfl, rfl, rfl, rfl, rfl⟩ := h
  rfl
theorem dig_addr (x : ItemR) (A B D : Option Addr) (i j k : Nat) : digOf ⟨x.kind, ActR.wr' (ActR.to' x.act A i) B j, x.claim, x.ballot, DecR.to' x.dec D k⟩ = digOf x := rfl
theorem same_dig {x y : ItemR} (h : x.same y = true) : digOf x = digOf y := by
  simp only [ItemR.same, conj, List.foldr_cons, List.foldr_nil, Bool.and_eq_true, decide_eq_true_eq, and_true] at h
  obtain ⟨h1, h2, h3, h4, h5⟩ := h
  rw [← dig_addr x y.act.toA y.act.wrA y.dec.toA y.act.toC y.act.wrC y.dec.toC]
  have e : y = ⟨x.kind, ActR.wr' (ActR.to' x.act y.act.toA y.act.toC) y.act.wrA y.act.wrC, x.claim, x.ballot, DecR.to' x.dec y.dec.toA y.dec.toC⟩ := by
    rw [← act_eq h2, ← dec_eq h5, h1, claim_eq h3, ballot_eq h4]
  rw [← e]

/-! ### What pick hands back of a filled set -/
theorem right_of {sv : List Int} {L : List ItemR} (hF : Filled sv L) {x : ItemR} (hx : x ∈ L) : itemRight x = true := by
  have := hF.all x hx
  unfold signedB at this
  rw [Bool.and_eq_true] at this
  exact this.1
theorem kinds_of {x : ItemR} (h : itemRight x = true) : x.kind = 0 ∨ x.kind = 1 ∨ x.kind = 2 ∨ x.kind = 3 := by
  unfold itemRight at h
  split at h
  · exact .inl (by assumption)
  split at h
  · exact .inr (.inl (by assumption))
  split at h
  · exact .inr (.inr (.inl (by assumption)))
  split at h
  · exact .inr (.inr (.inr (by assumption)))
  · cases h
theorem act_self (a : ActR) : a.same a = true := by simp [ActR.same, conj]
theorem claim_self (a : ClaimV) : a.same a = true := by simp [ClaimV.same, conj]
theorem ballot_self (a : BallotV) : a.same a = true := by simp [BallotV.same, conj]
theorem dec_self (a : DecR) : a.same a = true := by simp [DecR.same, conj]
theorem same_iff (x y : ItemR) : x.same y = true ↔ x.kind = y.kind ∧ x.act.same y.act = true ∧ x.claim.same y.claim = true ∧ x.ballot.same y.ballot = true ∧ x.dec.same y.dec = true := by
  simp only [ItemR.same, conj, List.foldr_cons, List.foldr_nil, Bool.and_eq_true, decide_eq_true_eq, and_true]
theorem act_comm {a b c : ActR} (h : a.same c = true) (k : b.same c = true) : a.same b = true := by
  have e1 := act_eq h
  simp only [ActR.same, conj, List.foldr_cons, List.foldr_nil, Bool.and_eq_true, decide_eq_true_eq, and_true] at h k ⊢
  refine ⟨?_, ?_, ?_, ?_, ?_, ?_, ?_, ?_, ?_, ?_, ?_, ?_, ?_, ?_, ?_, ?_, ?_, ?_, ?_, ?_⟩ <;> simp only [h, k]
theorem dec_comm {a b c : DecR} (h : a.same c = true) (k : b.same c = true) : a.same b = true := by
  simp only [DecR.same, conj, List.foldr_cons, List.foldr_nil, Bool.and_eq_true, decide_eq_true_eq, and_true] at h k ⊢
  refine ⟨?_, ?_, ?_, ?_, ?_, ?_, ?_, ?_, ?_, ?_, ?_, ?_⟩ <;> simp only [h, k]
theorem claim_comm {a b c : ClaimV} (h : a.same c = true) (k : b.same c = true) : a.same b = true := by
  rw [claim_eq h, claim_eq k]
  exact claim_self c
theorem ballot_comm {a b c : BallotV} (h : a.same c = true) (k : b.same c = true) : a.same b = true := by
  rw [ballot_eq h, ballot_eq k]
  exact ballot_self c
theorem right_act {x : ItemR} (h : itemRight x = true) (hk : x.kind = 0) : actRight x.act = true ∧ x.claim.same claim0 = true ∧ x.ballot.same ballot0 = true ∧ x.dec.same dec0 = true := by
  unfold itemRight at h
  rw [if_pos hk] at h
  simpa only [Bool.and_eq_true] using h
theorem right_claim {x : ItemR} (h : itemRight x = true) (hk : x.kind = 1) : claimRight x.claim = true ∧ x.act.same act0 = true ∧ x.ballot.same ballot0 = true ∧ x.dec.same dec0 = true := by
  unfold itemRight at h
  rw [if_neg (by omega), if_pos hk] at h
  simpa only [Bool.and_eq_true] using h
theorem right_ballot {x : ItemR} (h : itemRight x = true) (hk : x.kind = 2) : ballotRight x.ballot = true ∧ x.act.same act0 = true ∧ x.claim.same claim0 = true ∧ x.dec.same dec0 = true := by
  unfold itemRight at h
  rw [if_neg (by omega), if_neg (by omega), if_pos hk] at h
  simpa only [Bool.and_eq_true] using h
theorem right_dec {x : ItemR} (h : itemRight x = true) (hk : x.kind = 3) : decRight x.dec = true ∧ x.act.same act0 = true ∧ x.claim.same claim0 = true ∧ x.ballot.same ballot0 = true := by
  unfold itemRight at h
  rw [if_neg (by omega), if_neg (by omega), if_neg (by omega), if_pos hk] at h
  simpa only [Bool.and_eq_true] using h
/-- How many of what pick hands back are p. -/
theorem pick_count {α : Type} [Inhabited α] (L : List ItemR) (w : ItemR → Bool) (g : ItemR → Found α) (v : ItemR → α) (hv : ∀ x, (g x).val = v x) (hR : ∀ x ∈ L, itemRight x = true) (p : α → Bool) :
    ((sortL ((L.filter fun x => w x && itemRight x).map g)).map (·.val)).countP p = L.countP fun x => w x && p (v x) := by
  rw [((sortL_perm _).map _).countP_eq, List.map_map, List.countP_map, List.countP_filter]
  refine List.countP_congr fun x hx => ?_
  simp only [Function.comp, hv, hR x hx, Bool.and_true, Bool.and_eq_true]
  exact ⟨fun h => ⟨h.2, h.1⟩, fun h => ⟨h.2, h.1⟩⟩
theorem pick_mem {α : Type} [Inhabited α] {L : List ItemR} {w : ItemR → Bool} {g : ItemR → Found α} {a : Found α} (h : a ∈ sortL ((L.filter fun x => w x && itemRight x).map g)) : ∃ x ∈ L, w x = true ∧ itemRight x = true ∧ a = g x := by
  have := (sortL_perm _).mem_iff.1 h
  obtain ⟨x, hx, rfl⟩ := List.mem_map.1 this
  rw [List.mem_filter, Bool.and_eq_true] at hx
  exact ⟨x, hx.1, hx.2.1, hx.2.2, rfl⟩
end Go.Proofs.YtpdalnojimgjbaaGreatDoor.Known

namespace Go.Proofs.YtpdalnojimgjbaaGreatDoor.Known
open Go.RowKit Grp Mem _root_.Go.Proofs.YtpdalnojimgjbaaGreatDoor.Code Sha Sign _root_.Go.Proofs.YtpdalnojimgjbaaGreatDoor.Item

/-- What the walk asks of a list: one like the item; its ranks ascend from 0 on. -/
def lastR {α : Type} (r : α → Int) (l : List α) (j : Nat) : Int := ((l.take j).getLast?.map r).getD 0
theorem lastR_zero {α : Type} (r : α → Int) (l : List α) : lastR r l 0 = 0 := rfl
theorem lastR_step {α : Type} (r : α → Int) (l : List α) (j : Nat) (h : j < l.length) : lastR r l (j + 1) = r l[j] := by
  unfold lastR
  rw [List.take_succ_eq_append_getElem h, List.getLast?_concat]
  rfl
theorem lastR_le {α : Type} [Inhabited α] {r : α → Int} {M : List (Found α)} (hr : ∀ a ∈ M, a.rank = r a.val ∧ 0 ≤ a.rank) (hs : ∀ (i j : Nat) (hij : i < j) (hj : j < M.length), (M[i]'(by omega)).rank ≤ M[j].rank) (j : Nat) (hj : j < (M.map (·.val)).length) : lastR r (M.map (·.val)) j ≤ r (M.map (·.val))[j] := by
  have hj' : j < M.length := by simpa using hj
  have h1 := hr M[j] (List.getElem_mem hj')
  rw [List.getElem_map, ← h1.1]
  cases j with
  | zero => rw [lastR_zero]; exact h1.2
  | succ j =>
    rw [lastR_step r _ j (by simpa using (show j < M.length by omega)), List.getElem_map]
    have h2 := hr (M[j]'(by omega)) (List.getElem_mem _)
    rw [← h2.1]
    exact hs j (j + 1) (by omega) hj'
def cntK {α : Type} (p : α → Bool) (l : List α) (j : Nat) : Nat := (l.take j).countP p
theorem cntK_zero {α : Type} (p : α → Bool) (l : List α) : cntK p l 0 = 0 := rfl
theorem cntK_step {α : Type} (p : α → Bool) (l : List α) (j : Nat) (h : j < l.length) : cntK p l (j + 1) = cntK p l j + if p l[j] then 1 else 0 := by
  unfold cntK
  rw [List.take_succ_eq_append_getElem h, List.countP_append, List.countP_singleton]
theorem cntK_all {α : Type} (p : α → Bool) (l : List α) : cntK p l l.length = l.countP p := by
  unfold cntK
  rw [List.take_length]
theorem cntK_le {α : Type} (p : α → Bool) (l : List α) (j : Nat) : cntK p l j ≤ j := by
  unfold cntK
  have := List.countP_le_length (p := p) (l := l.take j)
  rw [List.length_take] at this
  omega

section
variable {sv : List Int} {L : List ItemR} {it : ItemR}
theorem partsA (hF : Filled sv L) (hit : it ∈ L) (hk : it.kind = 0) : (listAc it.act.author L).countP (fun a => (itAct a).same it) = 1 := by
  have hRi := right_of hF hit
  obtain ⟨_, r1, r2, r3⟩ := right_act hRi hk
  show ((sortL ((L.filter fun x => wantAc it.act.author x && itemRight x).map foundAc)).map (·.val)).countP _ = 1
  rw [pick_count L (wantAc it.act.author) foundAc (·.act) (fun _ => rfl) (fun x hx => right_of hF hx)]
  refine count_one hF.asc hit ?_ fun x hx hp => ?_
  · rw [Bool.and_eq_true]
    refine ⟨by simp [wantAc, hk], (same_iff _ _).2 ⟨hk.symm, act_self _, claim_comm (claim_self _) r1, ballot_comm (ballot_self _) r2, dec_comm (dec_self _) r3⟩⟩
  · rw [Bool.and_eq_true] at hp
    obtain ⟨hw, hs⟩ := hp
    have hkx : x.kind = 0 := by
      unfold wantAc at hw
      rw [Bool.and_eq_true, decide_eq_true_eq] at hw
      exact hw.1
    obtain ⟨_, x1, x2, x3⟩ := right_act (right_of hF hx) hkx
    obtain ⟨_, s1, _⟩ := (same_iff _ _).1 hs
    exact same_dig ((same_iff x it).2 ⟨hkx.trans hk.symm, s1, claim_comm x1 r1, ballot_comm x2 r2, dec_comm x3 r3⟩)
theorem partsC (hF : Filled sv L) (hit : it ∈ L) (hk : it.kind = 1) : (listCl it.claim.actor L).countP (fun a => a.same it.claim) = 1 := by
  have hRi := right_of hF hit
  obtain ⟨_, r1, r2, r3⟩ := right_claim hRi hk
  show ((sortL ((L.filter fun x => wantCl it.claim.actor x && itemRight x).map foundCl)).map (·.val)).countP _ = 1
  rw [pick_count L (wantCl it.claim.actor) foundCl (·.claim) (fun _ => rfl) (fun x hx => right_of hF hx)]
  refine count_one hF.asc hit ?_ fun x hx hp => ?_
  · rw [Bool.and_eq_true]
    exact ⟨by simp [wantCl, hk], claim_self _⟩
  · rw [Bool.and_eq_true] at hp
    obtain ⟨hw, hs⟩ := hp
    have hkx : x.kind = 1 := by
      unfold wantCl at hw
      rw [Bool.and_eq_true, decide_eq_true_eq] at hw
      exact hw.1
    obtain ⟨_, x1, x2, x3⟩ := right_claim (right_of hF hx) hkx
    exact same_dig ((same_iff x it).2 ⟨hkx.trans hk.symm, act_comm x1 r1, hs, ballot_comm x2 r2, dec_comm x3 r3⟩)
theorem partsB (hF : Filled sv L) (hit : it ∈ L) (hk : it.kind = 2) : (ballotsK it.ballot.actor it.ballot.gen L).countP (fun a => a.same it.ballot) = 1 := by
  have hRi := right_of hF hit
  obtain ⟨_, r1, r2, r3⟩ := right_ballot hRi hk
  show ((sortL ((L.filter fun x => wantB it.ballot.actor it.ballot.gen x && itemRight x).map foundB)).map (·.val)).countP _ = 1
  rw [pick_count L (wantB it.ballot.actor it.ballot.gen) foundB (·.ballot) (fun _ => rfl) (fun x hx => right_of hF hx)]
  refine count_one hF.asc hit ?_ fun x hx hp => ?_
  · rw [Bool.and_eq_true]
    exact ⟨by simp [wantB, hk], ballot_self _⟩
  · rw [Bool.and_eq_true] at hp
    obtain ⟨hw, hs⟩ := hp
    have hkx : x.kind = 2 := by
      unfold wantB at hw
      rw [Bool.and_eq_true, decide_eq_true_eq] at hw
      exact hw.1
    obtain ⟨_, x1, x2, x3⟩ := right_ballot (right_of hF hx) hkx
    exact same_dig ((same_iff x it).2 ⟨hkx.trans hk.symm, act_comm x1 r1, claim_comm x2 r2, hs, dec_comm x3 r3⟩)
theorem partsD (hF : Filled sv L) (hit : it ∈ L) (hk : it.kind = 3) : (listDe it.dec.server L).countP (fun a => (itDec a).same it) = 1 := by
  have hRi := right_of hF hit
  obtain ⟨_, r1, r2, r3⟩ := right_dec hRi hk
  show ((sortL ((L.filter fun x => wantDe it.dec.server x && itemRight x).map foundDe)).map (·.val)).countP _ = 1
  rw [pick_count L (wantDe it.dec.server) foundDe (·.dec) (fun _ => rfl) (fun x hx => right_of hF hx)]
  refine count_one hF.asc hit ?_ fun x hx hp => ?_
  · rw [Bool.and_eq_true]
    refine ⟨by simp [wantDe, hk], (same_iff _ _).2 ⟨hk.symm, act_comm (act_self _) r1, claim_comm (claim_self _) r2, ballot_comm (ballot_self _) r3, dec_self _⟩⟩
  · rw [Bool.and_eq_true] at hp
    obtain ⟨hw, hs⟩ := hp
    have hkx : x.kind = 3 := by
      unfold wantDe at hw
      rw [Bool.and_eq_true, decide_eq_true_eq] at hw
      exact hw.1
    obtain ⟨_, x1, x2, x3⟩ := right_dec (right_of hF hx) hkx
    obtain ⟨_, _, _, _, s1⟩ := (same_iff _ _).1 hs
    exact same_dig ((same_iff x it).2 ⟨hkx.trans hk.symm, act_comm x1 r1, claim_comm x2 r2, ballot_comm x3 r3, s1⟩)
theorem listDe_le (key : Int) (L : List ItemR) : (listDe key L).length ≤ L.length := by
  show ((sortL ((L.filter fun x => wantDe key x && itemRight x).map foundDe)).map (·.val)).length ≤ _
  rw [List.length_map, (sortL_perm _).length_eq, List.length_map]
  exact List.length_filter_le _ _
/-- Where an element of a list comes from. -/
theorem memA {key : ByteArray} {a : ActR} (h : a ∈ listAc key L) : ∃ x ∈ L, a = x.act ∧ itemRight x = true ∧ x.kind = 0 ∧ a.author = key := by
  obtain ⟨f, hf, rfl⟩ := List.mem_map.1 (show a ∈ (sortL ((L.filter fun x => wantAc key x && itemRight x).map foundAc)).map (·.val) from h)
  obtain ⟨x, hx, hw, hr, rfl⟩ := pick_mem hf
  unfold wantAc at hw
  rw [Bool.and_eq_true, decide_eq_true_eq, decide_eq_true_eq] at hw
  exact ⟨x, hx, rfl, hr, hw.1, hw.2⟩
theorem memD {key : Int} {a : DecR} (h : a ∈ listDe key L) : ∃ x ∈ L, a = x.dec ∧ itemRight x = true ∧ x.kind = 3 := by
  obtain ⟨f, hf, rfl⟩ := List.mem_map.1 (show a ∈ (sortL ((L.filter fun x => wantDe key x && itemRight x).map foundDe)).map (·.val) from h)
  obtain ⟨x, hx, hw, hr, rfl⟩ := pick_mem hf
  unfold wantDe at hw
  rw [Bool.and_eq_true, decide_eq_true_eq, decide_eq_true_eq] at hw
  exact ⟨x, hx, rfl, hr, hw.1⟩
theorem ascA (key : ByteArray) (j : Nat) (hj : j < (listAc key L).length) : lastR ActR.seq (listAc key L) j ≤ (listAc key L)[j].seq := by
  refine lastR_le (M := sortL ((L.filter fun x => wantAc key x && itemRight x).map foundAc)) (fun a ha => ?_) (sortL_asc _) j hj
  obtain ⟨x, hx, hw, hr, rfl⟩ := pick_mem ha
  unfold wantAc at hw
  rw [Bool.and_eq_true, decide_eq_true_eq] at hw
  exact ⟨rfl, (act_small (right_act hr hw.1).1).seq.1⟩
theorem dec_number {d : DecR} (h : decRight d = true) : 0 ≤ d.number := by
  unfold decRight withinB at h
  simp only [Bool.and_eq_true, decide_eq_true_eq] at h
  exact h.2.1.1
theorem ascD (key : Int) (j : Nat) (hj : j < (listDe key L).length) : lastR DecR.number (listDe key L) j ≤ (listDe key L)[j].number := by
  refine lastR_le (M := sortL ((L.filter fun x => wantDe key x && itemRight x).map foundDe)) (fun a ha => ?_) (sortL_asc _) j hj
  obtain ⟨x, hx, hw, hr, rfl⟩ := pick_mem ha
  unfold wantDe at hw
  rw [Bool.and_eq_true, decide_eq_true_eq] at hw
  exact ⟨rfl, dec_number (right_dec hr hw.1).1⟩
theorem dec_to {x : ItemR} (h : itemRight x = true) (hk : x.kind = 3) : x.dec.to.length ≤ 1000000 := (((small_right h (by omega)).dec (by omega) (by omega)).2.2.2.2.2)
theorem id_none (h : idB emptyT = true) : False := by
  revert h
  decide
theorem emptyA (h : it.act.same act0 = true) : listAc it.act.author L = [] := by
  rw [List.eq_nil_iff_forall_not_mem]
  intro a ha
  obtain ⟨x, hx, rfl, hr, hk, hau⟩ := memA ha
  have h1 := (right_act hr hk).1
  unfold actRight at h1
  rw [Bool.and_eq_true] at h1
  have h2 := act_eq h
  have h3 : it.act.author = emptyT := by
    simp only [ActR.same, conj, List.foldr_cons, List.foldr_nil, Bool.and_eq_true, decide_eq_true_eq, and_true] at h
    exact h.1
  rw [hau, h3] at h1
  exact id_none h1.1
theorem emptyC (h : it.claim.same claim0 = true) : listCl it.claim.actor L = [] := by
  rw [List.eq_nil_iff_forall_not_mem]
  intro a ha
  obtain ⟨f, hf, rfl⟩ := List.mem_map.1 (show a ∈ (sortL ((L.filter fun x => wantCl it.claim.actor x && itemRight x).map foundCl)).map (·.val) from ha)
  obtain ⟨x, hx, hw, hr, rfl⟩ := pick_mem hf
  unfold wantCl at hw
  rw [Bool.and_eq_true, decide_eq_true_eq, decide_eq_true_eq] at hw
  have h1 := (right_claim hr hw.1).1
  unfold claimRight at h1
  rw [Bool.and_eq_true] at h1
  rw [hw.2, claim_eq h] at h1
  exact id_none h1.1
theorem emptyB (h : it.ballot.same ballot0 = true) : ballotsK it.ballot.actor it.ballot.gen L = [] := by
  rw [List.eq_nil_iff_forall_not_mem]
  intro a ha
  obtain ⟨f, hf, rfl⟩ := List.mem_map.1 (show a ∈ (sortL ((L.filter fun x => wantB it.ballot.actor it.ballot.gen x && itemRight x).map foundB)).map (·.val) from ha)
  obtain ⟨x, hx, hw, hr, rfl⟩ := pick_mem hf
  unfold wantB at hw
  rw [Bool.and_eq_true, Bool.and_eq_true, decide_eq_true_eq, decide_eq_true_eq] at hw
  have h1 := (right_ballot hr hw.1).1
  unfold ballotRight at h1
  rw [Bool.and_eq_true, Bool.and_eq_true] at h1
  rw [hw.2.1, ballot_eq h] at h1
  exact id_none h1.2.1
end
end Go.Proofs.YtpdalnojimgjbaaGreatDoor.Known
