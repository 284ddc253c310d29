/-
  known.pick at claims.
  slices.SortStableFunc over what pick lays down, where it is sorted already: nothing is written (printed by gen_stab.py).
  known.pick and its callers over known sets whose wanted items are sorted already, at any number of items up to 1000 (printed by gen_picks.py).
  A region that draws its order inside a round of a range over a function: reads first, then a tail in the text's order. From the plain laws of regions.
  package ballot: the iterator over a known set's ballots, for a caller that collects.
  package ballot as plain data: voters, quorum, the claim that has won, the claim that a server votes for. No walk in this text.
  ballot.Voters.
  ballot.Quorum and ballot.Own.
  ballot.Won.
  item.SignBallot for ballots whose actor may be as long as any string that a law is given (printed by gen_itbig.py).
  Polls: the law's inputs of layer 18, and its helpers keyOf, digest, cast.
-/
import Derived.Test.YtflgkplneekpfaaGreatDoorPickSm
import Derived.StillTailTactics
import Derived.RangeFuncNested
import Derived.RangeFuncCalls
import Derived.OrdersIn
import Derived.OrdersHeld
import Derived.RegionTactic
import Derived.RangeFuncBound
import Derived.RangeFuncLeaves
import Derived.RangeFuncFrom
import Derived.RangeFuncBox
import Derived.Shelf.Abstract
import Derived.Shelf.RegionOpen
import Derived.WalkKit
import Derived.OwnWalkIn
import Derived.TacticsInMore
import Derived.LoopNIn
import Derived.LoopIn
import Derived.Test.YtflgkplneekpfaaGreatDoorKnownSpec
import Derived.Lib.SlicesCompact
import Derived.Test.YtflgkplneekpfaaGreatDoorShelfSortU
import Derived.Sort.OwnSortedInts
import Derived.Test.YtflgkplneekpfaaGreatDoorIt
set_option linter.unusedVariables false
set_option linter.unusedSimpArgs false
namespace Go.Proofs.YtflgkplneekpfaaGreatDoor.Known
open Go.RowKit Grp Mem _root_.Go.Proofs.YtflgkplneekpfaaGreatDoor.Code Sha Sign _root_.Go.Proofs.YtflgkplneekpfaaGreatDoor.Item

instance : Inhabited ClaimV := ⟨claim0⟩
abbrev fclC : Found ClaimV → List Value := Found.cells ClaimV.cells
theorem fcl_len (x : Found ClaimV) : (fclC x).length = 11 := rfl
theorem fcl_one (x : Found ClaimV) : ∀ v ∈ fclC x, v.oneCell' = true := by
  intro v hv
  simp only [fclC, Found.cells, ClaimV.cells, List.mem_cons, List.not_mem_nil, or_false] at hv
  rcases hv with rfl | rfl | rfl | rfl | rfl | rfl | rfl | rfl | rfl | rfl | rfl <;> rfl

set_option maxRecDepth 100000 in
set_option maxHeartbeats 1000000 in
/-- pick's comparison, at ballots: it lays blocks of its own alone. -/
theorem cmpCl_any (x y : Found ClaimV) (W : World) : Calls Tryz.prog 177 #[.agg (fclC x).toArray, .agg (fclC y).toArray] W fun e w' => e = .returned (.int .i64 (cmpF x y)) ∧ ∃ q os', w' = Go.Sort.grow (W.drewN q) os' := by
  have hci := fun W' => Tryz.cmp_Compare_int x.rank y.rank W'
  have hcs := fun W' => compareS_any x.dig y.dig W'
  have HR : Hid (cmpF x y = orI (Lib.compareInt x.rank y.rank) (cmpS x.dig y.dig)) := Lib.hid rfl
  generalize cmpF x y = r at HR ⊢
  have b1 := Blk.new W 208 (fclC x).toArray
  have b2 := Blk.new' (g := W.heap.size + 1) (W.alloc (.cells (fclC x).toArray 208)) 208 (fclC y).toArray (by simp)
  have b1 := b1.q (q_new (W.alloc (.cells (fclC x).toArray 208)) (fclC y).toArray 208)
  obtain ⟨W1, hW1⟩ : ∃ W1, W1 = (W.alloc (.cells (fclC x).toArray 208)).alloc (.cells (fclC y).toArray 208) := ⟨_, rfl⟩
  rw [← hW1] at b1 b2
  have c0 : ∀ n, (W1.drewN n).cell? ⟨W.heap.size, 0, none⟩ = some (.int .i64 x.rank) := fun n => b1.cell 0
  have c1 : ∀ n, (W1.drewN n).cell? ⟨W.heap.size, 1, none⟩ = some (.string x.dig) := fun n => b1.cell 1
  have c2 : ∀ n, (W1.drewN n).cell? ⟨W.heap.size + 1, 0, none⟩ = some (.int .i64 y.rank) := fun n => b2.cell 0
  have c3 : ∀ n, (W1.drewN n).cell? ⟨W.heap.size + 1, 1, none⟩ = some (.string y.dig) := fun n => b2.cell 1
  have HX := Lib.hid hW1
  clear hW1 b1 b2
  generalize Lib.compareInt x.rank y.rank = ri at *
  generalize cmpS x.dig y.dig = rs at *
  go_enter Tryz.func177, Tryz.ntmps177
  go_upto_region 1 with (fail)
  refine (show Code.wp _ _ _ _ W1 → Code.wp _ _ _ _ _ from fun h => by rw [HX.out] at h; exact h) ?_
  refine wp_region_open (C := fun w' => ∃ n, w' = W1.drewN n) 10 (by kernel_rfl) (by kernel_rfl) ⟨1, rfl⟩ ?_
  simp only [List.take_succ_cons, List.take_zero]
  repeat (quiet_step (first | (go_at_call 118; exact Calls.quiet_of_same (hci _)) | (go_at_call 119; exact Calls.quiet_of_same (hcs _))))
  refine wpQuiet_nil ?_
  rintro w' ⟨n, rfl⟩
  have hb := Blk.new (W1.drewN n) 3 #[.int .i64 ri, .int .i64 rs]
  have hor := or_any (W1.drewN n).heap.size 0 2 ri rs _ (hb.cell 0) (hb.cell 1)
  have HE : Hid (∃ q os', (W1.drewN n).alloc (.cells #[.int .i64 ri, .int .i64 rs] 3) = Go.Sort.grow (W.drewN q) os') := Lib.hid ⟨n, _, by rw [HX.out]; exact grow3 W n _ _ _⟩
  clear hb
  refine any_one 10 rfl (by kernel_rfl) rfl (fun K' hK' => ?_)
  go_simp
  refine hK' _ _ ?_
  clear hK' K'
  try simp only [Act.put, List.setIfInBounds_toArray, List.set_cons_succ, List.set_cons_zero]
  refine any_one 11 rfl (by kernel_rfl) rfl (fun K' hK' => ?_)
  go_simp
  refine hor.mono ?_
  rintro e w2 ⟨rfl, rfl⟩
  refine hK' _ _ ?_
  clear hK' K' hor
  try simp only [Act.put, List.setIfInBounds_toArray, List.set_cons_succ, List.set_cons_zero]
  rw [← HR.out]
  refine any_pure 12 (v := .int .i64 r) rfl (by kernel_rfl) (by kernel_rfl) (by kernel_rfl) (by intro c d v a w h; cases d <;> exact h) rfl (fun w => by rfl) ?_
  try simp only [Act.put, List.setIfInBounds_toArray, List.set_cons_succ, List.set_cons_zero]
  refine any_done (by kernel_rfl) ?_ _
  go_wp2_with fail
  go_ret
  exact ⟨rfl, HE.out⟩


set_option maxRecDepth 100000 in
set_option maxHeartbeats 1000000 in
theorem stableCl_lt (g cap : Nat) (d : Array (Found ClaimV)) (w : World) (hH : Go.Sort.HoldsK fclC 11 w g 0 d) (hg : g < w.heap.size) (hd : d.size < 20) :
    Calls Tryz.prog 176 #[.slice (some ⟨g, 0, none⟩) d.size cap, .func (.func 177) #[] #[]] w fun e w' => e = .returned (.tuple #[]) ∧ ∃ n os, w' = sortWorldK fclC 11 w g 0 n (sortA d) os := by
  have hins : Calls Tryz.prog 243 #[.slice (some ⟨g, 0, none⟩) d.size cap, .int .i64 (0 : Nat), .int .i64 (d.size : Nat), .func (.func 177) #[] #[]] w fun e w' => e = .returned (.tuple #[]) ∧ ∃ n os, w' = sortWorldK fclC 11 w g 0 n (sortA d) os :=
    AnyQ.insertionSortCmpFunc Tryz.insClaim 11 Tryz.isAgg208 Tryz.sizeOf208 fclC fcl_len fcl_one cmpF 177 #[] g 0 cap 0 d.size d w (enters_of Tryz.func177 (by kernel_rfl) rfl) (fun _ _ _ _ x y => cmpCl_any x y _) hH hg (Nat.zero_le _) (Nat.le_refl _) (by omega)
  have hst : Calls Tryz.prog 219 #[.slice (some ⟨g, 0, none⟩) d.size cap, .int .i64 (d.size : Nat), .func (.func 177) #[] #[]] w fun e w' => e = .returned (.tuple #[]) ∧ ∃ n os, w' = sortWorldK fclC 11 w g 0 n (sortA d) os := by
    clear hH
    generalize sortA d = r at hins ⊢
    go_enter Tryz.func219, Tryz.ntmps219
    go_wp2_with fail
    refine wp_loop_rounds 1 ?_
    rw [rounds_succ]
    go_wp2_with (go_at_call 243; refine hins.mono ?_; rintro e w' ⟨rfl, n, os, rfl⟩)
    refine wp_loop_rounds 1 ?_
    rw [rounds_succ]
    go_wp2_with fail
    go_end0
    exact ⟨rfl, n, os, rfl⟩
  clear hins hH
  generalize sortA d = r at hst ⊢
  go_enter Tryz.func176, Tryz.ntmps176
  go_wp2_with (go_at_call 219; refine hst.mono ?_; rintro e w' ⟨rfl, n, os, rfl⟩)
  go_end0
  exact ⟨rfl, n, os, rfl⟩

set_option maxRecDepth 100000 in
set_option maxHeartbeats 1000000 in
theorem insEndCl (A : Option Addr) (cap : Nat) (w : World) :
    Calls Tryz.prog 243 #[.slice A 20 cap, .int .i64 20, .int .i64 20, .func (.func 177) #[] #[]] w fun e w' => e = .returned (.tuple #[]) ∧ w' = w := by
  go_enter Tryz.func243, Tryz.ntmps243
  go_wp2_with fail
  refine wp_loop_rounds 1 ?_
  rw [rounds_succ]
  go_wp2_with fail
  go_end0
  exact ⟨rfl, rfl⟩

set_option maxRecDepth 100000 in
set_option maxHeartbeats 1000000 in
theorem stableCl_eq (g cap : Nat) (d : Array (Found ClaimV)) (w : World) (hH : Go.Sort.HoldsK fclC 11 w g 0 d) (hg : g < w.heap.size) (hd : d.size = 20) :
    Calls Tryz.prog 176 #[.slice (some ⟨g, 0, none⟩) d.size cap, .func (.func 177) #[] #[]] w fun e w' => e = .returned (.tuple #[]) ∧ ∃ n os, w' = sortWorldK fclC 11 w g 0 n (sortA d) os := by
  have hins : Calls Tryz.prog 243 #[.slice (some ⟨g, 0, none⟩) d.size cap, .int .i64 (0 : Nat), .int .i64 (d.size : Nat), .func (.func 177) #[] #[]] w fun e w' => e = .returned (.tuple #[]) ∧ ∃ n os, w' = sortWorldK fclC 11 w g 0 n (sortA d) os :=
    AnyQ.insertionSortCmpFunc Tryz.insClaim 11 Tryz.isAgg208 Tryz.sizeOf208 fclC fcl_len fcl_one cmpF 177 #[] g 0 cap 0 d.size d w (enters_of Tryz.func177 (by kernel_rfl) rfl) (fun _ _ _ _ x y => cmpCl_any x y _) hH hg (Nat.zero_le _) (Nat.le_refl _) (by omega)
  have hst : Calls Tryz.prog 219 #[.slice (some ⟨g, 0, none⟩) d.size cap, .int .i64 (d.size : Nat), .func (.func 177) #[] #[]] w fun e w' => e = .returned (.tuple #[]) ∧ ∃ n os, w' = sortWorldK fclC 11 w g 0 n (sortA d) os := by
    clear hH
    generalize sortA d = r at hins ⊢
    rw [hd, show ((20 : Nat) : Int) = 20 from rfl, show ((0 : Nat) : Int) = 0 from rfl] at hins
    rw [hd, show ((20 : Nat) : Int) = 20 from rfl]
    go_enter Tryz.func219, Tryz.ntmps219
    go_wp2_with fail
    refine wp_loop_rounds 2 ?_
    rw [rounds_succ]
    go_wp2_with (go_at_call 243; refine hins.mono ?_; rintro e w' ⟨rfl, n, os, rfl⟩)
    rw [rounds_succ]
    go_wp2_with (go_at_call 243; refine (insEndCl _ _ _).mono ?_; rintro e w' ⟨rfl, rfl⟩)
    refine wp_loop_rounds 1 ?_
    rw [rounds_succ]
    go_wp2_with fail
    go_end0
    exact ⟨rfl, n, os, rfl⟩
  clear hins hH
  generalize sortA d = r at hst ⊢
  have hd' : d.size ≤ 20 := by omega
  clear hd
  go_enter Tryz.func176, Tryz.ntmps176
  go_wp2_with (go_at_call 219; refine hst.mono ?_; rintro e w' ⟨rfl, n, os, rfl⟩)
  go_end0
  exact ⟨rfl, n, os, rfl⟩

theorem stableCl_any (g cap : Nat) (d : Array (Found ClaimV)) (w : World) (hH : Go.Sort.HoldsK fclC 11 w g 0 d) (hg : g < w.heap.size) (hd : d.size ≤ 20) :
    Calls Tryz.prog 176 #[.slice (some ⟨g, 0, none⟩) d.size cap, .func (.func 177) #[] #[]] w fun e w' => e = .returned (.tuple #[]) ∧ ∃ n os, w' = sortWorldK fclC 11 w g 0 n (sortA d) os := by
  rcases Nat.lt_or_eq_of_le hd with h | h
  · exact stableCl_lt g cap d w hH hg h
  · exact stableCl_eq g cap d w hH hg h

set_option maxRecDepth 100000 in
set_option maxHeartbeats 1000000 in
theorem stableCl_nil (w : World) :
    Calls Tryz.prog 176 #[.slice none 0 0, .func (.func 177) #[] #[]] w fun e w' => e = .returned (.tuple #[]) ∧ w' = w := by
  have hins : Calls Tryz.prog 243 #[.slice none 0 0, .int .i64 0, .int .i64 0, .func (.func 177) #[] #[]] w fun e w' => e = .returned (.tuple #[]) ∧ w' = w := by
    go_enter Tryz.func243, Tryz.ntmps243
    go_wp2_with fail
    refine wp_loop_rounds 1 ?_
    rw [rounds_succ]
    go_wp2_with fail
    go_end0
    exact ⟨rfl, rfl⟩
  have hst : Calls Tryz.prog 219 #[.slice none 0 0, .int .i64 0, .func (.func 177) #[] #[]] w fun e w' => e = .returned (.tuple #[]) ∧ w' = w := by
    go_enter Tryz.func219, Tryz.ntmps219
    go_wp2_with fail
    refine wp_loop_rounds 1 ?_
    rw [rounds_succ]
    go_wp2_with (go_at_call 243; refine hins.mono ?_; rintro e w' ⟨rfl, hw⟩; rw [hw])
    refine wp_loop_rounds 1 ?_
    rw [rounds_succ]
    go_wp2_with fail
    go_end0
    exact ⟨rfl, rfl⟩
  go_enter Tryz.func176, Tryz.ntmps176
  go_wp2_with (go_at_call 219; refine hst.mono ?_; rintro e w' ⟨rfl, hw⟩; rw [hw])
  go_end0
  exact ⟨rfl, rfl⟩

/-- Is an item wanted? -/
def wantCl (key : ByteArray) (x : ItemR) : Bool := decide (x.kind = 1) && decide (x.claim.actor = key)
structure WantFCl (w : World) (x : ItemR) (w' : World) : Prop where
  q : Q w w'
  it : Blk w' w.heap.size 50 x.cells.toArray
  r : ∃ cs : List Value, cs.length = 9 ∧ Blk w' (w.heap.size + 1) 37 cs.toArray
structure WantWCl (w0 : World) (x : ItemR) where
  w : World
  f : WantFCl w0 x w
set_option maxRecDepth 100000 in
set_option maxHeartbeats 2000000 in
theorem wantCl_any (p1 : Nat) (key : ByteArray) (x : ItemR) (w : World) (h1 : w.cell? ⟨p1, 0, none⟩ = some (.string key)) (hp1 : p1 < w.heap.size) :
    Calls Tryz.prog 106 #[.agg (itA x), .pointer (some ⟨p1, 0, none⟩)] w fun e w' => e = .returned (.tuple #[.agg (claimA x.claim), .int .i64 0, .bool (wantCl key x)]) ∧ Q w w' := by
  have hbi := Blk.new w 50 (itA x)
  have hq1 := q_new w (itA x) 50
  have hbr := Blk.new' (g := w.heap.size + 1) (w.alloc (.cells (itA x) 50)) 37 (claimA claim0) (by simp)
  have hq2 := q_new (w.alloc (.cells (itA x) 50)) (claimA claim0) 37
  have hbi := hbi.q hq2
  have hq := Q.trans hq1 hq2
  clear hq1 hq2
  obtain ⟨w2, hw2⟩ : ∃ w2, w2 = (w.alloc (.cells (itA x) 50)).alloc (.cells (claimA claim0) 37) := ⟨_, rfl⟩
  rw [← hw2] at hbi hbr hq
  have hw2s : w2.heap.size = w.heap.size + 1 + 1 := by rw [hw2]; simp
  have hLd : ∀ y : Wd w2, (Instr.loadAt 37 (.pointer (some ⟨w.heap.size, 21, none⟩))).run Tryz.prog y.w = .ok (.agg (claimA x.claim)) y.w := item_claim hbi.lt (Blk.range hbi)
  have HX := Lib.hid hw2
  clear hw2
  go_enter Tryz.func106, Tryz.ntmps106
  go_upto_region 1 with (fail)
  refine (show Code.wp _ _ _ _ w2 → Code.wp _ _ _ _ _ from fun h => by rw [HX.out] at h; exact h) ?_
  have hF : WantFCl w x w2 := ⟨hq, hbi, claim0.cells, rfl, hbr⟩
  clear hbr hq HX hw2s hLd
  have hFd : ∃ y : WantWCl w x, ({ w2 with drawn := w2.drawn + 1 } : World) = y.w := ⟨⟨_, ⟨hF.q.drew, hF.it, hF.r⟩⟩, rfl⟩
  have cK : ∀ y : WantWCl w x, y.w.cell? ⟨w.heap.size, 0, none⟩ = some (.int .i64 x.kind) := fun y => y.f.it.cell 0
  have cA : ∀ y : WantWCl w x, y.w.cell? ⟨w.heap.size, 21, none⟩ = some (.string x.claim.actor) := fun y => y.f.it.cell 21
  have c1 : ∀ y : WantWCl w x, y.w.cell? ⟨p1, 0, none⟩ = some (.string key) := fun y => (y.f.q.cell (p := ⟨p1, 0, none⟩) hp1).trans h1
  have hLb : ∀ z, (∃ y : WantWCl w x, z = y.w) → (Instr.loadAt 37 (.pointer (some ⟨w.heap.size, 21, none⟩))).run Tryz.prog z = .ok (.agg (claimA x.claim)) z := by
    rintro z ⟨y, rfl⟩
    exact item_claim (w1 := y.w) y.f.it.lt (Blk.range y.f.it) ⟨y.w, Q.refl _⟩
  have HR : Hid (wantCl key x = (decide (x.kind = 1) && decide (x.claim.actor = key))) := Lib.hid rfl
  haveI hNE : Nonempty (WantWCl w x) := ⟨⟨w2, hF⟩⟩
  clear hF h1 hbi
  by_cases hk : x.kind = 1
  · rw [decide_eq_true hk, Bool.true_and] at HR
    refine wp_region_reads (S := fun w' => ∃ y : WantWCl w x, w' = y.w) 12 (by kernel_rfl) (by kernel_rfl) (by intro c a d v w h; cases d <;> exact h) hFd ?_
    simp only [List.take_succ_cons, List.take_zero]
    go_big_quiet_step (fail)
    refine wpQuiet_load_S 37 (.tmp 6) (.pointer (some ⟨w.heap.size, 21, none⟩)) (.agg (claimA x.claim)) rfl rfl rfl hLb ?_
    dsimp only [Act.put]
    simp only [List.setIfInBounds_toArray, List.set_cons_succ, List.set_cons_zero]
    repeat (go_big_quiet_step (fail))
    refine wpQuiet_nil ?_
    rintro w' ⟨y, rfl⟩
    obtain ⟨cs, hcs, hbr⟩ := y.f.r
    refine held_one 12 rfl (by kernel_rfl) rfl (fun K' hK' => ?_)
    refine wp_store_mid 37 (.tmp 3) (.tmp 7) rfl (w.heap.size + 1) 0 (claimA x.claim) rfl rfl (show y.w.there (w.heap.size + 1) 0 9 by simpa using hbr.there (n := 9) (Nat.le_of_eq hcs.symm)) (by kernel_rfl) (claim_all _) ?_
    have hsc : Blk (y.w.setCells (w.heap.size + 1) 0 x.claim.cells) (w.heap.size + 1) 37 x.claim.cells.toArray := by
      have := Blk.setCells x.claim.cells 0 _ y.w hbr (Nat.le_of_eq (by rw [hcs]; rfl))
      rwa [splice_all _ _ (by rw [hcs]; rfl)] at this
    have hfar := fun b (hne : b ≠ w.heap.size + 1) => setCells_far (g := w.heap.size + 1) hne x.claim.cells 0 y.w
    have hqs : Q w (y.w.setCells (w.heap.size + 1) 0 x.claim.cells) := below_setCells (Nat.le_succ _) x.claim.cells 0 w y.w y.f.q
    have hFN : WantFCl w x (y.w.setCells (w.heap.size + 1) 0 x.claim.cells) := ⟨hqs, (hfar _ (by omega)).trans y.f.it, x.claim.cells, rfl, hsc⟩
    refine hK' _ _ ⟨⟨_, hFN⟩, rfl⟩ ?_
    clear hK' K' hbr hfar
    have HZ := Lib.hid hsc
    have HQ := Lib.hid hqs
    clear hsc hqs
    simp only [Act.put, List.setIfInBounds_toArray, List.set_cons_succ, List.set_cons_zero]
    refine held_pure 13 (v := .int .i64 0) rfl (by kernel_rfl) (by kernel_rfl) (by kernel_rfl) (by intro c a d v w h; cases d <;> exact h) rfl ⟨⟨_, hFN⟩, rfl⟩ (fun w => by rfl) ?_
    simp only [Act.put, List.setIfInBounds_toArray, List.set_cons_succ, List.set_cons_zero]
    refine held_pure 14 (v := .bool (x.claim.actor.toList == key.toList)) rfl (by kernel_rfl) (by kernel_rfl) (by kernel_rfl) (by intro c a d v w h; cases d <;> exact h) rfl ⟨⟨_, hFN⟩, rfl⟩ (fun w => by rfl) ?_
    simp only [Act.put, List.setIfInBounds_toArray, List.set_cons_succ, List.set_cons_zero]
    refine wpAnyH_done (by kernel_rfl) ?_ _
    go_wp2_with fail
    exact bodyPost_ret (results_row_tmp2 rfl _ _ (w.heap.size + 1) 37 (claimA x.claim) (0, 0) _ _ _ rfl rfl rfl HZ.out Tryz.underlying37 rfl (by kernel_rfl)) rfl ⟨by rw [HR.out, ← beq_str]; rfl, HQ.out⟩
  · rw [decide_eq_false hk, Bool.false_and] at HR
    have hkb : (x.kind == 1) = false := by simpa using hk
    refine wp_region_reads (S := fun w' => ∃ y : WantWCl w x, w' = y.w) 12 (by kernel_rfl) (by kernel_rfl) (by intro c a d v w h; cases d <;> exact h) hFd ?_
    simp only [List.take_succ_cons, List.take_zero]
    go_big_quiet_step (fail)
    refine wpQuiet_load_S 37 (.tmp 6) (.pointer (some ⟨w.heap.size, 21, none⟩)) (.agg (claimA x.claim)) rfl rfl rfl hLb ?_
    dsimp only [Act.put]
    simp only [List.setIfInBounds_toArray, List.set_cons_succ, List.set_cons_zero]
    repeat (go_big_quiet_step (fail))
    refine wpQuiet_nil ?_
    rintro w' ⟨y, rfl⟩
    obtain ⟨cs, hcs, hbr⟩ := y.f.r
    refine held_one 12 rfl (by kernel_rfl) rfl (fun K' hK' => ?_)
    refine wp_store_mid 37 (.tmp 3) (.tmp 7) rfl (w.heap.size + 1) 0 (claimA x.claim) rfl rfl (show y.w.there (w.heap.size + 1) 0 9 by simpa using hbr.there (n := 9) (Nat.le_of_eq hcs.symm)) (by kernel_rfl) (claim_all _) ?_
    have hsc : Blk (y.w.setCells (w.heap.size + 1) 0 x.claim.cells) (w.heap.size + 1) 37 x.claim.cells.toArray := by
      have := Blk.setCells x.claim.cells 0 _ y.w hbr (Nat.le_of_eq (by rw [hcs]; rfl))
      rwa [splice_all _ _ (by rw [hcs]; rfl)] at this
    have hfar := fun b (hne : b ≠ w.heap.size + 1) => setCells_far (g := w.heap.size + 1) hne x.claim.cells 0 y.w
    have hqs : Q w (y.w.setCells (w.heap.size + 1) 0 x.claim.cells) := below_setCells (Nat.le_succ _) x.claim.cells 0 w y.w y.f.q
    have hFN : WantFCl w x (y.w.setCells (w.heap.size + 1) 0 x.claim.cells) := ⟨hqs, (hfar _ (by omega)).trans y.f.it, x.claim.cells, rfl, hsc⟩
    refine hK' _ _ ⟨⟨_, hFN⟩, rfl⟩ ?_
    clear hK' K' hbr hfar
    have HZ := Lib.hid hsc
    have HQ := Lib.hid hqs
    clear hsc hqs
    simp only [Act.put, List.setIfInBounds_toArray, List.set_cons_succ, List.set_cons_zero]
    refine held_pure 13 (v := .int .i64 0) rfl (by kernel_rfl) (by kernel_rfl) (by kernel_rfl) (by intro c a d v w h; cases d <;> exact h) rfl ⟨⟨_, hFN⟩, rfl⟩ (fun w => by rfl) ?_
    simp only [Act.put, List.setIfInBounds_toArray, List.set_cons_succ, List.set_cons_zero]
    refine held_pure 14 (v := .bool false) rfl (by kernel_rfl) (by kernel_rfl) (by kernel_rfl) (by intro c a d v w h; cases d <;> exact h) rfl ⟨⟨_, hFN⟩, rfl⟩ (fun w => by rfl) ?_
    simp only [Act.put, List.setIfInBounds_toArray, List.set_cons_succ, List.set_cons_zero]
    refine wpAnyH_done (by kernel_rfl) ?_ _
    go_wp2_with fail
    exact bodyPost_ret (results_row_tmp2 rfl _ _ (w.heap.size + 1) 37 (claimA x.claim) (0, 0) _ _ _ rfl rfl rfl HZ.out Tryz.underlying37 rfl (by kernel_rfl)) rfl ⟨by rw [HR.out]; rfl, HQ.out⟩

def foundCl (x : ItemR) : Found ClaimV := ⟨0, digOf x, x.claim⟩
def takeCl (key : ByteArray) (l : List ItemR) : List (Found ClaimV) := (l.filter fun x => wantCl key x && itemRight x).map foundCl
theorem takeCl_step (key : ByteArray) (l : List ItemR) (j : Nat) (h : j < l.length) : takeCl key (l.take (j + 1)) = takeCl key (l.take j) ++ if wantCl key l[j] && itemRight l[j] then [foundCl l[j]] else [] := by
  unfold takeCl
  rw [List.take_succ_eq_append_getElem h, List.filter_append, List.map_append]
  congr 1
  cases hw : wantCl key l[j] && itemRight l[j] <;> simp [List.filter, hw]
theorem takeCl_le (key : ByteArray) (l : List ItemR) (j : Nat) : (takeCl key (l.take j)).length ≤ j := by
  unfold takeCl
  rw [List.length_map]
  refine Nat.le_trans (List.length_filter_le _ _) ?_
  rw [List.length_take]
  omega
def sortCl (l : List (Found ClaimV)) : List (Found ClaimV) := (sortA l.toArray).toList
def listCl (key : ByteArray) (l : List ItemR) : List ClaimV := (sortCl (takeCl key l)).map (·.val)
theorem sortCl_length (l : List (Found ClaimV)) : (sortCl l).length = l.length := by
  unfold sortCl sortA Go.Sort.insertionSort
  rw [Array.length_toList, size_insO _ _ _ _ _ _ rfl, List.size_toArray]

theorem sortCl_nil : sortCl [] = [] := List.length_eq_zero_iff.1 (sortCl_length [])
/-- The sort, of an own row. -/
theorem sortedCl_any (A : Option Addr) (c m base : Nat) (l : List (Found ClaimV)) (w : World) (hm : m = l.length) (h20 : m ≤ 20) (h : Owns w base 208 11 (.slice A m c) m (l.flatMap fclC)) (hB : base ≤ w.heap.size) :
    Calls Tryz.prog 176 #[.slice A m c, .func (.func 177) #[] #[]] w fun e w' => e = .returned (.tuple #[]) ∧ (RowsAt w' A 11 fclC (sortCl l) ∧ Below base w w') := by
  rcases h.2 with ⟨e1, h0⟩ | ⟨g, cap, cur, fz, hv, hb, hg, _⟩
  · injection e1 with hA _ hc
    subst hA hc
    have hl : l = [] := List.length_eq_zero_iff.1 (by omega)
    subst hl
    subst hm
    refine (stableCl_nil w).mono ?_
    rintro e w' ⟨rfl, rfl⟩
    exact ⟨rfl, by rw [sortCl_nil]; exact RowsAt.nil _ _ _ _, Below.refl _ _⟩
  · injection hv with hA _ hc
    subst hA
    rcases Nat.eq_zero_or_pos m with h0 | h0
    · have hl : l = [] := List.length_eq_zero_iff.1 (by omega)
      subst hl
      have hH : Go.Sort.HoldsK fclC 11 w g 0 (#[] : Array (Found ClaimV)) := fun t ht => by rw [Go.Sort.size_flatK] at ht; simp at ht
      have := stableCl_any g c #[] w hH (Array.getElem?_eq_some_iff.1 hg).1 (by simp)
      subst hm
      refine this.mono ?_
      rintro e w' ⟨rfl, n, os, rfl⟩
      exact ⟨rfl, by rw [sortCl_nil]; exact RowsAt.nil _ _ _ _, below_sort (Below.refl _ _) hb hB⟩
    · obtain ⟨hH, hb', hg'⟩ := holds_of fcl_len h hm h0
      subst hm
      have hs : (l.toArray).size = l.length := by simp
      have hsa : (sortA l.toArray).size = l.toArray.size := by
        unfold sortA Go.Sort.insertionSort
        rw [size_insO _ _ _ _ _ _ rfl]
      have := stableCl_any g c l.toArray w hH hg' (by rw [hs]; exact h20)
      rw [hs] at this
      refine this.mono ?_
      rintro e w' ⟨rfl, n, os, rfl⟩
      refine ⟨rfl, rows_of fcl_len (holdsK_sortWorldK_c fclC 11 w g 0 l.toArray _ n os hH hg' hsa) ?_, below_sort (Below.refl _ _) hb hB⟩
      exact Nat.lt_of_lt_of_le hg' (size_sortWorldK_c fclC 11 w g 0 n _ os)

theorem foundCl_info : (Tryz.prog.info? 208).map (fun i => (i.zero, i.size, i.bytes)) = some (some (.agg (fclC default).toArray), 11, 112) := by kernel_rfl
theorem valCl_info : (Tryz.prog.info? 37).map (fun i => (i.zero, i.size, i.bytes)) = some (some (.agg (claimA claim0)), 9, 88) := by kernel_rfl
theorem fcl_all (x : Found ClaimV) : (fclC x).toArray.all (·.oneCell') = true := by
  rw [Array.all_eq_true_iff_forall_mem]
  intro v hv
  exact fcl_one x v (by simpa using hv)
theorem buildCl_found (n : Int) (d : ByteArray) (b : ClaimV) (w : World) : (Instr.build 208 #[(0, .int .i64 n), (1, .string d), (2, .agg (claimA b))]).run Tryz.prog w = .ok (.agg (fclC ⟨n, d, b⟩).toArray) w := by kernel_rfl
theorem bsCl_found (x : Found ClaimV) (w : World) : (Instr.buildSlice 205 1 #[(0, .agg (fclC x).toArray)]).run Tryz.prog w = .ok (.slice (some ⟨w.heap.size, 0, none⟩) 1 1) (w.alloc (.cells (fclC x).toArray 208)) := by kernel_rfl
theorem bsCl_val (x : ClaimV) (w : World) : (Instr.buildSlice 22 1 #[(0, .agg (claimA x))]).run Tryz.prog w = .ok (.slice (some ⟨w.heap.size, 0, none⟩) 1 1) (w.alloc (.cells (claimA x) 37)) := by kernel_rfl
theorem valCl_len (x : ClaimV) : x.cells.length = 9 := rfl
theorem valCl_one (x : ClaimV) : ∀ v ∈ x.cells, v.oneCell' = true := by
  have := claim_all x
  rw [Array.all_eq_true_iff_forall_mem] at this
  intro v hv
  exact this v (by simpa using hv)

/-- What hands back a list of ballots. -/
def ListClAre (l : List ClaimV) (w : World) (e : Ending) (w' : World) : Prop := ∃ (A : Option Addr) (c : Nat), e = .returned (.slice A l.length c) ∧ l.length ≤ c ∧ c ≤ maxLen ∧ RowsAt w' A 9 ClaimV.cells l ∧ Q w w'
set_option maxRecDepth 100000 in
set_option maxHeartbeats 2000000 in
theorem pickCl_any (k : KR) (p1 : Nat) (key : ByteArray) (w : World) (hT : Tab w) (hK : KIn w k) (h1 : w.cell? ⟨p1, 0, none⟩ = some (.string key)) (hp1 : p1 < w.heap.size) (hn : k.l.length ≤ 20) :
    Calls Tryz.prog 105 #[.agg (knA k), .func (.func 106) #[] #[.pointer (some ⟨p1, 0, none⟩)]] w (ListClAre (listCl key k.l) w) := by
  obtain ⟨w1, x, hx, hq1, hbk⟩ := boxedB w 31 k.cells
  have hx : w.alloc (.cells (knA k) 31) = x.w := hx
  have cI : ∀ y : Wd w1, y.w.cell? ⟨w.heap.size, 1, none⟩ = some (.slice k.iA k.l.length k.iC) := fun y => (y.blk hbk).cell 1
  have hKy : ∀ y : Wd w1, KIn y.w k := fun y => hK.q (Q.trans hq1 y.q)
  have hTy : ∀ y : Wd w1, Tab y.w := fun y => hT.q (Q.trans hq1 y.q)
  have hW1 : ∀ y : Wd w1, y.w.cell? ⟨p1, 0, none⟩ = some (.string key) := fun y => ((Q.trans hq1 y.q).cell (p := ⟨p1, 0, none⟩) hp1).trans h1
  have hP1 : ∀ y : Wd w1, p1 < y.w.heap.size := fun y => Nat.lt_of_lt_of_le hp1 (Q.trans hq1 y.q).size
  have HQ := Lib.hid hq1
  obtain ⟨i0, hi, hz0, hz1, hz2⟩ := info_parts foundCl_info
  obtain ⟨j0, hji, hy0, hy1, hy2⟩ := info_parts valCl_info
  have e99 : ∀ args w, (callFunc 106 args).run Tryz.prog w = .ok (.enter 106 args) w := enters_of Tryz.func106 (by kernel_rfl) rfl
  clear hbk hq1 h1 hp1
  go_enter Tryz.func105, Tryz.ntmps105
  go_wp2_with fail
  go_loopw [5, 17] (fun a i wr => ∃ (j c m : Nat) (A : Option Addr) (z : Wd w1), a = .slice A m c ∧ i = .int .i64 j ∧ wr = z.w ∧ j ≤ k.l.length ∧ m ≤ j ∧ m ≤ c ∧ c ≤ maxLen ∧ Hid (m = (takeCl key (k.l.take j)).length) ∧ Owns z.w w1.heap.size 208 11 (.slice A m c) m ((takeCl key (k.l.take j)).flatMap fclC)) (fun _ i _ => k.l.length - (intOf i).toNat)
  case atStart => exact ⟨0, 0, 0, none, x, rfl, rfl, rfl, Nat.zero_le _, Nat.zero_le _, Nat.zero_le _, Nat.zero_le _, Lib.hid rfl, Owns.nil_ _ _ _ _⟩
  case round =>
    obtain ⟨j, c, m, A, z, rfl, rfl, rfl, hj, hmj, hmc, hcm, hm, hown⟩ := hrel
    by_cases hlt : j < k.l.length
    · obtain ⟨b, o, eA, hb, hld⟩ := (hKy z).items.load j hlt
      have hio := fun y : Wd z.w => ((hKy z).items.each _ (List.getElem_mem hlt)).q y.q
      rw [eA]
      have hTz : ∀ y : Wd z.w, Tab y.w := fun y => hTy ⟨y.w, Q.trans z.q y.q⟩
      have hzs := z.q.size
      have HTS := Lib.hid (takeCl_step key k.l j hlt)
      generalize k.l[j] = it at *
      go_wp2_with (first | (refine wpList_load_run 50 (.tmp 19) (.pointer (some ⟨b, o + j * 49, none⟩)) (.agg (itA it)) ?_ ?_ ?_ ?_ ?_; rfl; rfl; rfl; exact hld ⟨_, Q.refl _⟩) | (refine wpList_store_blk (Blk.new z.w 50 item0.cells.toArray) rfl 50 (.tmp 7) (.tmp 20) it.cells rfl rfl rfl (by kernel_rfl) (it_all _) (Nat.le_refl 49) ?_))
      intro W hW hbel
      rw [splice_all _ _ (by rfl)] at hW
      have hqz : Q z.w W := hbel _ _ (Nat.le_refl _) (q_new _ _ _)
      have hq3 : Q w1 W := Q.trans z.q hqz
      have hLi : ∀ y : Wd W, (Instr.loadAt 50 (.pointer (some ⟨z.w.heap.size, 0, none⟩))).run Tryz.prog y.w = .ok (.agg (itA it)) y.w := Wd.load hW.lt (Blk.range hW) Tryz.underlying50 rfl (by kernel_rfl)
      have hcl : ∀ y : Wd W, Calls Tryz.prog 106 #[.agg (itA it), .pointer (some ⟨p1, 0, none⟩)] y.w fun e w' => e = .returned (.tuple #[.agg (claimA it.claim), .int .i64 0, .bool (wantCl key it)]) ∧ Q y.w w' := fun y => wantCl_any p1 key it y.w (hW1 ⟨y.w, Q.trans hq3 y.q⟩) (hP1 ⟨y.w, Q.trans hq3 y.q⟩)
      have hWs := hq3.size
      obtain ⟨v, hv⟩ := Wd.first W
      rw [hv]
      clear hbel hld hv eA hb cI hW1 hP1
      generalize hwt : wantCl key it = wt at *
      go_wp2_with (first | (refine wpList_load_run 50 (.tmp 7) (.pointer (some ⟨z.w.heap.size, 0, none⟩)) (.agg (itA it)) ?_ ?_ ?_ ?_ ?_; rfl; rfl; rfl; exact hLi _) | (go_at_fn 106; refine (hcl _).mono ?_; rintro e w' ⟨rfl, hq2⟩; obtain ⟨y, rfl⟩ := Wd.next _ hq2; clear hq2) | (refine wpList_store_blk (Blk.new y.w 37 claim0.cells.toArray) rfl 37 (.tmp 8) (.tmp 25) it.claim.cells rfl rfl rfl (by kernel_rfl) (claim_all _) (Nat.le_refl 9) ?_))
      intro W2 hB2 hbel2
      rw [splice_all _ _ (by rfl)] at hB2
      have hqy : Q W W2 := hbel2 _ _ y.q.size (Q.trans y.q (q_new _ _ _))
      have hq4 : Q w1 W2 := Q.trans hq3 hqy
      have hLi2 : ∀ y : Wd W2, (Instr.loadAt 50 (.pointer (some ⟨z.w.heap.size, 0, none⟩))).run Tryz.prog y.w = .ok (.agg (itA it)) y.w := fun y => hLi ⟨y.w, Q.trans hqy y.q⟩
      have hLb2 : ∀ u : Wd W2, (Instr.loadAt 37 (.pointer (some ⟨y.w.heap.size, 0, none⟩))).run Tryz.prog u.w = .ok (.agg (claimA it.claim)) u.w := Wd.load hB2.lt (Blk.range hB2) Tryz.underlying37 rfl (by kernel_rfl)
      have hIi : ∀ u : Wd W2, ItemIn u.w it := fun u => hio ⟨u.w, Q.trans (Q.trans hqz hqy) u.q⟩
      have hdg2 : ∀ u : Wd W2, Calls Tryz.prog 25 #[.agg (itA it)] u.w fun e w' => e = .returned (.string (digOf it)) ∧ Q u.w w' := fun u => digest_any it u.w (hTz ⟨u.w, Q.trans (Q.trans hqz hqy) u.q⟩) (hIi u)
      have hownW : ∀ u : Wd W2, Owns u.w w1.heap.size 208 11 (.slice A m c) m ((takeCl key (k.l.take j)).flatMap fclC) := fun u => hown.q (Q.trans (Q.trans hqz hqy) u.q)
      have hrg : ∀ (r : Bool), itemRight it = r → ∀ u : Wd W2, Calls Tryz.prog 12 #[.agg (itA it)] u.w fun e w' => e = .returned (.bool r) ∧ Q u.w w' := fun r hr u => right_at it r u.w (hIi u) hr
      have HQ4 := Lib.hid hq4
      have hWs2 := hq4.size
      obtain ⟨u, hu⟩ := Wd.first W2
      rw [hu]
      clear hbel2 hu hqy hq4 hq3 hqz hLi hcl hio hTz hown hTy hW hB2
      cases wt
      · have HTE := Lib.hid (show takeCl key (k.l.take (j + 1)) = takeCl key (k.l.take j) by rw [HTS.out]; simp)
        go_wp2_with fail
        exact ⟨⟨j + 1, c, m, A, ⟨u.w, Q.trans HQ4.out u.q⟩, rfl, by go_num, rfl, by omega, by omega, hmc, hcm, Lib.hid (by rw [HTE.out]; exact hm.out), by rw [HTE.out]; exact hownW u⟩, by simp only [intOf]; omega⟩
      · cases hr : itemRight it
        · have HTE := Lib.hid (show takeCl key (k.l.take (j + 1)) = takeCl key (k.l.take j) by rw [HTS.out, hr]; simp)
          have hrg0 := hrg false hr
          clear hrg hr
          go_wp2_with (first | (refine wpList_load_run 50 (.tmp 7) (.pointer (some ⟨z.w.heap.size, 0, none⟩)) (.agg (itA it)) ?_ ?_ ?_ ?_ ?_; rfl; rfl; rfl; exact hLi2 _) | (go_at_call 12; refine (hrg0 _).mono ?_; rintro e w' ⟨rfl, hq2⟩; obtain ⟨t, rfl⟩ := Wd.next _ hq2; clear hq2))
          exact ⟨⟨j + 1, c, m, A, ⟨t.w, Q.trans HQ4.out t.q⟩, rfl, by go_num, rfl, by omega, by omega, hmc, hcm, Lib.hid (by rw [HTE.out]; exact hm.out), by rw [HTE.out]; exact hownW t⟩, by simp only [intOf]; omega⟩
        · have HTE := Lib.hid (show takeCl key (k.l.take (j + 1)) = takeCl key (k.l.take j) ++ [foundCl it] by rw [HTS.out, hr]; simp)
          have hrg0 := hrg true hr
          clear hrg hr
          go_wp2_with (first | (refine wpList_load_run 50 (.tmp 7) (.pointer (some ⟨z.w.heap.size, 0, none⟩)) (.agg (itA it)) ?_ ?_ ?_ ?_ ?_; rfl; rfl; rfl; exact hLi2 _) | (go_at_call 12; refine (hrg0 _).mono ?_; rintro e w' ⟨rfl, hq2⟩; obtain ⟨t, rfl⟩ := Wd.next _ hq2; clear hq2))
          refine wp_region_wd_parts t 2 6 (by kernel_rfl) (by kernel_rfl) (by intro c d v a w h; cases d <;> exact h) ?_
          simp only [List.take_succ_cons, List.take_zero, List.drop_succ_cons, List.drop_zero]
          refine wpPure_move (.tmp 5) (.slice A m c) rfl rfl rfl ?_
          dsimp only [Act.put]
          simp only [List.setIfInBounds_toArray, List.set_cons_succ, List.set_cons_zero]
          refine wpPure_move (.tmp 9) (.int .i64 0) rfl rfl rfl ?_
          dsimp only [Act.put]
          simp only [List.setIfInBounds_toArray, List.set_cons_succ, List.set_cons_zero]
          refine wpPure_nil ?_
          refine wpQuiet_load_run 50 (.tmp 7) (.pointer (some ⟨z.w.heap.size, 0, none⟩)) (.agg (itA it)) rfl rfl rfl hLi2 ?_
          dsimp only [Act.put]
          simp only [List.setIfInBounds_toArray, List.set_cons_succ, List.set_cons_zero]
          go_big_quiet_step (first | (go_at_call 25; exact Wd.call _ (hdg2 _)))
          refine wpQuiet_load_run 37 (.tmp 8) (.pointer (some ⟨y.w.heap.size, 0, none⟩)) (.agg (claimA it.claim)) rfl rfl rfl hLb2 ?_
          dsimp only [Act.put]
          simp only [List.setIfInBounds_toArray, List.set_cons_succ, List.set_cons_zero]
          refine wpQuiet_build_run 208 _ #[(0, .int .i64 0), (1, .string (digOf it)), (2, .agg (claimA it.claim))] _ rfl rfl (by simp only [List.map_toArray, List.map_cons, List.map_nil]; rfl) (buildCl_found (0) (digOf it) it.claim) ?_
          dsimp only [Act.put]
          simp only [List.setIfInBounds_toArray, List.set_cons_succ, List.set_cons_zero]
          refine wpQuiet_nil ?_
          rintro w6 ⟨t2, rfl⟩
          refine wpList_buildSlice_run 205 1 _ #[(0, .agg (fclC (foundCl it)).toArray)] _ rfl rfl (by simp only [List.map_toArray, List.map_cons, List.map_nil]; rfl) (bsCl_found (foundCl it) _) ?_
          dsimp only [Act.put]
          simp only [List.setIfInBounds_toArray, List.set_cons_succ, List.set_cons_zero]
          refine wpList_append_rows fcl_len fcl_one rfl (.tmp 33) (.tmp 39) 205 208 i0 _ 112 rfl Tryz.underlying205 hi hz0 hz1 hz2 rfl (by decide) (by decide) w1.heap.size (.slice A m c) m (takeCl key (k.l.take j)) rfl ((hownW t2).alloc (.cells (fclC (foundCl it)).toArray 208)) (some ⟨t2.w.heap.size, 0, none⟩) 1 1 [foundCl it] rfl (RowsAt.one t2.w 208 (foundCl it) _ rfl) rfl (by omega) (by have := t2.q.size; simp; omega) ?_
          intro A5 c5 w5 hc5 hm5 hown5 hg5
          have hq5 : Q w1 w5 := q_grown (Q.trans (Q.trans HQ4.out t2.q) (q_new _ _ _)) (Nat.le_refl _) ((hownW t2).alloc _) hg5
          obtain ⟨y5, rfl⟩ : ∃ y5 : Wd w1, w5 = y5.w := ⟨⟨w5, hq5⟩, rfl⟩
          rw [← HTE.out] at hown5
          have HM5 : Hid (m + 1 = (takeCl key (k.l.take (j + 1))).length) := Lib.hid (by rw [HTE.out, List.length_append, ← hm.out]; rfl)
          clear hownW hg5 hq5 hdg2 hLi2 hLb2 hIi hrg0
          go_wp2_with fail
          exact ⟨⟨j + 1, c5, m + 1, A5, y5, rfl, by go_num, rfl, by omega, by omega, hc5, hm5, HM5, hown5⟩, by simp only [intOf]; omega⟩
    · have hjn : j = k.l.length := by omega
      have hm := hm.out
      rw [hjn, List.take_length] at hown hm
      have hm20 : m ≤ 20 := by omega
      have hso := sortedCl_any A c m w1.heap.size (takeCl key k.l) z.w hm hm20 hown z.q.size
      have hlen : (sortCl (takeCl key k.l)).length = m := by rw [sortCl_length]; exact hm.symm
      have HB := Lib.hid (show listCl key k.l = (sortCl (takeCl key k.l)).map (·.val) from rfl)
      have HZ := Lib.hid z.q
      generalize sortCl (takeCl key k.l) = L at hso hlen HB
      clear hown hm hjn cI hW1 hP1 hKy hTy
      go_wp2_with (first | (go_at_call 176; refine hso.mono ?_; rintro e w6 ⟨rfl, hR6, hb6⟩; have HQ6 := Lib.hid (Below.trans HZ.out hb6); clear hb6 hso; obtain ⟨y6, hy6⟩ := Wd.first w6; rw [hy6]; clear hy6) | (refine wpList_make_own _ rfl _ _ 22 rfl w6.heap.size 37 j0 _ 9 Tryz.underlying22 hji hy0 hy1 .i64 .i64 (m : Int) m rfl rfl rfl (by rw [hy2]; omega) (by simp only [maxLen]; omega) y6.q.size ?_))
      intro w7 hown0 hg0
      have hown : Owns w7 w6.heap.size 37 9 (.slice (some ⟨y6.w.heap.size, 0, none⟩) 0 m) 0 (([] : List ClaimV).flatMap ClaimV.cells) := Owns.of hown0
      have hq7 : Q w6 w7 := Below.grown y6.q hg0 y6.q.size (fun _ h => by cases h)
      obtain ⟨y7, rfl⟩ : ∃ y7 : Wd w6, w7 = y7.w := ⟨⟨w7, hq7⟩, rfl⟩
      have hRy : ∀ y : Wd w6, RowsAt y.w A 11 fclC L := fun y => hR6.q y.q
      clear hown0 hg0 hq7 hR6
      go_wp2_with fail
      go_loopw [11, 49] (fun a i wr => ∃ (j c : Nat) (A : Option Addr) (z : Wd w6), a = .slice A j c ∧ i = .int .i64 j ∧ wr = z.w ∧ j ≤ m ∧ j ≤ c ∧ c ≤ maxLen ∧ Owns z.w w6.heap.size 37 9 (.slice A j c) j (((L.take j).map (·.val)).flatMap ClaimV.cells)) (fun _ i _ => m - (intOf i).toNat)
      case atStart => exact ⟨0, m, _, y7, rfl, rfl, rfl, Nat.zero_le _, Nat.zero_le _, by simp only [maxLen]; omega, hown⟩
      case round =>
        clear hown
        obtain ⟨j2, c2, A2, z2, rfl, rfl, rfl, hj2, hjc2, hcm2, hown⟩ := hrel
        by_cases hlt2 : j2 < m
        · obtain ⟨b, o, eA, hb, hcs⟩ := hRy z2 (by omega)
          have hld : ∀ y : Wd z2.w, (Instr.loadAt 208 (.pointer (some ⟨b, o + j2 * 11, none⟩))).run Tryz.prog y.w = .ok (.agg (fclC (L[j2]'(by omega))).toArray) y.w := Wd.load hb (hcs j2 (by omega)) Tryz.underlying208 rfl (by kernel_rfl)
          have HLS := Lib.hid (show (L.take (j2 + 1)).map (·.val) = (L.take j2).map (·.val) ++ [(L[j2]'(by omega)).val] by rw [List.take_succ_eq_append_getElem (by omega), List.map_append]; rfl)
          rw [eA]
          have hzs2 := z2.q.size
          clear hcs
          generalize L[j2]'(by omega) = e2 at *
          have hbf := Blk.new z2.w 208 (fclC default).toArray
          go_wp2_with (first | (refine wpList_load_run 208 (.tmp 51) (.pointer (some ⟨b, o + j2 * 11, none⟩)) (.agg (fclC e2).toArray) ?_ ?_ ?_ ?_ ?_; rfl; rfl; rfl; exact hld ⟨_, Q.trans (Q.refl _) (Q.refl _)⟩) | (refine wpList_store_blk hbf rfl 208 (.tmp 13) (.tmp 52) (fclC e2) rfl rfl rfl (by kernel_rfl) (fcl_all _) (Nat.le_refl 11) ?_))
          intro W hW hbel
          rw [splice_all _ _ (by rfl)] at hW
          have hqz : Q z2.w W := hbel _ _ (Nat.le_refl _) (q_new _ _ _)
          have hq3 : Q w6 W := Q.trans z2.q hqz
          have hrv : W.rangeAt z2.w.heap.size 2 e2.val.cells := by
            have := range_sub (Blk.range hW) 2 9
            rw [Nat.zero_add] at this
            exact this
          have hLv : ∀ y : Wd W, (Instr.loadAt 37 (.pointer (some ⟨z2.w.heap.size, 2, none⟩))).run Tryz.prog y.w = .ok (.agg (claimA e2.val)) y.w := Wd.load hW.lt hrv Tryz.underlying37 rfl (by kernel_rfl)
          have hownW : ∀ y : Wd W, Owns y.w w6.heap.size 37 9 (.slice A2 j2 c2) j2 (((L.take j2).map (·.val)).flatMap ClaimV.cells) := fun y => hown.q (Q.trans hqz y.q)
          have HQ3 := Lib.hid hq3
          have hWs := hq3.size
          obtain ⟨v, hv⟩ := Wd.first W
          rw [hv]
          clear hW hbel hld hv hqz hq3 hown hrv hbf
          go_wp2_with (first | (refine wpList_load_run 37 (.tmp 54) (.pointer (some ⟨z2.w.heap.size, 2, none⟩)) (.agg (claimA e2.val)) ?_ ?_ ?_ ?_ ?_; rfl; rfl; rfl; exact hLv _) | (refine wpList_buildSlice_run 22 1 _ #[(0, .agg (claimA e2.val))] _ rfl rfl (by simp only [List.map_toArray, List.map_cons, List.map_nil]; rfl) (bsCl_val e2.val _) ?_) | (at_builtin; refine wpList_append_rows valCl_len valCl_one rfl (.tmp 53) (.tmp 56) 22 37 j0 _ 88 rfl Tryz.underlying22 hji hy0 hy1 hy2 rfl (by decide) (by decide) w6.heap.size (.slice A2 j2 c2) j2 ((L.take j2).map (·.val)) rfl ((hownW v).alloc (.cells (claimA e2.val) 37)) (some ⟨v.w.heap.size, 0, none⟩) 1 1 [e2.val] rfl (RowsAt.one v.w 37 e2.val _ rfl) rfl (by omega) (by have := v.q.size; simp; omega) ?_))
          intro A5 c5 w5 hc5 hm5 hown5 hg5
          have hq5 : Q w6 w5 := q_grown (Q.trans (Q.trans HQ3.out v.q) (q_new _ _ _)) (Nat.le_refl _) ((hownW v).alloc _) hg5
          obtain ⟨y5, rfl⟩ : ∃ y5 : Wd w6, w5 = y5.w := ⟨⟨w5, hq5⟩, rfl⟩
          have e5 : List.flatMap ClaimV.cells (List.take j2 (List.map (fun x => x.val) L)) ++ e2.val.cells = ((L.take (j2 + 1)).map (·.val)).flatMap ClaimV.cells := by
            rw [HLS.out, List.flatMap_append, List.map_take]
            simp
          rw [e5] at hown5
          clear hownW hg5 hq5 hLv e5
          go_wp2_with fail
          exact ⟨⟨j2 + 1, c5, A5, y5, rfl, by go_num, rfl, by omega, hc5, hm5, hown5⟩, by simp only [intOf]; omega⟩
        · have hjn : j2 = m := by omega
          have hall : L.take j2 = L := List.take_of_length_le (by omega)
          rw [hall, ← HB.out] at hown
          have hl : (listCl key k.l).length = j2 := by rw [HB.out, List.length_map, hlen, hjn]
          have hfin : ListClAre (listCl key k.l) w (.returned (.slice A2 j2 c2)) z2.w := ⟨A2, c2, by rw [hl], by omega, hcm2, Owns.rows valCl_len hown hl.symm, Q.trans HQ.out (Below.trans HQ6.out (Below.mono z2.q (by have := HQ6.out.size; omega)))⟩
          have HF := Lib.hid hfin
          clear hfin hl hall hown
          go_wp2_with fail
          go_ret
          exact HF.out

set_option maxRecDepth 100000 in
set_option maxHeartbeats 2000000 in
theorem allCl_any (k : KR) (key : ByteArray) (w : World) (hT : Tab w) (hK : KIn w k) (hn : k.l.length ≤ 20) :
    Calls Tryz.prog 53 #[.agg (knA k), .string key] w (ListClAre (listCl key k.l) w) := by
  have b1 := Blk.new w 31 (knA k)
  have q1 := q_new w (knA k) 31
  have b2 := Blk.new' (g := w.heap.size + 1) (w.alloc (.cells (knA k) 31)) 9 #[.string key] (by simp)
  have q2 := q_new (w.alloc (.cells (knA k) 31)) #[.string key] 9
  have b1 := b1.q q2
  have hq := Q.trans q1 q2
  obtain ⟨w3, hw3⟩ : ∃ w3, w3 = (w.alloc (.cells (knA k) 31)).alloc (.cells #[.string key] 9) := ⟨_, rfl⟩
  rw [← hw3] at b1 b2 hq
  have hLk := Wd.load (P := Tryz.prog) (ty := 31) b1.lt (Blk.range b1) Tryz.underlying31 rfl (by kernel_rfl) ⟨w3, Q.refl w3⟩
  have hp := pickCl_any k (w.heap.size + 1) key w3 (hT.q hq) (hK.q hq) (b2.cell 0) b2.lt hn
  have HX := Lib.hid hw3
  have HQ := Lib.hid hq
  clear q1 q2 b1 b2 hq hw3
  go_enter Tryz.func53, Tryz.ntmps53
  go_upto_region 1 with (fail)
  refine (show Code.wp _ _ _ _ w3 → Code.wp _ _ _ _ _ from fun h => by rw [HX.out] at h; exact h) ?_
  go_wp2_with (first | (refine wpList_load_run 31 (.tmp 2) (.pointer (some ⟨w.heap.size, 0, none⟩)) (.agg (knA k)) ?_ ?_ ?_ ?_ ?_; rfl; rfl; rfl; exact hLk) | (go_at_call 105; refine hp.mono ?_; rintro e w' ⟨A, c, rfl, h1, h2, h3, hq4⟩))
  go_ret
  exact ⟨A, c, rfl, h1, h2, h3, Q.trans HQ.out hq4⟩
end Go.Proofs.YtflgkplneekpfaaGreatDoor.Known

namespace Go.Proofs.YtflgkplneekpfaaGreatDoor.Known
open Go.RowKit Grp Mem _root_.Go.Proofs.YtflgkplneekpfaaGreatDoor.Code Sha Sign _root_.Go.Proofs.YtflgkplneekpfaaGreatDoor.Item

theorem q_growd (W : World) (n : Nat) (os : Array Obj) : Q W (Go.Sort.grow (W.drewN n) os) := by
  refine ⟨rfl, rfl, rfl, ?_, fun i hi => ?_⟩
  · rw [Go.Sort.size_grow]
    exact Nat.le_add_right _ _
  · unfold Go.Sort.grow
    show (W.heap ++ os)[i]? = _
    rw [Array.getElem?_append_left hi]
/-- No element is less than one ahead of it. -/
def SortedF {α : Type} (l : List (Found α)) : Prop := ∀ i j (hi : i < l.length) (hj : j < l.length), i ≤ j → 0 ≤ cmpF l[j] l[i]
theorem half_bd (a b : Nat) (h : a < b) : a ≤ (a + b) / 2 ∧ (a + b) / 2 < b := by omega

/-! ### Ballot -/
theorem cmpQB (x y : Found BallotV) (W : World) : Calls Tryz.prog 213 #[.agg (fbC x).toArray, .agg (fbC y).toArray] W fun e w' => e = .returned (.int .i64 (cmpF x y)) ∧ Q W w' :=
  (cmpB_any x y W).mono fun e w' ⟨h1, q, os, h2⟩ => ⟨h1, by rw [h2]; exact q_growd W q os⟩
theorem cmpEB : ∀ args w, (callFunc 213 args).run Tryz.prog w = .ok (.enter 213 args) w := fun args w => enter_run (fn := Tryz.f213) Tryz.func213 (by kernel_rfl) rfl args w
theorem foundLdB {g o : Nat} {l : List (Found BallotV)} {w : World} (hR : RowsAt w (some ⟨g, o, none⟩) 9 fbC l) (j : Nat) (hj : j < l.length) : ∀ y : Wd w, (Instr.loadAt 234 (.pointer (some ⟨g, o + j * 9, none⟩))).run Tryz.prog y.w = .ok (.agg (fbC l[j]).toArray) y.w := by
  obtain ⟨b, o2, e, hb, hc⟩ := hR (by omega)
  injection e with e
  injection e with e1 e2
  subst e1
  subst e2
  exact Wd.load hb (hc j hj) Tryz.underlying234 rfl (by kernel_rfl)
set_option maxRecDepth 100000 in
set_option maxHeartbeats 4000000 in
theorem insSB (g o cap : Nat) (l : List (Found BallotV)) (hs : SortedF l) (hn : l.length ≤ 1000) (a m : Nat) (w : World) (hR : RowsAt w (some ⟨g, o, none⟩) 9 fbC l) (hm : m ≤ l.length) (ham : a ≤ 1000) :
    Calls Tryz.prog 265 #[.slice (some ⟨g, o, none⟩) l.length cap, .int .i64 (a : Int), .int .i64 (m : Int), .func (.func 213) #[] #[]] w fun e w' => e = .returned (.tuple #[]) ∧ Q w w' := by
  obtain ⟨x, hx⟩ := Wd.first w
  have hLd := foundLdB hR
  have hC := fun (p q : Found BallotV) (y : Wd w) => cmpQB p q y.w
  have eg := cmpEB
  refine (show Calls Tryz.prog 265 #[.slice (some ⟨g, o, none⟩) l.length cap, .int .i64 (a : Int), .int .i64 (m : Int), .func (.func 213) #[] #[]] x.w (fun e w' => e = .returned (.tuple #[]) ∧ Q w w') → _ from fun h => by rwa [← hx] at h) ?_
  clear hx hR
  go_enter Tryz.func265, Tryz.ntmps265
  go_wp2_with fail
  go_loopw [8] (fun i wr => ∃ (p : Nat) (z : Wd w), i = .int .i64 ((p : Int) + 1) ∧ wr = z.w ∧ a ≤ p ∧ p ≤ 1000) (fun i _ => m - (intOf i).toNat)
  case atStart => exact ⟨a, x, rfl, rfl, Nat.le_refl _, ham⟩
  case round =>
    obtain ⟨p, z, rfl, rfl, hap, hp⟩ := hrel
    by_cases hlt : p + 1 < m
    · have hlI : (p : Int) + 1 < (m : Int) := by omega
      have hp1 : p + 1 < l.length := by omega
      have hpI : (p : Int) + 1 < (l.length : Int) := by omega
      have hpJ : (p : Int) < (l.length : Int) := by omega
      have haI : (a : Int) < (p : Int) + 1 := by omega
      have hl1 := hLd (p + 1) hp1
      have hl2 := hLd p (by omega)
      have hcmp := hC l[p + 1] l[p]
      have hge := hs p (p + 1) (by omega) hp1 (by omega)
      generalize cmpF l[p + 1] l[p] = cv at *
      generalize l[p + 1] = e1 at *
      generalize l[p] = e2 at *
      have htn : ((p : Int) + 1).toNat = p + 1 := by omega
      have hcv : ¬ cv < 0 := by omega
      clear hs hC hLd hge
      go_wp2_with fail
      refine wp_loop_rounds 1 ?_
      rw [rounds_succ]
      go_upto_region 4 with (fail)
      refine wp_region_wd z (by kernel_rfl) (by kernel_rfl) ?_
      repeat (first | (refine wpQuiet_load_run 234 (.tmp 25) (.pointer (some ⟨g, o + (p + 1) * 9, none⟩)) (.agg (fbC e1).toArray) ?_ ?_ ?_ ?_ ?_; rfl; rfl; rfl; exact hl1; dsimp only [Act.put]; simp only [List.setIfInBounds_toArray, List.set_cons_succ, List.set_cons_zero]) | (refine wpQuiet_load_run 234 (.tmp 30) (.pointer (some ⟨g, o + p * 9, none⟩)) (.agg (fbC e2).toArray) ?_ ?_ ?_ ?_ ?_; rfl; rfl; rfl; exact hl2; dsimp only [Act.put]; simp only [List.setIfInBounds_toArray, List.set_cons_succ, List.set_cons_zero]) | go_big_quiet_step ((go_at_fn 213; with_reducible exact Wd.call _ (hcmp _))))
      refine wpQuiet_nil ?_
      rintro w'' ⟨y, rfl⟩
      go_wp2_with fail
      exact ⟨⟨p + 1, y, by go_num, rfl, by omega, by omega⟩, by simp only [intOf]; omega⟩
    · have hlI : ¬ ((p : Int) + 1 < (m : Int)) := by omega
      go_wp2_with fail
      go_end0
      exact ⟨rfl, z.q⟩
set_option maxRecDepth 100000 in
set_option maxHeartbeats 8000000 in
theorem symAB (g o cap : Nat) (l : List (Found BallotV)) (hs : SortedF l) (hn : l.length ≤ 1000) (a m b : Nat) (w : World) (hR : RowsAt w (some ⟨g, o, none⟩) 9 fbC l) (hm1 : m = a + 1) (hmb : m < b) (hb : b ≤ l.length) :
    Calls Tryz.prog 266 #[.slice (some ⟨g, o, none⟩) l.length cap, .int .i64 (a : Int), .int .i64 (m : Int), .int .i64 (b : Int), .func (.func 213) #[] #[]] w fun e w' => e = .returned (.tuple #[]) ∧ Q w w' := by
  obtain ⟨x, hx⟩ := Wd.first w
  have hLd := foundLdB hR
  have hC := fun (p q : Found BallotV) (y : Wd w) => cmpQB p q y.w
  have eg := cmpEB
  refine (show Calls Tryz.prog 266 #[.slice (some ⟨g, o, none⟩) l.length cap, .int .i64 (a : Int), .int .i64 (m : Int), .int .i64 (b : Int), .func (.func 213) #[] #[]] x.w (fun e w' => e = .returned (.tuple #[]) ∧ Q w w') → _ from fun h => by rwa [← hx] at h) ?_
  clear hx hR
  have h1 : (m : Int) - (a : Int) = 1 := by omega
  have haN : ¬ ((a : Int) < (m : Int) - 1) := by omega
  have HM := Lib.hid hm1
  clear hm1
  go_enter Tryz.func266, Tryz.ntmps266
  go_wp2_with fail
  go_loopw [10, 11] (fun i j wr => ∃ (q : Nat) (z : Wd w), i = .int .i64 (m : Int) ∧ j = .int .i64 (q : Int) ∧ wr = z.w ∧ m ≤ q ∧ q ≤ b) (fun _ j _ => (intOf j).toNat - m)
  case atStart => exact ⟨b, x, rfl, rfl, rfl, by omega, Nat.le_refl _⟩
  case round =>
    obtain ⟨q, z, rfl, rfl, rfl, hmq, hqb⟩ := hrel
    by_cases hlt : m < q
    · have hlI : (m : Int) < (q : Int) := by omega
      obtain ⟨c, hc⟩ : ∃ c, (m + q) / 2 = c := ⟨_, rfl⟩
      have hcb : m ≤ c ∧ c < q := by omega
      have hcI : ((m : Int) + (q : Int)) / 2 = (c : Int) := by omega
      clear hc
      go_upto_region 5 with (fail)
      have hcl : c < l.length := by omega
      have hal : a < l.length := by have := HM.out; omega
      have hac : a ≤ c := by have := HM.out; omega
      have hclI : (c : Int) < (l.length : Int) := by omega
      have halI : (a : Int) < (l.length : Int) := by omega
      have hl1 := hLd c hcl
      have hl2 := hLd a hal
      have hcmp := hC l[c] l[a]
      have hge := hs a c hal hcl (by omega)
      generalize cmpF l[c] l[a] = cv at *
      generalize l[c] = e1 at *
      generalize l[a] = e2 at *
      have hcv : ¬ cv < 0 := by omega
      clear hs hC hLd hge hcI
      refine wp_region_wd z (by kernel_rfl) (by kernel_rfl) ?_
      repeat (first | (refine wpQuiet_load_run 234 (.tmp 43) (.pointer (some ⟨g, o + c * 9, none⟩)) (.agg (fbC e1).toArray) ?_ ?_ ?_ ?_ ?_; rfl; rfl; rfl; exact hl1; dsimp only [Act.put]; simp only [List.setIfInBounds_toArray, List.set_cons_succ, List.set_cons_zero]) | (refine wpQuiet_load_run 234 (.tmp 47) (.pointer (some ⟨g, o + a * 9, none⟩)) (.agg (fbC e2).toArray) ?_ ?_ ?_ ?_ ?_; rfl; rfl; rfl; exact hl2; dsimp only [Act.put]; simp only [List.setIfInBounds_toArray, List.set_cons_succ, List.set_cons_zero]) | go_big_quiet_step ((go_at_fn 213; with_reducible exact Wd.call _ (hcmp _))))
      refine wpQuiet_nil ?_
      rintro w'' ⟨y, rfl⟩
      go_wp2_with fail
      exact ⟨⟨c, y, rfl, rfl, rfl, by omega, by omega⟩, by simp only [intOf]; omega⟩
    · have hlI : ¬ ((m : Int) < (q : Int)) := by omega
      clear hs hC hLd
      go_wp2_with fail
      refine wp_loop_rounds 1 ?_
      rw [rounds_succ]
      go_wp2_with fail
      (try simp only [Exit.inBlock, Exit.then])
      refine bodyPost_ret (results_none rfl _ _ _) rfl ?_
      exact ⟨rfl, z.q⟩
set_option maxRecDepth 100000 in
set_option maxHeartbeats 8000000 in
theorem symBB (g o cap : Nat) (l : List (Found BallotV)) (hs : SortedF l) (hn : l.length ≤ 1000) (a m b : Nat) (w : World) (hR : RowsAt w (some ⟨g, o, none⟩) 9 fbC l) (hm1 : m ≠ a + 1) (ham : a < m) (hmb : b = m + 1) (hb : b ≤ l.length) :
    Calls Tryz.prog 266 #[.slice (some ⟨g, o, none⟩) l.length cap, .int .i64 (a : Int), .int .i64 (m : Int), .int .i64 (b : Int), .func (.func 213) #[] #[]] w fun e w' => e = .returned (.tuple #[]) ∧ Q w w' := by
  obtain ⟨x, hx⟩ := Wd.first w
  have hLd := foundLdB hR
  have hC := fun (p q : Found BallotV) (y : Wd w) => cmpQB p q y.w
  have eg := cmpEB
  refine (show Calls Tryz.prog 266 #[.slice (some ⟨g, o, none⟩) l.length cap, .int .i64 (a : Int), .int .i64 (m : Int), .int .i64 (b : Int), .func (.func 213) #[] #[]] x.w (fun e w' => e = .returned (.tuple #[]) ∧ Q w w') → _ from fun h => by rwa [← hx] at h) ?_
  clear hx hR
  have h1 : ¬ ((m : Int) - (a : Int) = 1) := by omega
  have h2 : (b : Int) - (m : Int) = 1 := by omega
  have HM := Lib.hid hmb
  have hml : m < l.length := by omega
  clear hm1 hmb
  go_enter Tryz.func266, Tryz.ntmps266
  go_wp2_with fail
  go_loopw [14, 15] (fun i j wr => ∃ (q : Nat) (z : Wd w), i = .int .i64 (q : Int) ∧ j = .int .i64 (m : Int) ∧ wr = z.w ∧ a ≤ q ∧ q ≤ m) (fun i _ _ => m - (intOf i).toNat)
  case atStart => exact ⟨a, x, rfl, rfl, rfl, Nat.le_refl _, by omega⟩
  case round =>
    obtain ⟨q, z, rfl, rfl, rfl, hmq, hqb⟩ := hrel
    by_cases hlt : q < m
    · have hlI : (q : Int) < (m : Int) := by omega
      obtain ⟨c, hc⟩ : ∃ c, (q + m) / 2 = c := ⟨_, rfl⟩
      have hcb : q ≤ c ∧ c < m := by omega
      have hcI : ((q : Int) + (m : Int)) / 2 = (c : Int) := by omega
      clear hc
      go_upto_region 17 with (fail)
      have hcl : c < l.length := by omega
      have hclI : (c : Int) < (l.length : Int) := by omega
      have hmlI : (m : Int) < (l.length : Int) := by omega
      have hl1 := hLd m hml
      have hl2 := hLd c hcl
      have hcmp := hC l[m] l[c]
      have hge := hs c m hcl hml (by omega)
      generalize cmpF l[m] l[c] = cv at *
      generalize l[m] = e1 at *
      generalize l[c] = e2 at *
      have hcv : ¬ cv < 0 := by omega
      clear hs hC hLd hge hcI
      refine wp_region_wd z (by kernel_rfl) (by kernel_rfl) ?_
      repeat (first | (refine wpQuiet_load_run 234 (.tmp 95) (.pointer (some ⟨g, o + m * 9, none⟩)) (.agg (fbC e1).toArray) ?_ ?_ ?_ ?_ ?_; rfl; rfl; rfl; exact hl1; dsimp only [Act.put]; simp only [List.setIfInBounds_toArray, List.set_cons_succ, List.set_cons_zero]) | (refine wpQuiet_load_run 234 (.tmp 99) (.pointer (some ⟨g, o + c * 9, none⟩)) (.agg (fbC e2).toArray) ?_ ?_ ?_ ?_ ?_; rfl; rfl; rfl; exact hl2; dsimp only [Act.put]; simp only [List.setIfInBounds_toArray, List.set_cons_succ, List.set_cons_zero]) | go_big_quiet_step ((go_at_fn 213; with_reducible exact Wd.call _ (hcmp _))))
      refine wpQuiet_nil ?_
      rintro w'' ⟨y, rfl⟩
      go_wp2_with fail
      exact ⟨⟨c + 1, y, by go_num, rfl, rfl, by omega, by omega⟩, by simp only [intOf]; omega⟩
    · have hqm : q = m := by omega
      clear hs hC hLd
      subst hqm
      go_wp2_with fail
      refine wp_loop_rounds 1 ?_
      rw [rounds_succ]
      go_wp2_with fail
      (try simp only [Exit.inBlock, Exit.then])
      refine bodyPost_ret (results_none rfl _ _ _) rfl ?_
      exact ⟨rfl, z.q⟩
set_option maxRecDepth 100000 in
set_option maxHeartbeats 8000000 in
theorem symCB (g o cap : Nat) (l : List (Found BallotV)) (hs : SortedF l) (hn : l.length ≤ 1000) (a m b d : Nat) (w : World) (hR : RowsAt w (some ⟨g, o, none⟩) 9 fbC l) (hm1 : m ≠ a + 1) (hm2 : b ≠ m + 1) (ham : a < m) (hmb : m < b) (hb : b ≤ l.length) (hd : (a + b) / 2 = d) (hmd : d < m)
    (ih : ∀ a' m' b' w', a' < m' → m' < b' → b' ≤ l.length → b' - a' < b - a → RowsAt w' (some ⟨g, o, none⟩) 9 fbC l → Calls Tryz.prog 266 #[.slice (some ⟨g, o, none⟩) l.length cap, .int .i64 (a' : Int), .int .i64 (m' : Int), .int .i64 (b' : Int), .func (.func 213) #[] #[]] w' fun e w2 => e = .returned (.tuple #[]) ∧ Q w' w2) :
    Calls Tryz.prog 266 #[.slice (some ⟨g, o, none⟩) l.length cap, .int .i64 (a : Int), .int .i64 (m : Int), .int .i64 (b : Int), .func (.func 213) #[] #[]] w fun e w' => e = .returned (.tuple #[]) ∧ Q w w' := by
  obtain ⟨x, hx⟩ := Wd.first w
  have hLd := foundLdB hR
  have hC := fun (p q : Found BallotV) (y : Wd w) => cmpQB p q y.w
  have eg := cmpEB
  refine (show Calls Tryz.prog 266 #[.slice (some ⟨g, o, none⟩) l.length cap, .int .i64 (a : Int), .int .i64 (m : Int), .int .i64 (b : Int), .func (.func 213) #[] #[]] x.w (fun e w' => e = .returned (.tuple #[]) ∧ Q w w') → _ from fun h => by rwa [← hx] at h) ?_
  have hRw := fun y : Wd w => hR.q y.q
  clear hx hR
  have h1 : ¬ ((m : Int) - (a : Int) = 1) := by omega
  have h2 : ¬ ((b : Int) - (m : Int) = 1) := by omega
  have hdI : ((a : Int) + (b : Int)) / 2 = (d : Int) := by omega
  have hmdI : (d : Int) < (m : Int) := by omega
  obtain ⟨s0, hs0⟩ : ∃ s0, d + m - b = s0 := ⟨_, rfl⟩
  have hs0I : (d : Int) + (m : Int) - (b : Int) = (s0 : Int) := by omega
  have hB : s0 ≤ d ∧ d < b ∧ a ≤ d ∧ a ≤ s0 ∧ d + m - 1 - s0 < b := by omega
  have HD := Lib.hid (And.intro hd (And.intro hm1 hm2))
  clear hd hm1 hm2
  go_enter Tryz.func266, Tryz.ntmps266
  go_upto_region 25 with (fail)
  go_upto_region 32 with (fail)
  try rw [hs0I]
  go_wp2_with fail
  go_loopw [20, 21] (fun i j wr => ∃ (q : Nat) (z : Wd w), i = .int .i64 (q : Int) ∧ j = .int .i64 (d : Int) ∧ wr = z.w ∧ s0 ≤ q ∧ q ≤ d) (fun i _ _ => d - (intOf i).toNat)
  case atStart => exact ⟨s0, x, rfl, rfl, rfl, Nat.le_refl _, by omega⟩
  case round =>
    obtain ⟨q, z, rfl, rfl, rfl, hmq, hqb⟩ := hrel
    by_cases hlt : q < d
    · have hlI : (q : Int) < (d : Int) := by omega
      obtain ⟨c, hc⟩ : ∃ c, (q + d) / 2 = c := ⟨_, rfl⟩
      have hcb : q ≤ c ∧ c < d := by omega
      have hcI : ((q : Int) + (d : Int)) / 2 = (c : Int) := by omega
      obtain ⟨e, he⟩ : ∃ e, d + m - 1 - c = e := ⟨_, rfl⟩
      have heI : (d : Int) + (m : Int) - 1 - (c : Int) = (e : Int) := by omega
      have hel : e < l.length := by omega
      have hce : c ≤ e := by omega
      clear hc he
      go_upto_region 35 with (fail)
      have hcl : c < l.length := by omega
      have hclI : (c : Int) < (l.length : Int) := by omega
      have helI : (e : Int) < (l.length : Int) := by omega
      have hl1 := hLd e hel
      have hl2 := hLd c hcl
      have hcmp := hC l[e] l[c]
      have hge := hs c e hcl hel (by omega)
      generalize cmpF l[e] l[c] = cv at *
      generalize l[e] = e1 at *
      generalize l[c] = e2 at *
      have hcv : ¬ cv < 0 := by omega
      clear hs hC hLd hge hcI ih hRw
      refine wp_region_wd z (by kernel_rfl) (by kernel_rfl) ?_
      repeat (first | (refine wpQuiet_load_run 234 (.tmp 163) (.pointer (some ⟨g, o + e * 9, none⟩)) (.agg (fbC e1).toArray) ?_ ?_ ?_ ?_ ?_; rfl; rfl; rfl; exact hl1; dsimp only [Act.put]; simp only [List.setIfInBounds_toArray, List.set_cons_succ, List.set_cons_zero]) | (refine wpQuiet_load_run 234 (.tmp 167) (.pointer (some ⟨g, o + c * 9, none⟩)) (.agg (fbC e2).toArray) ?_ ?_ ?_ ?_ ?_; rfl; rfl; rfl; exact hl2; dsimp only [Act.put]; simp only [List.setIfInBounds_toArray, List.set_cons_succ, List.set_cons_zero]) | go_big_quiet_step ((go_at_fn 213; with_reducible exact Wd.call _ (hcmp _))))
      refine wpQuiet_nil ?_
      rintro w'' ⟨y, rfl⟩
      go_wp2_with fail
      exact ⟨⟨c + 1, y, by go_num, rfl, rfl, by omega, by omega⟩, by simp only [intOf]; omega⟩
    · have hqm : d = q := by omega
      have hadI : (a : Int) < (d : Int) := by obtain ⟨g1, g2, g3⟩ := HD.out; omega
      clear hs hC hLd
      subst hqm
      have hend : (d : Int) + (m : Int) - (d : Int) = (m : Int) := by omega
      have hmm : ¬ ((m : Int) < (m : Int)) := by omega
      have hdd : ¬ ((d : Int) < (d : Int)) := by omega
      have hmbI : (m : Int) < (b : Int) := by omega
      have hrec := fun y : Wd w => ih d m b y.w hmd hmb hb (by omega) (hRw y)
      clear ih hRw
      go_wp2_with (go_at_call 266; refine (hrec _).mono ?_; rintro e w' ⟨rfl, hq2⟩; obtain ⟨y, rfl⟩ := Wd.next _ hq2; clear hq2)
      go_end0
      exact ⟨rfl, y.q⟩
set_option maxRecDepth 100000 in
set_option maxHeartbeats 8000000 in
theorem symDB (g o cap : Nat) (l : List (Found BallotV)) (hs : SortedF l) (hn : l.length ≤ 1000) (a m b d : Nat) (w : World) (hR : RowsAt w (some ⟨g, o, none⟩) 9 fbC l) (hm1 : m ≠ a + 1) (hm2 : b ≠ m + 1) (ham : a < m) (hmb : m < b) (hb : b ≤ l.length) (hd : (a + b) / 2 = d) (hmd : m ≤ d)
    (ih : ∀ a' m' b' w', a' < m' → m' < b' → b' ≤ l.length → b' - a' < b - a → RowsAt w' (some ⟨g, o, none⟩) 9 fbC l → Calls Tryz.prog 266 #[.slice (some ⟨g, o, none⟩) l.length cap, .int .i64 (a' : Int), .int .i64 (m' : Int), .int .i64 (b' : Int), .func (.func 213) #[] #[]] w' fun e w2 => e = .returned (.tuple #[]) ∧ Q w' w2) :
    Calls Tryz.prog 266 #[.slice (some ⟨g, o, none⟩) l.length cap, .int .i64 (a : Int), .int .i64 (m : Int), .int .i64 (b : Int), .func (.func 213) #[] #[]] w fun e w' => e = .returned (.tuple #[]) ∧ Q w w' := by
  obtain ⟨x, hx⟩ := Wd.first w
  have hLd := foundLdB hR
  have hC := fun (p q : Found BallotV) (y : Wd w) => cmpQB p q y.w
  have eg := cmpEB
  refine (show Calls Tryz.prog 266 #[.slice (some ⟨g, o, none⟩) l.length cap, .int .i64 (a : Int), .int .i64 (m : Int), .int .i64 (b : Int), .func (.func 213) #[] #[]] x.w (fun e w' => e = .returned (.tuple #[]) ∧ Q w w') → _ from fun h => by rwa [← hx] at h) ?_
  have hRw := fun y : Wd w => hR.q y.q
  clear hx hR
  have h1 : ¬ ((m : Int) - (a : Int) = 1) := by omega
  have h2 : ¬ ((b : Int) - (m : Int) = 1) := by omega
  have hdI : ((a : Int) + (b : Int)) / 2 = (d : Int) := by omega
  have hmdI : ¬ ((d : Int) < (m : Int)) := by omega
  have hB : d < b ∧ a ≤ d ∧ d + m - 1 - a < b := by omega
  have HD := Lib.hid (And.intro hd (And.intro hm1 hm2))
  clear hd hm1 hm2
  go_enter Tryz.func266, Tryz.ntmps266
  go_upto_region 25 with (fail)
  go_upto_region 32 with (fail)
  go_wp2_with fail
  go_loopw [20, 21] (fun i j wr => ∃ (q : Nat) (z : Wd w), i = .int .i64 (q : Int) ∧ j = .int .i64 (m : Int) ∧ wr = z.w ∧ a ≤ q ∧ q ≤ m) (fun i _ _ => m - (intOf i).toNat)
  case atStart => exact ⟨a, x, rfl, rfl, rfl, Nat.le_refl _, by omega⟩
  case round =>
    obtain ⟨q, z, rfl, rfl, rfl, hmq, hqb⟩ := hrel
    by_cases hlt : q < m
    · have hlI : (q : Int) < (m : Int) := by omega
      obtain ⟨c, hc⟩ : ∃ c, (q + m) / 2 = c := ⟨_, rfl⟩
      have hcb : q ≤ c ∧ c < m := by omega
      have hcI : ((q : Int) + (m : Int)) / 2 = (c : Int) := by omega
      obtain ⟨e, he⟩ : ∃ e, d + m - 1 - c = e := ⟨_, rfl⟩
      have heI : (d : Int) + (m : Int) - 1 - (c : Int) = (e : Int) := by omega
      have hel : e < l.length := by omega
      have hce : c ≤ e := by omega
      clear hc he
      go_upto_region 35 with (fail)
      have hcl : c < l.length := by omega
      have hclI : (c : Int) < (l.length : Int) := by omega
      have helI : (e : Int) < (l.length : Int) := by omega
      have hl1 := hLd e hel
      have hl2 := hLd c hcl
      have hcmp := hC l[e] l[c]
      have hge := hs c e hcl hel (by omega)
      generalize cmpF l[e] l[c] = cv at *
      generalize l[e] = e1 at *
      generalize l[c] = e2 at *
      have hcv : ¬ cv < 0 := by omega
      clear hs hC hLd hge hcI ih hRw
      refine wp_region_wd z (by kernel_rfl) (by kernel_rfl) ?_
      repeat (first | (refine wpQuiet_load_run 234 (.tmp 163) (.pointer (some ⟨g, o + e * 9, none⟩)) (.agg (fbC e1).toArray) ?_ ?_ ?_ ?_ ?_; rfl; rfl; rfl; exact hl1; dsimp only [Act.put]; simp only [List.setIfInBounds_toArray, List.set_cons_succ, List.set_cons_zero]) | (refine wpQuiet_load_run 234 (.tmp 167) (.pointer (some ⟨g, o + c * 9, none⟩)) (.agg (fbC e2).toArray) ?_ ?_ ?_ ?_ ?_; rfl; rfl; rfl; exact hl2; dsimp only [Act.put]; simp only [List.setIfInBounds_toArray, List.set_cons_succ, List.set_cons_zero]) | go_big_quiet_step ((go_at_fn 213; with_reducible exact Wd.call _ (hcmp _))))
      refine wpQuiet_nil ?_
      rintro w'' ⟨y, rfl⟩
      go_wp2_with fail
      exact ⟨⟨c + 1, y, by go_num, rfl, rfl, by omega, by omega⟩, by simp only [intOf]; omega⟩
    · have hqm : q = m := by omega
      clear hs hC hLd
      subst hqm
      have hend : (d : Int) + (q : Int) - (q : Int) = (d : Int) := by omega
      have hmm : ¬ ((q : Int) < (q : Int)) := by omega
      have hdd : ¬ ((d : Int) < (d : Int)) := by omega
      have hamI : (a : Int) < (q : Int) := by omega
      rcases Nat.lt_or_ge q d with hqd | hqd
      · have hqdI : (q : Int) < (d : Int) := by omega
        have hrec := fun y : Wd w => ih a q d y.w ham hqd (by omega) (by omega) (hRw y)
        clear ih hRw
        go_wp2_with (go_at_call 266; refine (hrec _).mono ?_; rintro e w' ⟨rfl, hq2⟩; obtain ⟨y, rfl⟩ := Wd.next _ hq2; clear hq2)
        go_end0
        exact ⟨rfl, y.q⟩
      · have hqdI : ¬ ((q : Int) < (d : Int)) := by omega
        clear ih hRw
        go_wp2_with fail
        go_end0
        exact ⟨rfl, z.q⟩
theorem symSB (g o cap : Nat) (l : List (Found BallotV)) (hs : SortedF l) (hn : l.length ≤ 1000) : ∀ (sz a m b : Nat) (w : World), b - a < sz → a < m → m < b → b ≤ l.length → RowsAt w (some ⟨g, o, none⟩) 9 fbC l →
    Calls Tryz.prog 266 #[.slice (some ⟨g, o, none⟩) l.length cap, .int .i64 (a : Int), .int .i64 (m : Int), .int .i64 (b : Int), .func (.func 213) #[] #[]] w fun e w' => e = .returned (.tuple #[]) ∧ Q w w' := by
  intro sz
  induction sz with
  | zero => intro a m b w h; omega
  | succ sz ih =>
    intro a m b w hsz ham hmb hb hR
    by_cases h1 : m = a + 1
    · exact symAB g o cap l hs hn a m b w hR h1 hmb hb
    · by_cases h2 : b = m + 1
      · exact symBB g o cap l hs hn a m b w hR h1 ham h2 hb
      · rcases Nat.lt_or_ge ((a + b) / 2) m with h3 | h3
        · exact symCB g o cap l hs hn a m b _ w hR h1 h2 ham hmb hb rfl h3 fun a' m' b' w' g1 g2 g3 g4 g5 => ih a' m' b' w' (by omega) g1 g2 g3 g5
        · exact symDB g o cap l hs hn a m b _ w hR h1 h2 ham hmb hb rfl h3 fun a' m' b' w' g1 g2 g3 g4 g5 => ih a' m' b' w' (by omega) g1 g2 g3 g5
set_option maxRecDepth 100000 in
set_option maxHeartbeats 8000000 in
theorem stSB (g o cap : Nat) (l : List (Found BallotV)) (hs : SortedF l) (hn : l.length ≤ 1000) (w : World) (hR : RowsAt w (some ⟨g, o, none⟩) 9 fbC l) :
    Calls Tryz.prog 241 #[.slice (some ⟨g, o, none⟩) l.length cap, .int .i64 (l.length : Int), .func (.func 213) #[] #[]] w fun e w' => e = .returned (.tuple #[]) ∧ Q w w' := by
  obtain ⟨x, hx⟩ := Wd.first w
  have hIn := fun (a m : Nat) (h1 : m ≤ l.length) (h2 : a ≤ 1000) (y : Wd w) => insSB g o cap l hs hn a m y.w (hR.q y.q) h1 h2
  have hSy := fun (a m b : Nat) (h1 : a < m) (h2 : m < b) (h3 : b ≤ l.length) (y : Wd w) => symSB g o cap l hs hn (b - a + 1) a m b y.w (by omega) h1 h2 h3 (hR.q y.q)
  refine (show Calls Tryz.prog 241 #[.slice (some ⟨g, o, none⟩) l.length cap, .int .i64 (l.length : Int), .func (.func 213) #[] #[]] x.w (fun e w' => e = .returned (.tuple #[]) ∧ Q w w') → _ from fun h => by rwa [← hx] at h) ?_
  clear hx hR hs
  generalize l.length = n at *
  go_enter Tryz.func241, Tryz.ntmps241
  go_wp2_with fail
  go_loopw [7, 8] (fun a b wr => ∃ (q : Nat) (z : Wd w), a = .int .i64 (q : Int) ∧ b = .int .i64 ((q : Int) + 20) ∧ wr = z.w ∧ q ≤ n) (fun a _ _ => n - (intOf a).toNat)
  case atStart => exact ⟨0, x, rfl, rfl, rfl, Nat.zero_le _⟩
  case round =>
    obtain ⟨q, z, rfl, rfl, rfl, hq⟩ := hrel
    by_cases hlt : q + 20 ≤ n
    · have hlI : (q : Int) + 20 ≤ (n : Int) := by omega
      have h1 : ∀ y : Wd w, Calls Tryz.prog 265 #[.slice (some ⟨g, o, none⟩) n cap, .int .i64 (q : Int), .int .i64 ((q : Int) + 20), .func (.func 213) #[] #[]] y.w fun e w' => e = .returned (.tuple #[]) ∧ Q y.w w' := hIn q (q + 20) hlt (by omega)
      clear hIn hSy
      go_wp2_with (go_at_call 265; refine (h1 _).mono ?_; rintro e w' ⟨rfl, hq2⟩; obtain ⟨y, rfl⟩ := Wd.next _ hq2; clear hq2)
      exact ⟨⟨q + 20, y, by go_num, by go_num, rfl, by omega⟩, by simp only [intOf]; omega⟩
    · have hlI : ¬ ((q : Int) + 20 ≤ (n : Int)) := by omega
      have h1 := fun y : Wd w => hIn q n (Nat.le_refl _) (by omega) y
      clear hIn
      go_wp2_with (go_at_call 265; refine (h1 _).mono ?_; rintro e w' ⟨rfl, hq2⟩; obtain ⟨y, rfl⟩ := Wd.next _ hq2; clear hq2)
      clear h1
      go_loopw [6, 7, 8, 9] (fun s _ _ _ wr => ∃ (bs : Nat) (z : Wd w), s = .int .i64 (bs : Int) ∧ wr = z.w ∧ 20 ≤ bs ∧ bs ≤ 2000) (fun s _ _ _ _ => 2000 - (intOf s).toNat)
      case atStart => exact ⟨20, y, rfl, rfl, Nat.le_refl _, by omega⟩
      case round =>
        clear hlt hlI hq
        obtain ⟨bs, z2, rfl, rfl, hb1, hb2⟩ := hrel
        by_cases hlt2 : bs < n
        · have hlI2 : (bs : Int) < (n : Int) := by omega
          go_wp2_with fail
          go_loopw [7, 8] (fun a b wr => ∃ (q : Nat) (z : Wd w), a = .int .i64 (q : Int) ∧ b = .int .i64 ((q : Int) + 2 * (bs : Int)) ∧ wr = z.w ∧ q ≤ n) (fun a _ _ => n - (intOf a).toNat)
          case atStart => exact ⟨0, z2, rfl, by go_num, rfl, Nat.zero_le _⟩
          case round =>
            obtain ⟨q3, z3, rfl, rfl, rfl, hq3⟩ := hrel
            by_cases hlt3 : q3 + 2 * bs ≤ n
            · have hlI3 : (q3 : Int) + 2 * (bs : Int) ≤ (n : Int) := by omega
              have h1 : ∀ y : Wd w, Calls Tryz.prog 266 #[.slice (some ⟨g, o, none⟩) n cap, .int .i64 (q3 : Int), .int .i64 ((q3 : Int) + (bs : Int)), .int .i64 ((q3 : Int) + 2 * (bs : Int)), .func (.func 213) #[] #[]] y.w fun e w' => e = .returned (.tuple #[]) ∧ Q y.w w' := fun y => by
                have := hSy q3 (q3 + bs) (q3 + 2 * bs) (by omega) (by omega) hlt3 y
                simpa using this
              clear hSy
              go_wp2_with (go_at_call 266; refine (h1 _).mono ?_; rintro e w' ⟨rfl, hq2⟩; obtain ⟨y, rfl⟩ := Wd.next _ hq2; clear hq2)
              exact ⟨⟨q3 + 2 * bs, y, by go_num, by go_num, rfl, by omega⟩, by simp only [intOf]; omega⟩
            · have hlI3 : ¬ ((q3 : Int) + 2 * (bs : Int) ≤ (n : Int)) := by omega
              by_cases hlt4 : q3 + bs < n
              · have hlI4 : (q3 : Int) + (bs : Int) < (n : Int) := by omega
                have h1 : ∀ y : Wd w, Calls Tryz.prog 266 #[.slice (some ⟨g, o, none⟩) n cap, .int .i64 (q3 : Int), .int .i64 ((q3 : Int) + (bs : Int)), .int .i64 (n : Int), .func (.func 213) #[] #[]] y.w fun e w' => e = .returned (.tuple #[]) ∧ Q y.w w' := fun y => by
                  have := hSy q3 (q3 + bs) n (by omega) hlt4 (Nat.le_refl _) y
                  simpa using this
                clear hSy
                go_wp2_with (go_at_call 266; refine (h1 _).mono ?_; rintro e w' ⟨rfl, hq2⟩; obtain ⟨y, rfl⟩ := Wd.next _ hq2; clear hq2)
                exact ⟨⟨bs * 2, y, by go_num, rfl, by omega, by omega⟩, by simp only [intOf]; omega⟩
              · have hlI4 : ¬ ((q3 : Int) + (bs : Int) < (n : Int)) := by omega
                clear hSy
                go_wp2_with fail
                exact ⟨⟨bs * 2, z3, by go_num, rfl, by omega, by omega⟩, by simp only [intOf]; omega⟩
        · have hlI2 : ¬ ((bs : Int) < (n : Int)) := by omega
          go_wp2_with fail
          go_end0
          exact ⟨rfl, z2.q⟩
set_option maxRecDepth 100000 in
theorem srtSB (g o cap : Nat) (l : List (Found BallotV)) (hs : SortedF l) (hn : l.length ≤ 1000) (w : World) (hR : RowsAt w (some ⟨g, o, none⟩) 9 fbC l) :
    Calls Tryz.prog 212 #[.slice (some ⟨g, o, none⟩) l.length cap, .func (.func 213) #[] #[]] w fun e w' => e = .returned (.tuple #[]) ∧ Q w w' := by
  have hst := stSB g o cap l hs hn w hR
  clear hs hR
  generalize l.length = n at *
  go_enter Tryz.func212, Tryz.ntmps212
  go_wp2_with (go_at_call 241; refine hst.mono ?_; rintro e w' ⟨rfl, hq2⟩)
  go_end0
  exact ⟨rfl, hq2⟩

/-! ### Claim -/
theorem cmpQCl (x y : Found ClaimV) (W : World) : Calls Tryz.prog 177 #[.agg (fclC x).toArray, .agg (fclC y).toArray] W fun e w' => e = .returned (.int .i64 (cmpF x y)) ∧ Q W w' :=
  (cmpCl_any x y W).mono fun e w' ⟨h1, q, os, h2⟩ => ⟨h1, by rw [h2]; exact q_growd W q os⟩
theorem cmpECl : ∀ args w, (callFunc 177 args).run Tryz.prog w = .ok (.enter 177 args) w := fun args w => enter_run (fn := Tryz.f177) Tryz.func177 (by kernel_rfl) rfl args w
theorem foundLdCl {g o : Nat} {l : List (Found ClaimV)} {w : World} (hR : RowsAt w (some ⟨g, o, none⟩) 11 fclC l) (j : Nat) (hj : j < l.length) : ∀ y : Wd w, (Instr.loadAt 208 (.pointer (some ⟨g, o + j * 11, none⟩))).run Tryz.prog y.w = .ok (.agg (fclC l[j]).toArray) y.w := by
  obtain ⟨b, o2, e, hb, hc⟩ := hR (by omega)
  injection e with e
  injection e with e1 e2
  subst e1
  subst e2
  exact Wd.load hb (hc j hj) Tryz.underlying208 rfl (by kernel_rfl)
set_option maxRecDepth 100000 in
set_option maxHeartbeats 4000000 in
theorem insSCl (g o cap : Nat) (l : List (Found ClaimV)) (hs : SortedF l) (hn : l.length ≤ 1000) (a m : Nat) (w : World) (hR : RowsAt w (some ⟨g, o, none⟩) 11 fclC l) (hm : m ≤ l.length) (ham : a ≤ 1000) :
    Calls Tryz.prog 243 #[.slice (some ⟨g, o, none⟩) l.length cap, .int .i64 (a : Int), .int .i64 (m : Int), .func (.func 177) #[] #[]] w fun e w' => e = .returned (.tuple #[]) ∧ Q w w' := by
  obtain ⟨x, hx⟩ := Wd.first w
  have hLd := foundLdCl hR
  have hC := fun (p q : Found ClaimV) (y : Wd w) => cmpQCl p q y.w
  have eg := cmpECl
  refine (show Calls Tryz.prog 243 #[.slice (some ⟨g, o, none⟩) l.length cap, .int .i64 (a : Int), .int .i64 (m : Int), .func (.func 177) #[] #[]] x.w (fun e w' => e = .returned (.tuple #[]) ∧ Q w w') → _ from fun h => by rwa [← hx] at h) ?_
  clear hx hR
  go_enter Tryz.func243, Tryz.ntmps243
  go_wp2_with fail
  go_loopw [8] (fun i wr => ∃ (p : Nat) (z : Wd w), i = .int .i64 ((p : Int) + 1) ∧ wr = z.w ∧ a ≤ p ∧ p ≤ 1000) (fun i _ => m - (intOf i).toNat)
  case atStart => exact ⟨a, x, rfl, rfl, Nat.le_refl _, ham⟩
  case round =>
    obtain ⟨p, z, rfl, rfl, hap, hp⟩ := hrel
    by_cases hlt : p + 1 < m
    · have hlI : (p : Int) + 1 < (m : Int) := by omega
      have hp1 : p + 1 < l.length := by omega
      have hpI : (p : Int) + 1 < (l.length : Int) := by omega
      have hpJ : (p : Int) < (l.length : Int) := by omega
      have haI : (a : Int) < (p : Int) + 1 := by omega
      have hl1 := hLd (p + 1) hp1
      have hl2 := hLd p (by omega)
      have hcmp := hC l[p + 1] l[p]
      have hge := hs p (p + 1) (by omega) hp1 (by omega)
      generalize cmpF l[p + 1] l[p] = cv at *
      generalize l[p + 1] = e1 at *
      generalize l[p] = e2 at *
      have htn : ((p : Int) + 1).toNat = p + 1 := by omega
      have hcv : ¬ cv < 0 := by omega
      clear hs hC hLd hge
      go_wp2_with fail
      refine wp_loop_rounds 1 ?_
      rw [rounds_succ]
      go_upto_region 4 with (fail)
      refine wp_region_wd z (by kernel_rfl) (by kernel_rfl) ?_
      repeat (first | (refine wpQuiet_load_run 208 (.tmp 25) (.pointer (some ⟨g, o + (p + 1) * 11, none⟩)) (.agg (fclC e1).toArray) ?_ ?_ ?_ ?_ ?_; rfl; rfl; rfl; exact hl1; dsimp only [Act.put]; simp only [List.setIfInBounds_toArray, List.set_cons_succ, List.set_cons_zero]) | (refine wpQuiet_load_run 208 (.tmp 30) (.pointer (some ⟨g, o + p * 11, none⟩)) (.agg (fclC e2).toArray) ?_ ?_ ?_ ?_ ?_; rfl; rfl; rfl; exact hl2; dsimp only [Act.put]; simp only [List.setIfInBounds_toArray, List.set_cons_succ, List.set_cons_zero]) | go_big_quiet_step ((go_at_fn 177; with_reducible exact Wd.call _ (hcmp _))))
      refine wpQuiet_nil ?_
      rintro w'' ⟨y, rfl⟩
      go_wp2_with fail
      exact ⟨⟨p + 1, y, by go_num, rfl, by omega, by omega⟩, by simp only [intOf]; omega⟩
    · have hlI : ¬ ((p : Int) + 1 < (m : Int)) := by omega
      go_wp2_with fail
      go_end0
      exact ⟨rfl, z.q⟩
set_option maxRecDepth 100000 in
set_option maxHeartbeats 8000000 in
theorem symACl (g o cap : Nat) (l : List (Found ClaimV)) (hs : SortedF l) (hn : l.length ≤ 1000) (a m b : Nat) (w : World) (hR : RowsAt w (some ⟨g, o, none⟩) 11 fclC l) (hm1 : m = a + 1) (hmb : m < b) (hb : b ≤ l.length) :
    Calls Tryz.prog 244 #[.slice (some ⟨g, o, none⟩) l.length cap, .int .i64 (a : Int), .int .i64 (m : Int), .int .i64 (b : Int), .func (.func 177) #[] #[]] w fun e w' => e = .returned (.tuple #[]) ∧ Q w w' := by
  obtain ⟨x, hx⟩ := Wd.first w
  have hLd := foundLdCl hR
  have hC := fun (p q : Found ClaimV) (y : Wd w) => cmpQCl p q y.w
  have eg := cmpECl
  refine (show Calls Tryz.prog 244 #[.slice (some ⟨g, o, none⟩) l.length cap, .int .i64 (a : Int), .int .i64 (m : Int), .int .i64 (b : Int), .func (.func 177) #[] #[]] x.w (fun e w' => e = .returned (.tuple #[]) ∧ Q w w') → _ from fun h => by rwa [← hx] at h) ?_
  clear hx hR
  have h1 : (m : Int) - (a : Int) = 1 := by omega
  have haN : ¬ ((a : Int) < (m : Int) - 1) := by omega
  have HM := Lib.hid hm1
  clear hm1
  go_enter Tryz.func244, Tryz.ntmps244
  go_wp2_with fail
  go_loopw [10, 11] (fun i j wr => ∃ (q : Nat) (z : Wd w), i = .int .i64 (m : Int) ∧ j = .int .i64 (q : Int) ∧ wr = z.w ∧ m ≤ q ∧ q ≤ b) (fun _ j _ => (intOf j).toNat - m)
  case atStart => exact ⟨b, x, rfl, rfl, rfl, by omega, Nat.le_refl _⟩
  case round =>
    obtain ⟨q, z, rfl, rfl, rfl, hmq, hqb⟩ := hrel
    by_cases hlt : m < q
    · have hlI : (m : Int) < (q : Int) := by omega
      obtain ⟨c, hc⟩ : ∃ c, (m + q) / 2 = c := ⟨_, rfl⟩
      have hcb : m ≤ c ∧ c < q := by omega
      have hcI : ((m : Int) + (q : Int)) / 2 = (c : Int) := by omega
      clear hc
      go_upto_region 5 with (fail)
      have hcl : c < l.length := by omega
      have hal : a < l.length := by have := HM.out; omega
      have hac : a ≤ c := by have := HM.out; omega
      have hclI : (c : Int) < (l.length : Int) := by omega
      have halI : (a : Int) < (l.length : Int) := by omega
      have hl1 := hLd c hcl
      have hl2 := hLd a hal
      have hcmp := hC l[c] l[a]
      have hge := hs a c hal hcl (by omega)
      generalize cmpF l[c] l[a] = cv at *
      generalize l[c] = e1 at *
      generalize l[a] = e2 at *
      have hcv : ¬ cv < 0 := by omega
      clear hs hC hLd hge hcI
      refine wp_region_wd z (by kernel_rfl) (by kernel_rfl) ?_
      repeat (first | (refine wpQuiet_load_run 208 (.tmp 43) (.pointer (some ⟨g, o + c * 11, none⟩)) (.agg (fclC e1).toArray) ?_ ?_ ?_ ?_ ?_; rfl; rfl; rfl; exact hl1; dsimp only [Act.put]; simp only [List.setIfInBounds_toArray, List.set_cons_succ, List.set_cons_zero]) | (refine wpQuiet_load_run 208 (.tmp 47) (.pointer (some ⟨g, o + a * 11, none⟩)) (.agg (fclC e2).toArray) ?_ ?_ ?_ ?_ ?_; rfl; rfl; rfl; exact hl2; dsimp only [Act.put]; simp only [List.setIfInBounds_toArray, List.set_cons_succ, List.set_cons_zero]) | go_big_quiet_step ((go_at_fn 177; with_reducible exact Wd.call _ (hcmp _))))
      refine wpQuiet_nil ?_
      rintro w'' ⟨y, rfl⟩
      go_wp2_with fail
      exact ⟨⟨c, y, rfl, rfl, rfl, by omega, by omega⟩, by simp only [intOf]; omega⟩
    · have hlI : ¬ ((m : Int) < (q : Int)) := by omega
      clear hs hC hLd
      go_wp2_with fail
      refine wp_loop_rounds 1 ?_
      rw [rounds_succ]
      go_wp2_with fail
      (try simp only [Exit.inBlock, Exit.then])
      refine bodyPost_ret (results_none rfl _ _ _) rfl ?_
      exact ⟨rfl, z.q⟩
set_option maxRecDepth 100000 in
set_option maxHeartbeats 8000000 in
theorem symBCl (g o cap : Nat) (l : List (Found ClaimV)) (hs : SortedF l) (hn : l.length ≤ 1000) (a m b : Nat) (w : World) (hR : RowsAt w (some ⟨g, o, none⟩) 11 fclC l) (hm1 : m ≠ a + 1) (ham : a < m) (hmb : b = m + 1) (hb : b ≤ l.length) :
    Calls Tryz.prog 244 #[.slice (some ⟨g, o, none⟩) l.length cap, .int .i64 (a : Int), .int .i64 (m : Int), .int .i64 (b : Int), .func (.func 177) #[] #[]] w fun e w' => e = .returned (.tuple #[]) ∧ Q w w' := by
  obtain ⟨x, hx⟩ := Wd.first w
  have hLd := foundLdCl hR
  have hC := fun (p q : Found ClaimV) (y : Wd w) => cmpQCl p q y.w
  have eg := cmpECl
  refine (show Calls Tryz.prog 244 #[.slice (some ⟨g, o, none⟩) l.length cap, .int .i64 (a : Int), .int .i64 (m : Int), .int .i64 (b : Int), .func (.func 177) #[] #[]] x.w (fun e w' => e = .returned (.tuple #[]) ∧ Q w w') → _ from fun h => by rwa [← hx] at h) ?_
  clear hx hR
  have h1 : ¬ ((m : Int) - (a : Int) = 1) := by omega
  have h2 : (b : Int) - (m : Int) = 1 := by omega
  have HM := Lib.hid hmb
  have hml : m < l.length := by omega
  clear hm1 hmb
  go_enter Tryz.func244, Tryz.ntmps244
  go_wp2_with fail
  go_loopw [14, 15] (fun i j wr => ∃ (q : Nat) (z : Wd w), i = .int .i64 (q : Int) ∧ j = .int .i64 (m : Int) ∧ wr = z.w ∧ a ≤ q ∧ q ≤ m) (fun i _ _ => m - (intOf i).toNat)
  case atStart => exact ⟨a, x, rfl, rfl, rfl, Nat.le_refl _, by omega⟩
  case round =>
    obtain ⟨q, z, rfl, rfl, rfl, hmq, hqb⟩ := hrel
    by_cases hlt : q < m
    · have hlI : (q : Int) < (m : Int) := by omega
      obtain ⟨c, hc⟩ : ∃ c, (q + m) / 2 = c := ⟨_, rfl⟩
      have hcb : q ≤ c ∧ c < m := by omega
      have hcI : ((q : Int) + (m : Int)) / 2 = (c : Int) := by omega
      clear hc
      go_upto_region 17 with (fail)
      have hcl : c < l.length := by omega
      have hclI : (c : Int) < (l.length : Int) := by omega
      have hmlI : (m : Int) < (l.length : Int) := by omega
      have hl1 := hLd m hml
      have hl2 := hLd c hcl
      have hcmp := hC l[m] l[c]
      have hge := hs c m hcl hml (by omega)
      generalize cmpF l[m] l[c] = cv at *
      generalize l[m] = e1 at *
      generalize l[c] = e2 at *
      have hcv : ¬ cv < 0 := by omega
      clear hs hC hLd hge hcI
      refine wp_region_wd z (by kernel_rfl) (by kernel_rfl) ?_
      repeat (first | (refine wpQuiet_load_run 208 (.tmp 95) (.pointer (some ⟨g, o + m * 11, none⟩)) (.agg (fclC e1).toArray) ?_ ?_ ?_ ?_ ?_; rfl; rfl; rfl; exact hl1; dsimp only [Act.put]; simp only [List.setIfInBounds_toArray, List.set_cons_succ, List.set_cons_zero]) | (refine wpQuiet_load_run 208 (.tmp 99) (.pointer (some ⟨g, o + c * 11, none⟩)) (.agg (fclC e2).toArray) ?_ ?_ ?_ ?_ ?_; rfl; rfl; rfl; exact hl2; dsimp only [Act.put]; simp only [List.setIfInBounds_toArray, List.set_cons_succ, List.set_cons_zero]) | go_big_quiet_step ((go_at_fn 177; with_reducible exact Wd.call _ (hcmp _))))
      refine wpQuiet_nil ?_
      rintro w'' ⟨y, rfl⟩
      go_wp2_with fail
      exact ⟨⟨c + 1, y, by go_num, rfl, rfl, by omega, by omega⟩, by simp only [intOf]; omega⟩
    · have hqm : q = m := by omega
      clear hs hC hLd
      subst hqm
      go_wp2_with fail
      refine wp_loop_rounds 1 ?_
      rw [rounds_succ]
      go_wp2_with fail
      (try simp only [Exit.inBlock, Exit.then])
      refine bodyPost_ret (results_none rfl _ _ _) rfl ?_
      exact ⟨rfl, z.q⟩
set_option maxRecDepth 100000 in
set_option maxHeartbeats 8000000 in
theorem symCCl (g o cap : Nat) (l : List (Found ClaimV)) (hs : SortedF l) (hn : l.length ≤ 1000) (a m b d : Nat) (w : World) (hR : RowsAt w (some ⟨g, o, none⟩) 11 fclC l) (hm1 : m ≠ a + 1) (hm2 : b ≠ m + 1) (ham : a < m) (hmb : m < b) (hb : b ≤ l.length) (hd : (a + b) / 2 = d) (hmd : d < m)
    (ih : ∀ a' m' b' w', a' < m' → m' < b' → b' ≤ l.length → b' - a' < b - a → RowsAt w' (some ⟨g, o, none⟩) 11 fclC l → Calls Tryz.prog 244 #[.slice (some ⟨g, o, none⟩) l.length cap, .int .i64 (a' : Int), .int .i64 (m' : Int), .int .i64 (b' : Int), .func (.func 177) #[] #[]] w' fun e w2 => e = .returned (.tuple #[]) ∧ Q w' w2) :
    Calls Tryz.prog 244 #[.slice (some ⟨g, o, none⟩) l.length cap, .int .i64 (a : Int), .int .i64 (m : Int), .int .i64 (b : Int), .func (.func 177) #[] #[]] w fun e w' => e = .returned (.tuple #[]) ∧ Q w w' := by
  obtain ⟨x, hx⟩ := Wd.first w
  have hLd := foundLdCl hR
  have hC := fun (p q : Found ClaimV) (y : Wd w) => cmpQCl p q y.w
  have eg := cmpECl
  refine (show Calls Tryz.prog 244 #[.slice (some ⟨g, o, none⟩) l.length cap, .int .i64 (a : Int), .int .i64 (m : Int), .int .i64 (b : Int), .func (.func 177) #[] #[]] x.w (fun e w' => e = .returned (.tuple #[]) ∧ Q w w') → _ from fun h => by rwa [← hx] at h) ?_
  have hRw := fun y : Wd w => hR.q y.q
  clear hx hR
  have h1 : ¬ ((m : Int) - (a : Int) = 1) := by omega
  have h2 : ¬ ((b : Int) - (m : Int) = 1) := by omega
  have hdI : ((a : Int) + (b : Int)) / 2 = (d : Int) := by omega
  have hmdI : (d : Int) < (m : Int) := by omega
  obtain ⟨s0, hs0⟩ : ∃ s0, d + m - b = s0 := ⟨_, rfl⟩
  have hs0I : (d : Int) + (m : Int) - (b : Int) = (s0 : Int) := by omega
  have hB : s0 ≤ d ∧ d < b ∧ a ≤ d ∧ a ≤ s0 ∧ d + m - 1 - s0 < b := by omega
  have HD := Lib.hid (And.intro hd (And.intro hm1 hm2))
  clear hd hm1 hm2
  go_enter Tryz.func244, Tryz.ntmps244
  go_upto_region 25 with (fail)
  go_upto_region 32 with (fail)
  try rw [hs0I]
  go_wp2_with fail
  go_loopw [20, 21] (fun i j wr => ∃ (q : Nat) (z : Wd w), i = .int .i64 (q : Int) ∧ j = .int .i64 (d : Int) ∧ wr = z.w ∧ s0 ≤ q ∧ q ≤ d) (fun i _ _ => d - (intOf i).toNat)
  case atStart => exact ⟨s0, x, rfl, rfl, rfl, Nat.le_refl _, by omega⟩
  case round =>
    obtain ⟨q, z, rfl, rfl, rfl, hmq, hqb⟩ := hrel
    by_cases hlt : q < d
    · have hlI : (q : Int) < (d : Int) := by omega
      obtain ⟨c, hc⟩ : ∃ c, (q + d) / 2 = c := ⟨_, rfl⟩
      have hcb : q ≤ c ∧ c < d := by omega
      have hcI : ((q : Int) + (d : Int)) / 2 = (c : Int) := by omega
      obtain ⟨e, he⟩ : ∃ e, d + m - 1 - c = e := ⟨_, rfl⟩
      have heI : (d : Int) + (m : Int) - 1 - (c : Int) = (e : Int) := by omega
      have hel : e < l.length := by omega
      have hce : c ≤ e := by omega
      clear hc he
      go_upto_region 35 with (fail)
      have hcl : c < l.length := by omega
      have hclI : (c : Int) < (l.length : Int) := by omega
      have helI : (e : Int) < (l.length : Int) := by omega
      have hl1 := hLd e hel
      have hl2 := hLd c hcl
      have hcmp := hC l[e] l[c]
      have hge := hs c e hcl hel (by omega)
      generalize cmpF l[e] l[c] = cv at *
      generalize l[e] = e1 at *
      generalize l[c] = e2 at *
      have hcv : ¬ cv < 0 := by omega
      clear hs hC hLd hge hcI ih hRw
      refine wp_region_wd z (by kernel_rfl) (by kernel_rfl) ?_
      repeat (first | (refine wpQuiet_load_run 208 (.tmp 163) (.pointer (some ⟨g, o + e * 11, none⟩)) (.agg (fclC e1).toArray) ?_ ?_ ?_ ?_ ?_; rfl; rfl; rfl; exact hl1; dsimp only [Act.put]; simp only [List.setIfInBounds_toArray, List.set_cons_succ, List.set_cons_zero]) | (refine wpQuiet_load_run 208 (.tmp 167) (.pointer (some ⟨g, o + c * 11, none⟩)) (.agg (fclC e2).toArray) ?_ ?_ ?_ ?_ ?_; rfl; rfl; rfl; exact hl2; dsimp only [Act.put]; simp only [List.setIfInBounds_toArray, List.set_cons_succ, List.set_cons_zero]) | go_big_quiet_step ((go_at_fn 177; with_reducible exact Wd.call _ (hcmp _))))
      refine wpQuiet_nil ?_
      rintro w'' ⟨y, rfl⟩
      go_wp2_with fail
      exact ⟨⟨c + 1, y, by go_num, rfl, rfl, by omega, by omega⟩, by simp only [intOf]; omega⟩
    · have hqm : d = q := by omega
      have hadI : (a : Int) < (d : Int) := by obtain ⟨g1, g2, g3⟩ := HD.out; omega
      clear hs hC hLd
      subst hqm
      have hend : (d : Int) + (m : Int) - (d : Int) = (m : Int) := by omega
      have hmm : ¬ ((m : Int) < (m : Int)) := by omega
      have hdd : ¬ ((d : Int) < (d : Int)) := by omega
      have hmbI : (m : Int) < (b : Int) := by omega
      have hrec := fun y : Wd w => ih d m b y.w hmd hmb hb (by omega) (hRw y)
      clear ih hRw
      go_wp2_with (go_at_call 244; refine (hrec _).mono ?_; rintro e w' ⟨rfl, hq2⟩; obtain ⟨y, rfl⟩ := Wd.next _ hq2; clear hq2)
      go_end0
      exact ⟨rfl, y.q⟩
set_option maxRecDepth 100000 in
set_option maxHeartbeats 8000000 in
theorem symDCl (g o cap : Nat) (l : List (Found ClaimV)) (hs : SortedF l) (hn : l.length ≤ 1000) (a m b d : Nat) (w : World) (hR : RowsAt w (some ⟨g, o, none⟩) 11 fclC l) (hm1 : m ≠ a + 1) (hm2 : b ≠ m + 1) (ham : a < m) (hmb : m < b) (hb : b ≤ l.length) (hd : (a + b) / 2 = d) (hmd : m ≤ d)
    (ih : ∀ a' m' b' w', a' < m' → m' < b' → b' ≤ l.length → b' - a' < b - a → RowsAt w' (some ⟨g, o, none⟩) 11 fclC l → Calls Tryz.prog 244 #[.slice (some ⟨g, o, none⟩) l.length cap, .int .i64 (a' : Int), .int .i64 (m' : Int), .int .i64 (b' : Int), .func (.func 177) #[] #[]] w' fun e w2 => e = .returned (.tuple #[]) ∧ Q w' w2) :
    Calls Tryz.prog 244 #[.slice (some ⟨g, o, none⟩) l.length cap, .int .i64 (a : Int), .int .i64 (m : Int), .int .i64 (b : Int), .func (.func 177) #[] #[]] w fun e w' => e = .returned (.tuple #[]) ∧ Q w w' := by
  obtain ⟨x, hx⟩ := Wd.first w
  have hLd := foundLdCl hR
  have hC := fun (p q : Found ClaimV) (y : Wd w) => cmpQCl p q y.w
  have eg := cmpECl
  refine (show Calls Tryz.prog 244 #[.slice (some ⟨g, o, none⟩) l.length cap, .int .i64 (a : Int), .int .i64 (m : Int), .int .i64 (b : Int), .func (.func 177) #[] #[]] x.w (fun e w' => e = .returned (.tuple #[]) ∧ Q w w') → _ from fun h => by rwa [← hx] at h) ?_
  have hRw := fun y : Wd w => hR.q y.q
  clear hx hR
  have h1 : ¬ ((m : Int) - (a : Int) = 1) := by omega
  have h2 : ¬ ((b : Int) - (m : Int) = 1) := by omega
  have hdI : ((a : Int) + (b : Int)) / 2 = (d : Int) := by omega
  have hmdI : ¬ ((d : Int) < (m : Int)) := by omega
  have hB : d < b ∧ a ≤ d ∧ d + m - 1 - a < b := by omega
  have HD := Lib.hid (And.intro hd (And.intro hm1 hm2))
  clear hd hm1 hm2
  go_enter Tryz.func244, Tryz.ntmps244
  go_upto_region 25 with (fail)
  go_upto_region 32 with (fail)
  go_wp2_with fail
  go_loopw [20, 21] (fun i j wr => ∃ (q : Nat) (z : Wd w), i = .int .i64 (q : Int) ∧ j = .int .i64 (m : Int) ∧ wr = z.w ∧ a ≤ q ∧ q ≤ m) (fun i _ _ => m - (intOf i).toNat)
  case atStart => exact ⟨a, x, rfl, rfl, rfl, Nat.le_refl _, by omega⟩
  case round =>
    obtain ⟨q, z, rfl, rfl, rfl, hmq, hqb⟩ := hrel
    by_cases hlt : q < m
    · have hlI : (q : Int) < (m : Int) := by omega
      obtain ⟨c, hc⟩ : ∃ c, (q + m) / 2 = c := ⟨_, rfl⟩
      have hcb : q ≤ c ∧ c < m := by omega
      have hcI : ((q : Int) + (m : Int)) / 2 = (c : Int) := by omega
      obtain ⟨e, he⟩ : ∃ e, d + m - 1 - c = e := ⟨_, rfl⟩
      have heI : (d : Int) + (m : Int) - 1 - (c : Int) = (e : Int) := by omega
      have hel : e < l.length := by omega
      have hce : c ≤ e := by omega
      clear hc he
      go_upto_region 35 with (fail)
      have hcl : c < l.length := by omega
      have hclI : (c : Int) < (l.length : Int) := by omega
      have helI : (e : Int) < (l.length : Int) := by omega
      have hl1 := hLd e hel
      have hl2 := hLd c hcl
      have hcmp := hC l[e] l[c]
      have hge := hs c e hcl hel (by omega)
      generalize cmpF l[e] l[c] = cv at *
      generalize l[e] = e1 at *
      generalize l[c] = e2 at *
      have hcv : ¬ cv < 0 := by omega
      clear hs hC hLd hge hcI ih hRw
      refine wp_region_wd z (by kernel_rfl) (by kernel_rfl) ?_
      repeat (first | (refine wpQuiet_load_run 208 (.tmp 163) (.pointer (some ⟨g, o + e * 11, none⟩)) (.agg (fclC e1).toArray) ?_ ?_ ?_ ?_ ?_; rfl; rfl; rfl; exact hl1; dsimp only [Act.put]; simp only [List.setIfInBounds_toArray, List.set_cons_succ, List.set_cons_zero]) | (refine wpQuiet_load_run 208 (.tmp 167) (.pointer (some ⟨g, o + c * 11, none⟩)) (.agg (fclC e2).toArray) ?_ ?_ ?_ ?_ ?_; rfl; rfl; rfl; exact hl2; dsimp only [Act.put]; simp only [List.setIfInBounds_toArray, List.set_cons_succ, List.set_cons_zero]) | go_big_quiet_step ((go_at_fn 177; with_reducible exact Wd.call _ (hcmp _))))
      refine wpQuiet_nil ?_
      rintro w'' ⟨y, rfl⟩
      go_wp2_with fail
      exact ⟨⟨c + 1, y, by go_num, rfl, rfl, by omega, by omega⟩, by simp only [intOf]; omega⟩
    · have hqm : q = m := by omega
      clear hs hC hLd
      subst hqm
      have hend : (d : Int) + (q : Int) - (q : Int) = (d : Int) := by omega
      have hmm : ¬ ((q : Int) < (q : Int)) := by omega
      have hdd : ¬ ((d : Int) < (d : Int)) := by omega
      have hamI : (a : Int) < (q : Int) := by omega
      rcases Nat.lt_or_ge q d with hqd | hqd
      · have hqdI : (q : Int) < (d : Int) := by omega
        have hrec := fun y : Wd w => ih a q d y.w ham hqd (by omega) (by omega) (hRw y)
        clear ih hRw
        go_wp2_with (go_at_call 244; refine (hrec _).mono ?_; rintro e w' ⟨rfl, hq2⟩; obtain ⟨y, rfl⟩ := Wd.next _ hq2; clear hq2)
        go_end0
        exact ⟨rfl, y.q⟩
      · have hqdI : ¬ ((q : Int) < (d : Int)) := by omega
        clear ih hRw
        go_wp2_with fail
        go_end0
        exact ⟨rfl, z.q⟩
theorem symSCl (g o cap : Nat) (l : List (Found ClaimV)) (hs : SortedF l) (hn : l.length ≤ 1000) : ∀ (sz a m b : Nat) (w : World), b - a < sz → a < m → m < b → b ≤ l.length → RowsAt w (some ⟨g, o, none⟩) 11 fclC l →
    Calls Tryz.prog 244 #[.slice (some ⟨g, o, none⟩) l.length cap, .int .i64 (a : Int), .int .i64 (m : Int), .int .i64 (b : Int), .func (.func 177) #[] #[]] w fun e w' => e = .returned (.tuple #[]) ∧ Q w w' := by
  intro sz
  induction sz with
  | zero => intro a m b w h; omega
  | succ sz ih =>
    intro a m b w hsz ham hmb hb hR
    by_cases h1 : m = a + 1
    · exact symACl g o cap l hs hn a m b w hR h1 hmb hb
    · by_cases h2 : b = m + 1
      · exact symBCl g o cap l hs hn a m b w hR h1 ham h2 hb
      · rcases Nat.lt_or_ge ((a + b) / 2) m with h3 | h3
        · exact symCCl g o cap l hs hn a m b _ w hR h1 h2 ham hmb hb rfl h3 fun a' m' b' w' g1 g2 g3 g4 g5 => ih a' m' b' w' (by omega) g1 g2 g3 g5
        · exact symDCl g o cap l hs hn a m b _ w hR h1 h2 ham hmb hb rfl h3 fun a' m' b' w' g1 g2 g3 g4 g5 => ih a' m' b' w' (by omega) g1 g2 g3 g5
set_option maxRecDepth 100000 in
set_option maxHeartbeats 8000000 in
theorem stSCl (g o cap : Nat) (l : List (Found ClaimV)) (hs : SortedF l) (hn : l.length ≤ 1000) (w : World) (hR : RowsAt w (some ⟨g, o, none⟩) 11 fclC l) :
    Calls Tryz.prog 219 #[.slice (some ⟨g, o, none⟩) l.length cap, .int .i64 (l.length : Int), .func (.func 177) #[] #[]] w fun e w' => e = .returned (.tuple #[]) ∧ Q w w' := by
  obtain ⟨x, hx⟩ := Wd.first w
  have hIn := fun (a m : Nat) (h1 : m ≤ l.length) (h2 : a ≤ 1000) (y : Wd w) => insSCl g o cap l hs hn a m y.w (hR.q y.q) h1 h2
  have hSy := fun (a m b : Nat) (h1 : a < m) (h2 : m < b) (h3 : b ≤ l.length) (y : Wd w) => symSCl g o cap l hs hn (b - a + 1) a m b y.w (by omega) h1 h2 h3 (hR.q y.q)
  refine (show Calls Tryz.prog 219 #[.slice (some ⟨g, o, none⟩) l.length cap, .int .i64 (l.length : Int), .func (.func 177) #[] #[]] x.w (fun e w' => e = .returned (.tuple #[]) ∧ Q w w') → _ from fun h => by rwa [← hx] at h) ?_
  clear hx hR hs
  generalize l.length = n at *
  go_enter Tryz.func219, Tryz.ntmps219
  go_wp2_with fail
  go_loopw [7, 8] (fun a b wr => ∃ (q : Nat) (z : Wd w), a = .int .i64 (q : Int) ∧ b = .int .i64 ((q : Int) + 20) ∧ wr = z.w ∧ q ≤ n) (fun a _ _ => n - (intOf a).toNat)
  case atStart => exact ⟨0, x, rfl, rfl, rfl, Nat.zero_le _⟩
  case round =>
    obtain ⟨q, z, rfl, rfl, rfl, hq⟩ := hrel
    by_cases hlt : q + 20 ≤ n
    · have hlI : (q : Int) + 20 ≤ (n : Int) := by omega
      have h1 : ∀ y : Wd w, Calls Tryz.prog 243 #[.slice (some ⟨g, o, none⟩) n cap, .int .i64 (q : Int), .int .i64 ((q : Int) + 20), .func (.func 177) #[] #[]] y.w fun e w' => e = .returned (.tuple #[]) ∧ Q y.w w' := hIn q (q + 20) hlt (by omega)
      clear hIn hSy
      go_wp2_with (go_at_call 243; refine (h1 _).mono ?_; rintro e w' ⟨rfl, hq2⟩; obtain ⟨y, rfl⟩ := Wd.next _ hq2; clear hq2)
      exact ⟨⟨q + 20, y, by go_num, by go_num, rfl, by omega⟩, by simp only [intOf]; omega⟩
    · have hlI : ¬ ((q : Int) + 20 ≤ (n : Int)) := by omega
      have h1 := fun y : Wd w => hIn q n (Nat.le_refl _) (by omega) y
      clear hIn
      go_wp2_with (go_at_call 243; refine (h1 _).mono ?_; rintro e w' ⟨rfl, hq2⟩; obtain ⟨y, rfl⟩ := Wd.next _ hq2; clear hq2)
      clear h1
      go_loopw [6, 7, 8, 9] (fun s _ _ _ wr => ∃ (bs : Nat) (z : Wd w), s = .int .i64 (bs : Int) ∧ wr = z.w ∧ 20 ≤ bs ∧ bs ≤ 2000) (fun s _ _ _ _ => 2000 - (intOf s).toNat)
      case atStart => exact ⟨20, y, rfl, rfl, Nat.le_refl _, by omega⟩
      case round =>
        clear hlt hlI hq
        obtain ⟨bs, z2, rfl, rfl, hb1, hb2⟩ := hrel
        by_cases hlt2 : bs < n
        · have hlI2 : (bs : Int) < (n : Int) := by omega
          go_wp2_with fail
          go_loopw [7, 8] (fun a b wr => ∃ (q : Nat) (z : Wd w), a = .int .i64 (q : Int) ∧ b = .int .i64 ((q : Int) + 2 * (bs : Int)) ∧ wr = z.w ∧ q ≤ n) (fun a _ _ => n - (intOf a).toNat)
          case atStart => exact ⟨0, z2, rfl, by go_num, rfl, Nat.zero_le _⟩
          case round =>
            obtain ⟨q3, z3, rfl, rfl, rfl, hq3⟩ := hrel
            by_cases hlt3 : q3 + 2 * bs ≤ n
            · have hlI3 : (q3 : Int) + 2 * (bs : Int) ≤ (n : Int) := by omega
              have h1 : ∀ y : Wd w, Calls Tryz.prog 244 #[.slice (some ⟨g, o, none⟩) n cap, .int .i64 (q3 : Int), .int .i64 ((q3 : Int) + (bs : Int)), .int .i64 ((q3 : Int) + 2 * (bs : Int)), .func (.func 177) #[] #[]] y.w fun e w' => e = .returned (.tuple #[]) ∧ Q y.w w' := fun y => by
                have := hSy q3 (q3 + bs) (q3 + 2 * bs) (by omega) (by omega) hlt3 y
                simpa using this
              clear hSy
              go_wp2_with (go_at_call 244; refine (h1 _).mono ?_; rintro e w' ⟨rfl, hq2⟩; obtain ⟨y, rfl⟩ := Wd.next _ hq2; clear hq2)
              exact ⟨⟨q3 + 2 * bs, y, by go_num, by go_num, rfl, by omega⟩, by simp only [intOf]; omega⟩
            · have hlI3 : ¬ ((q3 : Int) + 2 * (bs : Int) ≤ (n : Int)) := by omega
              by_cases hlt4 : q3 + bs < n
              · have hlI4 : (q3 : Int) + (bs : Int) < (n : Int) := by omega
                have h1 : ∀ y : Wd w, Calls Tryz.prog 244 #[.slice (some ⟨g, o, none⟩) n cap, .int .i64 (q3 : Int), .int .i64 ((q3 : Int) + (bs : Int)), .int .i64 (n : Int), .func (.func 177) #[] #[]] y.w fun e w' => e = .returned (.tuple #[]) ∧ Q y.w w' := fun y => by
                  have := hSy q3 (q3 + bs) n (by omega) hlt4 (Nat.le_refl _) y
                  simpa using this
                clear hSy
                go_wp2_with (go_at_call 244; refine (h1 _).mono ?_; rintro e w' ⟨rfl, hq2⟩; obtain ⟨y, rfl⟩ := Wd.next _ hq2; clear hq2)
                exact ⟨⟨bs * 2, y, by go_num, rfl, by omega, by omega⟩, by simp only [intOf]; omega⟩
              · have hlI4 : ¬ ((q3 : Int) + (bs : Int) < (n : Int)) := by omega
                clear hSy
                go_wp2_with fail
                exact ⟨⟨bs * 2, z3, by go_num, rfl, by omega, by omega⟩, by simp only [intOf]; omega⟩
        · have hlI2 : ¬ ((bs : Int) < (n : Int)) := by omega
          go_wp2_with fail
          go_end0
          exact ⟨rfl, z2.q⟩
set_option maxRecDepth 100000 in
theorem srtSCl (g o cap : Nat) (l : List (Found ClaimV)) (hs : SortedF l) (hn : l.length ≤ 1000) (w : World) (hR : RowsAt w (some ⟨g, o, none⟩) 11 fclC l) :
    Calls Tryz.prog 176 #[.slice (some ⟨g, o, none⟩) l.length cap, .func (.func 177) #[] #[]] w fun e w' => e = .returned (.tuple #[]) ∧ Q w w' := by
  have hst := stSCl g o cap l hs hn w hR
  clear hs hR
  generalize l.length = n at *
  go_enter Tryz.func176, Tryz.ntmps176
  go_wp2_with (go_at_call 219; refine hst.mono ?_; rintro e w' ⟨rfl, hq2⟩)
  go_end0
  exact ⟨rfl, hq2⟩
end Go.Proofs.YtflgkplneekpfaaGreatDoor.Known

namespace Go.Proofs.YtflgkplneekpfaaGreatDoor.Known
open Go.RowKit Grp Mem _root_.Go.Proofs.YtflgkplneekpfaaGreatDoor.Code Sha Sign _root_.Go.Proofs.YtflgkplneekpfaaGreatDoor.Item

theorem sortedF_of {α : Type} (f : ItemR → Found α) (h0 : ∀ x, (f x).rank = 0) (hd : ∀ x, (f x).dig = digOf x) (p : ItemR → Bool) (l : List ItemR) (h : Asc (digs l)) : SortedF ((l.filter p).map f) := by
  have h1 : ((l.filter p).map f).Pairwise fun a b => 0 ≤ cmpF b a := by
    rw [List.pairwise_map]
    refine List.Pairwise.filter p ?_
    unfold Asc digs at h
    rw [List.pairwise_map] at h
    refine h.imp ?_
    intro a b hab
    unfold cmpF
    rw [h0, h0, hd, hd]
    unfold cmpS
    rw [lessB_asymm hab]
    simp only [Bool.false_eq_true, if_false, hab, if_true]
    decide
  intro i j hi hj hij
  rcases Nat.lt_or_ge i j with hlt | hge
  · exact List.pairwise_iff_getElem.1 h1 i j hi hj hlt
  · have : i = j := by omega
    subst this
    unfold cmpF cmpS
    rw [lessB_irrefl]
    simp [orI, Lib.compareInt]

/-- The sort, of an own row that is sorted already: nothing is written. -/
theorem sortedSB_any (A : Option Addr) (c m base : Nat) (l : List (Found BallotV)) (w : World) (hm : m = l.length) (hn : m ≤ 1000) (hs : SortedF l) (h : Owns w base 234 9 (.slice A m c) m (l.flatMap fbC)) (hB : base ≤ w.heap.size) :
    Calls Tryz.prog 212 #[.slice A m c, .func (.func 213) #[] #[]] w fun e w' => e = .returned (.tuple #[]) ∧ (RowsAt w' A 9 fbC l ∧ Below base w w') := by
  have hR : RowsAt w A 9 fbC l := Owns.rows fb_len h hm
  rcases h.2 with ⟨e1, h0⟩ | ⟨g, cap, cur, fz, hv, hb, hg, _⟩
  · injection e1 with hA _ hc
    subst hA hc
    have hl : l = [] := List.length_eq_zero_iff.1 (by omega)
    subst hl
    subst hm
    refine (stableB_nil w).mono ?_
    rintro e w' ⟨rfl, rfl⟩
    exact ⟨rfl, RowsAt.nil _ _ _ _, Below.refl _ _⟩
  · injection hv with hA _ hc
    subst hA
    subst hm
    refine (srtSB g 0 c l hs hn w hR).mono ?_
    rintro e w' ⟨rfl, hq⟩
    exact ⟨rfl, hR.q hq, hq.mono hB⟩
/-- What hands back a list of ballots, in a row of its own. -/
def BallotsOwn (l : List BallotV) (w : World) (e : Ending) (w' : World) : Prop := ∃ (A : Option Addr) (c : Nat), e = .returned (.slice A l.length c) ∧ l.length ≤ c ∧ c ≤ maxLen ∧ Owns w' w.heap.size 46 7 (.slice A l.length c) l.length (l.flatMap BallotV.cells) ∧ Q w w'
def ballotsS (actor : ByteArray) (gen : Int) (l : List ItemR) : List BallotV := (takeB actor gen l).map (·.val)
set_option maxRecDepth 100000 in
set_option maxHeartbeats 2000000 in
theorem pickSB_any (k : KR) (p1 p2 : Nat) (actor : ByteArray) (gen : Int) (w : World) (hT : Tab w) (hK : KIn w k) (h1 : w.cell? ⟨p1, 0, none⟩ = some (.string actor)) (hp1 : p1 < w.heap.size) (h2 : w.cell? ⟨p2, 0, none⟩ = some (.int .i64 gen)) (hp2 : p2 < w.heap.size) (hn : k.l.length ≤ 1000) (hs : SortedF (takeB actor gen k.l)) :
    Calls Tryz.prog 163 #[.agg (knA k), .func (.func 164) #[] #[.pointer (some ⟨p1, 0, none⟩), .pointer (some ⟨p2, 0, none⟩)]] w (BallotsOwn (ballotsS actor gen k.l) w) := by
  obtain ⟨w1, x, hx, hq1, hbk⟩ := boxedB w 31 k.cells
  have hx : w.alloc (.cells (knA k) 31) = x.w := hx
  have cI : ∀ y : Wd w1, y.w.cell? ⟨w.heap.size, 1, none⟩ = some (.slice k.iA k.l.length k.iC) := fun y => (y.blk hbk).cell 1
  have hKy : ∀ y : Wd w1, KIn y.w k := fun y => hK.q (Q.trans hq1 y.q)
  have hTy : ∀ y : Wd w1, Tab y.w := fun y => hT.q (Q.trans hq1 y.q)
  have hW1 : ∀ y : Wd w1, y.w.cell? ⟨p1, 0, none⟩ = some (.string actor) := fun y => ((Q.trans hq1 y.q).cell (p := ⟨p1, 0, none⟩) hp1).trans h1
  have hW2 : ∀ y : Wd w1, y.w.cell? ⟨p2, 0, none⟩ = some (.int .i64 gen) := fun y => ((Q.trans hq1 y.q).cell (p := ⟨p2, 0, none⟩) hp2).trans h2
  have hP1 : ∀ y : Wd w1, p1 < y.w.heap.size := fun y => Nat.lt_of_lt_of_le hp1 (Q.trans hq1 y.q).size
  have hP2 : ∀ y : Wd w1, p2 < y.w.heap.size := fun y => Nat.lt_of_lt_of_le hp2 (Q.trans hq1 y.q).size
  have HQ := Lib.hid hq1
  obtain ⟨i0, hi, hz0, hz1, hz2⟩ := info_parts found_info
  obtain ⟨j0, hji, hy0, hy1, hy2⟩ := info_parts bal_info
  have e99 : ∀ args w, (callFunc 164 args).run Tryz.prog w = .ok (.enter 164 args) w := enters_of Tryz.func164 (by kernel_rfl) rfl
  clear hbk hq1 h1 h2 hp1 hp2
  go_enter Tryz.func163, Tryz.ntmps163
  go_wp2_with fail
  go_loopw [5, 17] (fun a i wr => ∃ (j c m : Nat) (A : Option Addr) (z : Wd w1), a = .slice A m c ∧ i = .int .i64 j ∧ wr = z.w ∧ j ≤ k.l.length ∧ m ≤ j ∧ m ≤ c ∧ c ≤ maxLen ∧ Hid (m = (takeB actor gen (k.l.take j)).length) ∧ Owns z.w w1.heap.size 234 9 (.slice A m c) m ((takeB actor gen (k.l.take j)).flatMap fbC)) (fun _ i _ => k.l.length - (intOf i).toNat)
  case atStart => exact ⟨0, 0, 0, none, x, rfl, rfl, rfl, Nat.zero_le _, Nat.zero_le _, Nat.zero_le _, Nat.zero_le _, Lib.hid rfl, Owns.nil_ _ _ _ _⟩
  case round =>
    obtain ⟨j, c, m, A, z, rfl, rfl, rfl, hj, hmj, hmc, hcm, hm, hown⟩ := hrel
    by_cases hlt : j < k.l.length
    · obtain ⟨b, o, eA, hb, hld⟩ := (hKy z).items.load j hlt
      have hio := fun y : Wd z.w => ((hKy z).items.each _ (List.getElem_mem hlt)).q y.q
      rw [eA]
      have hTz : ∀ y : Wd z.w, Tab y.w := fun y => hTy ⟨y.w, Q.trans z.q y.q⟩
      have hzs := z.q.size
      have HTS := Lib.hid (takeB_step actor gen k.l j hlt)
      generalize k.l[j] = it at *
      go_wp2_with (first | (refine wpList_load_run 50 (.tmp 19) (.pointer (some ⟨b, o + j * 49, none⟩)) (.agg (itA it)) ?_ ?_ ?_ ?_ ?_; rfl; rfl; rfl; exact hld ⟨_, Q.refl _⟩) | (refine wpList_store_blk (Blk.new z.w 50 item0.cells.toArray) rfl 50 (.tmp 7) (.tmp 20) it.cells rfl rfl rfl (by kernel_rfl) (it_all _) (Nat.le_refl 49) ?_))
      intro W hW hbel
      rw [splice_all _ _ (by rfl)] at hW
      have hqz : Q z.w W := hbel _ _ (Nat.le_refl _) (q_new _ _ _)
      have hq3 : Q w1 W := Q.trans z.q hqz
      have hLi : ∀ y : Wd W, (Instr.loadAt 50 (.pointer (some ⟨z.w.heap.size, 0, none⟩))).run Tryz.prog y.w = .ok (.agg (itA it)) y.w := Wd.load hW.lt (Blk.range hW) Tryz.underlying50 rfl (by kernel_rfl)
      have hcl : ∀ y : Wd W, Calls Tryz.prog 164 #[.agg (itA it), .pointer (some ⟨p1, 0, none⟩), .pointer (some ⟨p2, 0, none⟩)] y.w fun e w' => e = .returned (.tuple #[.agg (ballotA it.ballot), .int .i64 0, .bool (wantB actor gen it)]) ∧ Q y.w w' := fun y => wantB_any p1 p2 actor gen it y.w (hW1 ⟨y.w, Q.trans hq3 y.q⟩) (hP1 ⟨y.w, Q.trans hq3 y.q⟩) (hW2 ⟨y.w, Q.trans hq3 y.q⟩) (hP2 ⟨y.w, Q.trans hq3 y.q⟩)
      have hWs := hq3.size
      obtain ⟨v, hv⟩ := Wd.first W
      rw [hv]
      clear hbel hld hv eA hb cI hW1 hW2 hP1 hP2
      generalize hwt : wantB actor gen it = wt at *
      go_wp2_with (first | (refine wpList_load_run 50 (.tmp 7) (.pointer (some ⟨z.w.heap.size, 0, none⟩)) (.agg (itA it)) ?_ ?_ ?_ ?_ ?_; rfl; rfl; rfl; exact hLi _) | (go_at_fn 164; refine (hcl _).mono ?_; rintro e w' ⟨rfl, hq2⟩; obtain ⟨y, rfl⟩ := Wd.next _ hq2; clear hq2) | (refine wpList_store_blk (Blk.new y.w 46 ballot0.cells.toArray) rfl 46 (.tmp 8) (.tmp 25) it.ballot.cells rfl rfl rfl (by kernel_rfl) (ballot_all _) (Nat.le_refl 7) ?_))
      intro W2 hB2 hbel2
      rw [splice_all _ _ (by rfl)] at hB2
      have hqy : Q W W2 := hbel2 _ _ y.q.size (Q.trans y.q (q_new _ _ _))
      have hq4 : Q w1 W2 := Q.trans hq3 hqy
      have hLi2 : ∀ y : Wd W2, (Instr.loadAt 50 (.pointer (some ⟨z.w.heap.size, 0, none⟩))).run Tryz.prog y.w = .ok (.agg (itA it)) y.w := fun y => hLi ⟨y.w, Q.trans hqy y.q⟩
      have hLb2 : ∀ u : Wd W2, (Instr.loadAt 46 (.pointer (some ⟨y.w.heap.size, 0, none⟩))).run Tryz.prog u.w = .ok (.agg (ballotA it.ballot)) u.w := Wd.load hB2.lt (Blk.range hB2) Tryz.underlying46 rfl (by kernel_rfl)
      have hIi : ∀ u : Wd W2, ItemIn u.w it := fun u => hio ⟨u.w, Q.trans (Q.trans hqz hqy) u.q⟩
      have hdg2 : ∀ u : Wd W2, Calls Tryz.prog 25 #[.agg (itA it)] u.w fun e w' => e = .returned (.string (digOf it)) ∧ Q u.w w' := fun u => digest_any it u.w (hTz ⟨u.w, Q.trans (Q.trans hqz hqy) u.q⟩) (hIi u)
      have hownW : ∀ u : Wd W2, Owns u.w w1.heap.size 234 9 (.slice A m c) m ((takeB actor gen (k.l.take j)).flatMap fbC) := fun u => hown.q (Q.trans (Q.trans hqz hqy) u.q)
      have hrg : ∀ (r : Bool), itemRight it = r → ∀ u : Wd W2, Calls Tryz.prog 12 #[.agg (itA it)] u.w fun e w' => e = .returned (.bool r) ∧ Q u.w w' := fun r hr u => right_at it r u.w (hIi u) hr
      have HQ4 := Lib.hid hq4
      have hWs2 := hq4.size
      obtain ⟨u, hu⟩ := Wd.first W2
      rw [hu]
      clear hbel2 hu hqy hq4 hq3 hqz hLi hcl hio hTz hown hTy hW hB2
      cases wt
      · have HTE := Lib.hid (show takeB actor gen (k.l.take (j + 1)) = takeB actor gen (k.l.take j) by rw [HTS.out]; simp)
        go_wp2_with fail
        exact ⟨⟨j + 1, c, m, A, ⟨u.w, Q.trans HQ4.out u.q⟩, rfl, by go_num, rfl, by omega, by omega, hmc, hcm, Lib.hid (by rw [HTE.out]; exact hm.out), by rw [HTE.out]; exact hownW u⟩, by simp only [intOf]; omega⟩
      · cases hr : itemRight it
        · have HTE := Lib.hid (show takeB actor gen (k.l.take (j + 1)) = takeB actor gen (k.l.take j) by rw [HTS.out, hr]; simp)
          have hrg0 := hrg false hr
          clear hrg hr
          go_wp2_with (first | (refine wpList_load_run 50 (.tmp 7) (.pointer (some ⟨z.w.heap.size, 0, none⟩)) (.agg (itA it)) ?_ ?_ ?_ ?_ ?_; rfl; rfl; rfl; exact hLi2 _) | (go_at_call 12; refine (hrg0 _).mono ?_; rintro e w' ⟨rfl, hq2⟩; obtain ⟨t, rfl⟩ := Wd.next _ hq2; clear hq2))
          exact ⟨⟨j + 1, c, m, A, ⟨t.w, Q.trans HQ4.out t.q⟩, rfl, by go_num, rfl, by omega, by omega, hmc, hcm, Lib.hid (by rw [HTE.out]; exact hm.out), by rw [HTE.out]; exact hownW t⟩, by simp only [intOf]; omega⟩
        · have HTE := Lib.hid (show takeB actor gen (k.l.take (j + 1)) = takeB actor gen (k.l.take j) ++ [foundB it] by rw [HTS.out, hr]; simp)
          have hrg0 := hrg true hr
          clear hrg hr
          go_wp2_with (first | (refine wpList_load_run 50 (.tmp 7) (.pointer (some ⟨z.w.heap.size, 0, none⟩)) (.agg (itA it)) ?_ ?_ ?_ ?_ ?_; rfl; rfl; rfl; exact hLi2 _) | (go_at_call 12; refine (hrg0 _).mono ?_; rintro e w' ⟨rfl, hq2⟩; obtain ⟨t, rfl⟩ := Wd.next _ hq2; clear hq2))
          refine wp_region_wd_parts t 2 6 (by kernel_rfl) (by kernel_rfl) (by intro c d v a w h; cases d <;> exact h) ?_
          simp only [List.take_succ_cons, List.take_zero, List.drop_succ_cons, List.drop_zero]
          refine wpPure_move (.tmp 5) (.slice A m c) rfl rfl rfl ?_
          dsimp only [Act.put]
          simp only [List.setIfInBounds_toArray, List.set_cons_succ, List.set_cons_zero]
          refine wpPure_move (.tmp 9) (.int .i64 0) rfl rfl rfl ?_
          dsimp only [Act.put]
          simp only [List.setIfInBounds_toArray, List.set_cons_succ, List.set_cons_zero]
          refine wpPure_nil ?_
          refine wpQuiet_load_run 50 (.tmp 7) (.pointer (some ⟨z.w.heap.size, 0, none⟩)) (.agg (itA it)) rfl rfl rfl hLi2 ?_
          dsimp only [Act.put]
          simp only [List.setIfInBounds_toArray, List.set_cons_succ, List.set_cons_zero]
          go_big_quiet_step (first | (go_at_call 25; exact Wd.call _ (hdg2 _)))
          refine wpQuiet_load_run 46 (.tmp 8) (.pointer (some ⟨y.w.heap.size, 0, none⟩)) (.agg (ballotA it.ballot)) rfl rfl rfl hLb2 ?_
          dsimp only [Act.put]
          simp only [List.setIfInBounds_toArray, List.set_cons_succ, List.set_cons_zero]
          refine wpQuiet_build_run 234 _ #[(0, .int .i64 0), (1, .string (digOf it)), (2, .agg (ballotA it.ballot))] _ rfl rfl (by simp only [List.map_toArray, List.map_cons, List.map_nil]; rfl) (build_found (digOf it) it.ballot) ?_
          dsimp only [Act.put]
          simp only [List.setIfInBounds_toArray, List.set_cons_succ, List.set_cons_zero]
          refine wpQuiet_nil ?_
          rintro w6 ⟨t2, rfl⟩
          refine wpList_buildSlice_run 231 1 _ #[(0, .agg (fbC (foundB it)).toArray)] _ rfl rfl (by simp only [List.map_toArray, List.map_cons, List.map_nil]; rfl) (bs_found (foundB it) _) ?_
          dsimp only [Act.put]
          simp only [List.setIfInBounds_toArray, List.set_cons_succ, List.set_cons_zero]
          refine wpList_append_rows fb_len fb_one rfl (.tmp 33) (.tmp 39) 231 234 i0 _ 96 rfl Tryz.underlying231 hi hz0 hz1 hz2 rfl (by decide) (by decide) w1.heap.size (.slice A m c) m (takeB actor gen (k.l.take j)) rfl ((hownW t2).alloc (.cells (fbC (foundB it)).toArray 234)) (some ⟨t2.w.heap.size, 0, none⟩) 1 1 [foundB it] rfl (RowsAt.one t2.w 234 (foundB it) _ rfl) rfl (by omega) (by have := t2.q.size; simp; omega) ?_
          intro A5 c5 w5 hc5 hm5 hown5 hg5
          have hq5 : Q w1 w5 := q_grown (Q.trans (Q.trans HQ4.out t2.q) (q_new _ _ _)) (Nat.le_refl _) ((hownW t2).alloc _) hg5
          obtain ⟨y5, rfl⟩ : ∃ y5 : Wd w1, w5 = y5.w := ⟨⟨w5, hq5⟩, rfl⟩
          rw [← HTE.out] at hown5
          have HM5 : Hid (m + 1 = (takeB actor gen (k.l.take (j + 1))).length) := Lib.hid (by rw [HTE.out, List.length_append, ← hm.out]; rfl)
          clear hownW hg5 hq5 hdg2 hLi2 hLb2 hIi hrg0
          go_wp2_with fail
          exact ⟨⟨j + 1, c5, m + 1, A5, y5, rfl, by go_num, rfl, by omega, by omega, hc5, hm5, HM5, hown5⟩, by simp only [intOf]; omega⟩
    · have hjn : j = k.l.length := by omega
      have hm := hm.out
      rw [hjn, List.take_length] at hown hm
      have hm20 : m ≤ 1000 := by omega
      have hso := sortedSB_any A c m w1.heap.size (takeB actor gen k.l) z.w hm hm20 hs hown z.q.size
      have hlen : (takeB actor gen k.l).length = m := hm.symm
      have HB := Lib.hid (show ballotsS actor gen k.l = (takeB actor gen k.l).map (·.val) from rfl)
      have HZ := Lib.hid z.q
      clear hown hm hs
      generalize takeB actor gen k.l = L at hso hlen HB
      clear hjn cI hW1 hW2 hP1 hP2 hKy hTy
      go_wp2_with (first | (go_at_call 212; refine hso.mono ?_; rintro e w6 ⟨rfl, hR6, hb6⟩; have HQ6 := Lib.hid (Below.trans HZ.out hb6); clear hb6 hso; obtain ⟨y6, hy6⟩ := Wd.first w6; rw [hy6]; clear hy6) | (refine wpList_make_own _ rfl _ _ 149 rfl w6.heap.size 46 j0 _ 7 Tryz.underlying149 hji hy0 hy1 .i64 .i64 (m : Int) m rfl rfl rfl (by rw [hy2]; omega) (by simp only [maxLen]; omega) y6.q.size ?_))
      intro w7 hown0 hg0
      have hown : Owns w7 w6.heap.size 46 7 (.slice (some ⟨y6.w.heap.size, 0, none⟩) 0 m) 0 (([] : List BallotV).flatMap BallotV.cells) := Owns.of hown0
      have hq7 : Q w6 w7 := Below.grown y6.q hg0 y6.q.size (fun _ h => by cases h)
      obtain ⟨y7, rfl⟩ : ∃ y7 : Wd w6, w7 = y7.w := ⟨⟨w7, hq7⟩, rfl⟩
      have hRy : ∀ y : Wd w6, RowsAt y.w A 9 fbC L := fun y => hR6.q y.q
      clear hown0 hg0 hq7 hR6
      go_wp2_with fail
      go_loopw [11, 49] (fun a i wr => ∃ (j c : Nat) (A : Option Addr) (z : Wd w6), a = .slice A j c ∧ i = .int .i64 j ∧ wr = z.w ∧ j ≤ m ∧ j ≤ c ∧ c ≤ maxLen ∧ Owns z.w w6.heap.size 46 7 (.slice A j c) j (((L.take j).map (·.val)).flatMap BallotV.cells)) (fun _ i _ => m - (intOf i).toNat)
      case atStart => exact ⟨0, m, _, y7, rfl, rfl, rfl, Nat.zero_le _, Nat.zero_le _, by simp only [maxLen]; omega, hown⟩
      case round =>
        clear hown
        obtain ⟨j2, c2, A2, z2, rfl, rfl, rfl, hj2, hjc2, hcm2, hown⟩ := hrel
        by_cases hlt2 : j2 < m
        · obtain ⟨b, o, eA, hb, hcs⟩ := hRy z2 (by omega)
          have hld : ∀ y : Wd z2.w, (Instr.loadAt 234 (.pointer (some ⟨b, o + j2 * 9, none⟩))).run Tryz.prog y.w = .ok (.agg (fbC (L[j2]'(by omega))).toArray) y.w := Wd.load hb (hcs j2 (by omega)) Tryz.underlying234 rfl (by kernel_rfl)
          have HLS := Lib.hid (show (L.take (j2 + 1)).map (·.val) = (L.take j2).map (·.val) ++ [(L[j2]'(by omega)).val] by rw [List.take_succ_eq_append_getElem (by omega), List.map_append]; rfl)
          rw [eA]
          have hzs2 := z2.q.size
          clear hcs
          generalize L[j2]'(by omega) = e2 at *
          have hbf := Blk.new z2.w 234 (fbC default).toArray
          go_wp2_with (first | (refine wpList_load_run 234 (.tmp 51) (.pointer (some ⟨b, o + j2 * 9, none⟩)) (.agg (fbC e2).toArray) ?_ ?_ ?_ ?_ ?_; rfl; rfl; rfl; exact hld ⟨_, Q.trans (Q.refl _) (Q.refl _)⟩) | (refine wpList_store_blk hbf rfl 234 (.tmp 13) (.tmp 52) (fbC e2) rfl rfl rfl (by kernel_rfl) (fb_all _) (Nat.le_refl 9) ?_))
          intro W hW hbel
          rw [splice_all _ _ (by rfl)] at hW
          have hqz : Q z2.w W := hbel _ _ (Nat.le_refl _) (q_new _ _ _)
          have hq3 : Q w6 W := Q.trans z2.q hqz
          have hrv : W.rangeAt z2.w.heap.size 2 e2.val.cells := by
            have := range_sub (Blk.range hW) 2 7
            rw [Nat.zero_add] at this
            exact this
          have hLv : ∀ y : Wd W, (Instr.loadAt 46 (.pointer (some ⟨z2.w.heap.size, 2, none⟩))).run Tryz.prog y.w = .ok (.agg (ballotA e2.val)) y.w := Wd.load hW.lt hrv Tryz.underlying46 rfl (by kernel_rfl)
          have hownW : ∀ y : Wd W, Owns y.w w6.heap.size 46 7 (.slice A2 j2 c2) j2 (((L.take j2).map (·.val)).flatMap BallotV.cells) := fun y => hown.q (Q.trans hqz y.q)
          have HQ3 := Lib.hid hq3
          have hWs := hq3.size
          obtain ⟨v, hv⟩ := Wd.first W
          rw [hv]
          clear hW hbel hld hv hqz hq3 hown hrv hbf
          go_wp2_with (first | (refine wpList_load_run 46 (.tmp 54) (.pointer (some ⟨z2.w.heap.size, 2, none⟩)) (.agg (ballotA e2.val)) ?_ ?_ ?_ ?_ ?_; rfl; rfl; rfl; exact hLv _) | (refine wpList_buildSlice_run 149 1 _ #[(0, .agg (ballotA e2.val))] _ rfl rfl (by simp only [List.map_toArray, List.map_cons, List.map_nil]; rfl) (bs_ballot e2.val _) ?_) | (at_builtin; refine wpList_append_rows bal_len bal_one rfl (.tmp 53) (.tmp 56) 149 46 j0 _ 72 rfl Tryz.underlying149 hji hy0 hy1 hy2 rfl (by decide) (by decide) w6.heap.size (.slice A2 j2 c2) j2 ((L.take j2).map (·.val)) rfl ((hownW v).alloc (.cells (ballotA e2.val) 46)) (some ⟨v.w.heap.size, 0, none⟩) 1 1 [e2.val] rfl (RowsAt.one v.w 46 e2.val _ rfl) rfl (by omega) (by have := v.q.size; simp; omega) ?_))
          intro A5 c5 w5 hc5 hm5 hown5 hg5
          have hq5 : Q w6 w5 := q_grown (Q.trans (Q.trans HQ3.out v.q) (q_new _ _ _)) (Nat.le_refl _) ((hownW v).alloc _) hg5
          obtain ⟨y5, rfl⟩ : ∃ y5 : Wd w6, w5 = y5.w := ⟨⟨w5, hq5⟩, rfl⟩
          have e5 : List.flatMap BallotV.cells (List.take j2 (List.map (fun x => x.val) L)) ++ e2.val.cells = ((L.take (j2 + 1)).map (·.val)).flatMap BallotV.cells := by
            rw [HLS.out, List.flatMap_append, List.map_take]
            simp
          rw [e5] at hown5
          clear hownW hg5 hq5 hLv e5
          go_wp2_with fail
          exact ⟨⟨j2 + 1, c5, A5, y5, rfl, by go_num, rfl, by omega, hc5, hm5, hown5⟩, by simp only [intOf]; omega⟩
        · have hjn : j2 = m := by omega
          have hall : L.take j2 = L := List.take_of_length_le (by omega)
          rw [hall, ← HB.out] at hown
          have hl : (ballotsS actor gen k.l).length = j2 := by rw [HB.out, List.length_map, hlen, hjn]
          have hfin : BallotsOwn (ballotsS actor gen k.l) w (.returned (.slice A2 j2 c2)) z2.w := ⟨A2, c2, by rw [hl], by omega, hcm2, (by rw [hl]; exact hown.low (Nat.le_trans HQ.out.size HQ6.out.size)), Q.trans HQ.out (Below.trans HQ6.out (Below.mono z2.q (by have := HQ6.out.size; omega)))⟩
          have HF := Lib.hid hfin
          clear hfin hl hall hown
          go_wp2_with fail
          go_ret
          exact HF.out
set_option maxRecDepth 100000 in
set_option maxHeartbeats 2000000 in
theorem ballotsS_any (k : KR) (actor : ByteArray) (gen : Int) (w : World) (hT : Tab w) (hK : KIn w k) (hn : k.l.length ≤ 1000) (hs : SortedF (takeB actor gen k.l)) :
    Calls Tryz.prog 102 #[.agg (knA k), .string actor, .int .i64 gen] w (BallotsOwn (ballotsS actor gen k.l) w) := by
  have b1 := Blk.new w 31 (knA k)
  have q1 := q_new w (knA k) 31
  have b2 := Blk.new' (g := w.heap.size + 1) (w.alloc (.cells (knA k) 31)) 9 #[.string actor] (by simp)
  have q2 := q_new (w.alloc (.cells (knA k) 31)) #[.string actor] 9
  have b3 := Blk.new' (g := w.heap.size + 1 + 1) ((w.alloc (.cells (knA k) 31)).alloc (.cells #[.string actor] 9)) 3 #[.int .i64 gen] (by simp)
  have q3 := q_new ((w.alloc (.cells (knA k) 31)).alloc (.cells #[.string actor] 9)) #[.int .i64 gen] 3
  have b1 := (b1.q q2).q q3
  have b2 := b2.q q3
  have hq := Q.trans (Q.trans q1 q2) q3
  obtain ⟨w3, hw3⟩ : ∃ w3, w3 = ((w.alloc (.cells (knA k) 31)).alloc (.cells #[.string actor] 9)).alloc (.cells #[.int .i64 gen] 3) := ⟨_, rfl⟩
  rw [← hw3] at b1 b2 b3 hq
  have hLk := Wd.load (P := Tryz.prog) (ty := 31) b1.lt (Blk.range b1) Tryz.underlying31 rfl (by kernel_rfl) ⟨w3, Q.refl w3⟩
  have hp := pickSB_any k (w.heap.size + 1) (w.heap.size + 1 + 1) actor gen w3 (hT.q hq) (hK.q hq) (b2.cell 0) b2.lt (b3.cell 0) b3.lt hn hs
  have HX := Lib.hid hw3
  have HQ := Lib.hid hq
  clear q1 q2 q3 b1 b2 b3 hq hw3
  go_enter Tryz.func102, Tryz.ntmps102
  go_upto_region 1 with (fail)
  refine (show Code.wp _ _ _ _ w3 → Code.wp _ _ _ _ _ from fun h => by rw [HX.out] at h; exact h) ?_
  go_wp2_with (first | (refine wpList_load_run 31 (.tmp 3) (.pointer (some ⟨w.heap.size, 0, none⟩)) (.agg (knA k)) ?_ ?_ ?_ ?_ ?_; rfl; rfl; rfl; exact hLk) | (go_at_call 163; refine hp.mono ?_; rintro e w' ⟨A, c, rfl, h1, h2, h3, hq4⟩))
  go_ret
  exact ⟨A, c, rfl, h1, h2, h3.low HQ.out.size, Q.trans HQ.out hq4⟩

/-- The sort, of an own row that is sorted already: nothing is written. -/
theorem sortedSCl_any (A : Option Addr) (c m base : Nat) (l : List (Found ClaimV)) (w : World) (hm : m = l.length) (hn : m ≤ 1000) (hs : SortedF l) (h : Owns w base 208 11 (.slice A m c) m (l.flatMap fclC)) (hB : base ≤ w.heap.size) :
    Calls Tryz.prog 176 #[.slice A m c, .func (.func 177) #[] #[]] w fun e w' => e = .returned (.tuple #[]) ∧ (RowsAt w' A 11 fclC l ∧ Below base w w') := by
  have hR : RowsAt w A 11 fclC l := Owns.rows fcl_len h hm
  rcases h.2 with ⟨e1, h0⟩ | ⟨g, cap, cur, fz, hv, hb, hg, _⟩
  · injection e1 with hA _ hc
    subst hA hc
    have hl : l = [] := List.length_eq_zero_iff.1 (by omega)
    subst hl
    subst hm
    refine (stableCl_nil w).mono ?_
    rintro e w' ⟨rfl, rfl⟩
    exact ⟨rfl, RowsAt.nil _ _ _ _, Below.refl _ _⟩
  · injection hv with hA _ hc
    subst hA
    subst hm
    refine (srtSCl g 0 c l hs hn w hR).mono ?_
    rintro e w' ⟨rfl, hq⟩
    exact ⟨rfl, hR.q hq, hq.mono hB⟩
def claimsS (key : ByteArray) (l : List ItemR) : List ClaimV := (takeCl key l).map (·.val)
set_option maxRecDepth 100000 in
set_option maxHeartbeats 2000000 in
theorem pickSCl_any (k : KR) (p1 : Nat) (key : ByteArray) (w : World) (hT : Tab w) (hK : KIn w k) (h1 : w.cell? ⟨p1, 0, none⟩ = some (.string key)) (hp1 : p1 < w.heap.size) (hn : k.l.length ≤ 1000) (hs : SortedF (takeCl key k.l)) :
    Calls Tryz.prog 105 #[.agg (knA k), .func (.func 106) #[] #[.pointer (some ⟨p1, 0, none⟩)]] w (ListClAre (claimsS key k.l) w) := by
  obtain ⟨w1, x, hx, hq1, hbk⟩ := boxedB w 31 k.cells
  have hx : w.alloc (.cells (knA k) 31) = x.w := hx
  have cI : ∀ y : Wd w1, y.w.cell? ⟨w.heap.size, 1, none⟩ = some (.slice k.iA k.l.length k.iC) := fun y => (y.blk hbk).cell 1
  have hKy : ∀ y : Wd w1, KIn y.w k := fun y => hK.q (Q.trans hq1 y.q)
  have hTy : ∀ y : Wd w1, Tab y.w := fun y => hT.q (Q.trans hq1 y.q)
  have hW1 : ∀ y : Wd w1, y.w.cell? ⟨p1, 0, none⟩ = some (.string key) := fun y => ((Q.trans hq1 y.q).cell (p := ⟨p1, 0, none⟩) hp1).trans h1
  have hP1 : ∀ y : Wd w1, p1 < y.w.heap.size := fun y => Nat.lt_of_lt_of_le hp1 (Q.trans hq1 y.q).size
  have HQ := Lib.hid hq1
  obtain ⟨i0, hi, hz0, hz1, hz2⟩ := info_parts foundCl_info
  obtain ⟨j0, hji, hy0, hy1, hy2⟩ := info_parts valCl_info
  have e99 : ∀ args w, (callFunc 106 args).run Tryz.prog w = .ok (.enter 106 args) w := enters_of Tryz.func106 (by kernel_rfl) rfl
  clear hbk hq1 h1 hp1
  go_enter Tryz.func105, Tryz.ntmps105
  go_wp2_with fail
  go_loopw [5, 17] (fun a i wr => ∃ (j c m : Nat) (A : Option Addr) (z : Wd w1), a = .slice A m c ∧ i = .int .i64 j ∧ wr = z.w ∧ j ≤ k.l.length ∧ m ≤ j ∧ m ≤ c ∧ c ≤ maxLen ∧ Hid (m = (takeCl key (k.l.take j)).length) ∧ Owns z.w w1.heap.size 208 11 (.slice A m c) m ((takeCl key (k.l.take j)).flatMap fclC)) (fun _ i _ => k.l.length - (intOf i).toNat)
  case atStart => exact ⟨0, 0, 0, none, x, rfl, rfl, rfl, Nat.zero_le _, Nat.zero_le _, Nat.zero_le _, Nat.zero_le _, Lib.hid rfl, Owns.nil_ _ _ _ _⟩
  case round =>
    obtain ⟨j, c, m, A, z, rfl, rfl, rfl, hj, hmj, hmc, hcm, hm, hown⟩ := hrel
    by_cases hlt : j < k.l.length
    · obtain ⟨b, o, eA, hb, hld⟩ := (hKy z).items.load j hlt
      have hio := fun y : Wd z.w => ((hKy z).items.each _ (List.getElem_mem hlt)).q y.q
      rw [eA]
      have hTz : ∀ y : Wd z.w, Tab y.w := fun y => hTy ⟨y.w, Q.trans z.q y.q⟩
      have hzs := z.q.size
      have HTS := Lib.hid (takeCl_step key k.l j hlt)
      generalize k.l[j] = it at *
      go_wp2_with (first | (refine wpList_load_run 50 (.tmp 19) (.pointer (some ⟨b, o + j * 49, none⟩)) (.agg (itA it)) ?_ ?_ ?_ ?_ ?_; rfl; rfl; rfl; exact hld ⟨_, Q.refl _⟩) | (refine wpList_store_blk (Blk.new z.w 50 item0.cells.toArray) rfl 50 (.tmp 7) (.tmp 20) it.cells rfl rfl rfl (by kernel_rfl) (it_all _) (Nat.le_refl 49) ?_))
      intro W hW hbel
      rw [splice_all _ _ (by rfl)] at hW
      have hqz : Q z.w W := hbel _ _ (Nat.le_refl _) (q_new _ _ _)
      have hq3 : Q w1 W := Q.trans z.q hqz
      have hLi : ∀ y : Wd W, (Instr.loadAt 50 (.pointer (some ⟨z.w.heap.size, 0, none⟩))).run Tryz.prog y.w = .ok (.agg (itA it)) y.w := Wd.load hW.lt (Blk.range hW) Tryz.underlying50 rfl (by kernel_rfl)
      have hcl : ∀ y : Wd W, Calls Tryz.prog 106 #[.agg (itA it), .pointer (some ⟨p1, 0, none⟩)] y.w fun e w' => e = .returned (.tuple #[.agg (claimA it.claim), .int .i64 0, .bool (wantCl key it)]) ∧ Q y.w w' := fun y => wantCl_any p1 key it y.w (hW1 ⟨y.w, Q.trans hq3 y.q⟩) (hP1 ⟨y.w, Q.trans hq3 y.q⟩)
      have hWs := hq3.size
      obtain ⟨v, hv⟩ := Wd.first W
      rw [hv]
      clear hbel hld hv eA hb cI hW1 hP1
      generalize hwt : wantCl key it = wt at *
      go_wp2_with (first | (refine wpList_load_run 50 (.tmp 7) (.pointer (some ⟨z.w.heap.size, 0, none⟩)) (.agg (itA it)) ?_ ?_ ?_ ?_ ?_; rfl; rfl; rfl; exact hLi _) | (go_at_fn 106; refine (hcl _).mono ?_; rintro e w' ⟨rfl, hq2⟩; obtain ⟨y, rfl⟩ := Wd.next _ hq2; clear hq2) | (refine wpList_store_blk (Blk.new y.w 37 claim0.cells.toArray) rfl 37 (.tmp 8) (.tmp 25) it.claim.cells rfl rfl rfl (by kernel_rfl) (claim_all _) (Nat.le_refl 9) ?_))
      intro W2 hB2 hbel2
      rw [splice_all _ _ (by rfl)] at hB2
      have hqy : Q W W2 := hbel2 _ _ y.q.size (Q.trans y.q (q_new _ _ _))
      have hq4 : Q w1 W2 := Q.trans hq3 hqy
      have hLi2 : ∀ y : Wd W2, (Instr.loadAt 50 (.pointer (some ⟨z.w.heap.size, 0, none⟩))).run Tryz.prog y.w = .ok (.agg (itA it)) y.w := fun y => hLi ⟨y.w, Q.trans hqy y.q⟩
      have hLb2 : ∀ u : Wd W2, (Instr.loadAt 37 (.pointer (some ⟨y.w.heap.size, 0, none⟩))).run Tryz.prog u.w = .ok (.agg (claimA it.claim)) u.w := Wd.load hB2.lt (Blk.range hB2) Tryz.underlying37 rfl (by kernel_rfl)
      have hIi : ∀ u : Wd W2, ItemIn u.w it := fun u => hio ⟨u.w, Q.trans (Q.trans hqz hqy) u.q⟩
      have hdg2 : ∀ u : Wd W2, Calls Tryz.prog 25 #[.agg (itA it)] u.w fun e w' => e = .returned (.string (digOf it)) ∧ Q u.w w' := fun u => digest_any it u.w (hTz ⟨u.w, Q.trans (Q.trans hqz hqy) u.q⟩) (hIi u)
      have hownW : ∀ u : Wd W2, Owns u.w w1.heap.size 208 11 (.slice A m c) m ((takeCl key (k.l.take j)).flatMap fclC) := fun u => hown.q (Q.trans (Q.trans hqz hqy) u.q)
      have hrg : ∀ (r : Bool), itemRight it = r → ∀ u : Wd W2, Calls Tryz.prog 12 #[.agg (itA it)] u.w fun e w' => e = .returned (.bool r) ∧ Q u.w w' := fun r hr u => right_at it r u.w (hIi u) hr
      have HQ4 := Lib.hid hq4
      have hWs2 := hq4.size
      obtain ⟨u, hu⟩ := Wd.first W2
      rw [hu]
      clear hbel2 hu hqy hq4 hq3 hqz hLi hcl hio hTz hown hTy hW hB2
      cases wt
      · have HTE := Lib.hid (show takeCl key (k.l.take (j + 1)) = takeCl key (k.l.take j) by rw [HTS.out]; simp)
        go_wp2_with fail
        exact ⟨⟨j + 1, c, m, A, ⟨u.w, Q.trans HQ4.out u.q⟩, rfl, by go_num, rfl, by omega, by omega, hmc, hcm, Lib.hid (by rw [HTE.out]; exact hm.out), by rw [HTE.out]; exact hownW u⟩, by simp only [intOf]; omega⟩
      · cases hr : itemRight it
        · have HTE := Lib.hid (show takeCl key (k.l.take (j + 1)) = takeCl key (k.l.take j) by rw [HTS.out, hr]; simp)
          have hrg0 := hrg false hr
          clear hrg hr
          go_wp2_with (first | (refine wpList_load_run 50 (.tmp 7) (.pointer (some ⟨z.w.heap.size, 0, none⟩)) (.agg (itA it)) ?_ ?_ ?_ ?_ ?_; rfl; rfl; rfl; exact hLi2 _) | (go_at_call 12; refine (hrg0 _).mono ?_; rintro e w' ⟨rfl, hq2⟩; obtain ⟨t, rfl⟩ := Wd.next _ hq2; clear hq2))
          exact ⟨⟨j + 1, c, m, A, ⟨t.w, Q.trans HQ4.out t.q⟩, rfl, by go_num, rfl, by omega, by omega, hmc, hcm, Lib.hid (by rw [HTE.out]; exact hm.out), by rw [HTE.out]; exact hownW t⟩, by simp only [intOf]; omega⟩
        · have HTE := Lib.hid (show takeCl key (k.l.take (j + 1)) = takeCl key (k.l.take j) ++ [foundCl it] by rw [HTS.out, hr]; simp)
          have hrg0 := hrg true hr
          clear hrg hr
          go_wp2_with (first | (refine wpList_load_run 50 (.tmp 7) (.pointer (some ⟨z.w.heap.size, 0, none⟩)) (.agg (itA it)) ?_ ?_ ?_ ?_ ?_; rfl; rfl; rfl; exact hLi2 _) | (go_at_call 12; refine (hrg0 _).mono ?_; rintro e w' ⟨rfl, hq2⟩; obtain ⟨t, rfl⟩ := Wd.next _ hq2; clear hq2))
          refine wp_region_wd_parts t 2 6 (by kernel_rfl) (by kernel_rfl) (by intro c d v a w h; cases d <;> exact h) ?_
          simp only [List.take_succ_cons, List.take_zero, List.drop_succ_cons, List.drop_zero]
          refine wpPure_move (.tmp 5) (.slice A m c) rfl rfl rfl ?_
          dsimp only [Act.put]
          simp only [List.setIfInBounds_toArray, List.set_cons_succ, List.set_cons_zero]
          refine wpPure_move (.tmp 9) (.int .i64 0) rfl rfl rfl ?_
          dsimp only [Act.put]
          simp only [List.setIfInBounds_toArray, List.set_cons_succ, List.set_cons_zero]
          refine wpPure_nil ?_
          refine wpQuiet_load_run 50 (.tmp 7) (.pointer (some ⟨z.w.heap.size, 0, none⟩)) (.agg (itA it)) rfl rfl rfl hLi2 ?_
          dsimp only [Act.put]
          simp only [List.setIfInBounds_toArray, List.set_cons_succ, List.set_cons_zero]
          go_big_quiet_step (first | (go_at_call 25; exact Wd.call _ (hdg2 _)))
          refine wpQuiet_load_run 37 (.tmp 8) (.pointer (some ⟨y.w.heap.size, 0, none⟩)) (.agg (claimA it.claim)) rfl rfl rfl hLb2 ?_
          dsimp only [Act.put]
          simp only [List.setIfInBounds_toArray, List.set_cons_succ, List.set_cons_zero]
          refine wpQuiet_build_run 208 _ #[(0, .int .i64 0), (1, .string (digOf it)), (2, .agg (claimA it.claim))] _ rfl rfl (by simp only [List.map_toArray, List.map_cons, List.map_nil]; rfl) (buildCl_found (0) (digOf it) it.claim) ?_
          dsimp only [Act.put]
          simp only [List.setIfInBounds_toArray, List.set_cons_succ, List.set_cons_zero]
          refine wpQuiet_nil ?_
          rintro w6 ⟨t2, rfl⟩
          refine wpList_buildSlice_run 205 1 _ #[(0, .agg (fclC (foundCl it)).toArray)] _ rfl rfl (by simp only [List.map_toArray, List.map_cons, List.map_nil]; rfl) (bsCl_found (foundCl it) _) ?_
          dsimp only [Act.put]
          simp only [List.setIfInBounds_toArray, List.set_cons_succ, List.set_cons_zero]
          refine wpList_append_rows fcl_len fcl_one rfl (.tmp 33) (.tmp 39) 205 208 i0 _ 112 rfl Tryz.underlying205 hi hz0 hz1 hz2 rfl (by decide) (by decide) w1.heap.size (.slice A m c) m (takeCl key (k.l.take j)) rfl ((hownW t2).alloc (.cells (fclC (foundCl it)).toArray 208)) (some ⟨t2.w.heap.size, 0, none⟩) 1 1 [foundCl it] rfl (RowsAt.one t2.w 208 (foundCl it) _ rfl) rfl (by omega) (by have := t2.q.size; simp; omega) ?_
          intro A5 c5 w5 hc5 hm5 hown5 hg5
          have hq5 : Q w1 w5 := q_grown (Q.trans (Q.trans HQ4.out t2.q) (q_new _ _ _)) (Nat.le_refl _) ((hownW t2).alloc _) hg5
          obtain ⟨y5, rfl⟩ : ∃ y5 : Wd w1, w5 = y5.w := ⟨⟨w5, hq5⟩, rfl⟩
          rw [← HTE.out] at hown5
          have HM5 : Hid (m + 1 = (takeCl key (k.l.take (j + 1))).length) := Lib.hid (by rw [HTE.out, List.length_append, ← hm.out]; rfl)
          clear hownW hg5 hq5 hdg2 hLi2 hLb2 hIi hrg0
          go_wp2_with fail
          exact ⟨⟨j + 1, c5, m + 1, A5, y5, rfl, by go_num, rfl, by omega, by omega, hc5, hm5, HM5, hown5⟩, by simp only [intOf]; omega⟩
    · have hjn : j = k.l.length := by omega
      have hm := hm.out
      rw [hjn, List.take_length] at hown hm
      have hm20 : m ≤ 1000 := by omega
      have hso := sortedSCl_any A c m w1.heap.size (takeCl key k.l) z.w hm hm20 hs hown z.q.size
      have hlen : (takeCl key k.l).length = m := hm.symm
      have HB := Lib.hid (show claimsS key k.l = (takeCl key k.l).map (·.val) from rfl)
      have HZ := Lib.hid z.q
      clear hown hm hs
      generalize takeCl key k.l = L at hso hlen HB
      clear hjn cI hW1 hP1 hKy hTy
      go_wp2_with (first | (go_at_call 176; refine hso.mono ?_; rintro e w6 ⟨rfl, hR6, hb6⟩; have HQ6 := Lib.hid (Below.trans HZ.out hb6); clear hb6 hso; obtain ⟨y6, hy6⟩ := Wd.first w6; rw [hy6]; clear hy6) | (refine wpList_make_own _ rfl _ _ 22 rfl w6.heap.size 37 j0 _ 9 Tryz.underlying22 hji hy0 hy1 .i64 .i64 (m : Int) m rfl rfl rfl (by rw [hy2]; omega) (by simp only [maxLen]; omega) y6.q.size ?_))
      intro w7 hown0 hg0
      have hown : Owns w7 w6.heap.size 37 9 (.slice (some ⟨y6.w.heap.size, 0, none⟩) 0 m) 0 (([] : List ClaimV).flatMap ClaimV.cells) := Owns.of hown0
      have hq7 : Q w6 w7 := Below.grown y6.q hg0 y6.q.size (fun _ h => by cases h)
      obtain ⟨y7, rfl⟩ : ∃ y7 : Wd w6, w7 = y7.w := ⟨⟨w7, hq7⟩, rfl⟩
      have hRy : ∀ y : Wd w6, RowsAt y.w A 11 fclC L := fun y => hR6.q y.q
      clear hown0 hg0 hq7 hR6
      go_wp2_with fail
      go_loopw [11, 49] (fun a i wr => ∃ (j c : Nat) (A : Option Addr) (z : Wd w6), a = .slice A j c ∧ i = .int .i64 j ∧ wr = z.w ∧ j ≤ m ∧ j ≤ c ∧ c ≤ maxLen ∧ Owns z.w w6.heap.size 37 9 (.slice A j c) j (((L.take j).map (·.val)).flatMap ClaimV.cells)) (fun _ i _ => m - (intOf i).toNat)
      case atStart => exact ⟨0, m, _, y7, rfl, rfl, rfl, Nat.zero_le _, Nat.zero_le _, by simp only [maxLen]; omega, hown⟩
      case round =>
        clear hown
        obtain ⟨j2, c2, A2, z2, rfl, rfl, rfl, hj2, hjc2, hcm2, hown⟩ := hrel
        by_cases hlt2 : j2 < m
        · obtain ⟨b, o, eA, hb, hcs⟩ := hRy z2 (by omega)
          have hld : ∀ y : Wd z2.w, (Instr.loadAt 208 (.pointer (some ⟨b, o + j2 * 11, none⟩))).run Tryz.prog y.w = .ok (.agg (fclC (L[j2]'(by omega))).toArray) y.w := Wd.load hb (hcs j2 (by omega)) Tryz.underlying208 rfl (by kernel_rfl)
          have HLS := Lib.hid (show (L.take (j2 + 1)).map (·.val) = (L.take j2).map (·.val) ++ [(L[j2]'(by omega)).val] by rw [List.take_succ_eq_append_getElem (by omega), List.map_append]; rfl)
          rw [eA]
          have hzs2 := z2.q.size
          clear hcs
          generalize L[j2]'(by omega) = e2 at *
          have hbf := Blk.new z2.w 208 (fclC default).toArray
          go_wp2_with (first | (refine wpList_load_run 208 (.tmp 51) (.pointer (some ⟨b, o + j2 * 11, none⟩)) (.agg (fclC e2).toArray) ?_ ?_ ?_ ?_ ?_; rfl; rfl; rfl; exact hld ⟨_, Q.trans (Q.refl _) (Q.refl _)⟩) | (refine wpList_store_blk hbf rfl 208 (.tmp 13) (.tmp 52) (fclC e2) rfl rfl rfl (by kernel_rfl) (fcl_all _) (Nat.le_refl 11) ?_))
          intro W hW hbel
          rw [splice_all _ _ (by rfl)] at hW
          have hqz : Q z2.w W := hbel _ _ (Nat.le_refl _) (q_new _ _ _)
          have hq3 : Q w6 W := Q.trans z2.q hqz
          have hrv : W.rangeAt z2.w.heap.size 2 e2.val.cells := by
            have := range_sub (Blk.range hW) 2 9
            rw [Nat.zero_add] at this
            exact this
          have hLv : ∀ y : Wd W, (Instr.loadAt 37 (.pointer (some ⟨z2.w.heap.size, 2, none⟩))).run Tryz.prog y.w = .ok (.agg (claimA e2.val)) y.w := Wd.load hW.lt hrv Tryz.underlying37 rfl (by kernel_rfl)
          have hownW : ∀ y : Wd W, Owns y.w w6.heap.size 37 9 (.slice A2 j2 c2) j2 (((L.take j2).map (·.val)).flatMap ClaimV.cells) := fun y => hown.q (Q.trans hqz y.q)
          have HQ3 := Lib.hid hq3
          have hWs := hq3.size
          obtain ⟨v, hv⟩ := Wd.first W
          rw [hv]
          clear hW hbel hld hv hqz hq3 hown hrv hbf
          go_wp2_with (first | (refine wpList_load_run 37 (.tmp 54) (.pointer (some ⟨z2.w.heap.size, 2, none⟩)) (.agg (claimA e2.val)) ?_ ?_ ?_ ?_ ?_; rfl; rfl; rfl; exact hLv _) | (refine wpList_buildSlice_run 22 1 _ #[(0, .agg (claimA e2.val))] _ rfl rfl (by simp only [List.map_toArray, List.map_cons, List.map_nil]; rfl) (bsCl_val e2.val _) ?_) | (at_builtin; refine wpList_append_rows valCl_len valCl_one rfl (.tmp 53) (.tmp 56) 22 37 j0 _ 88 rfl Tryz.underlying22 hji hy0 hy1 hy2 rfl (by decide) (by decide) w6.heap.size (.slice A2 j2 c2) j2 ((L.take j2).map (·.val)) rfl ((hownW v).alloc (.cells (claimA e2.val) 37)) (some ⟨v.w.heap.size, 0, none⟩) 1 1 [e2.val] rfl (RowsAt.one v.w 37 e2.val _ rfl) rfl (by omega) (by have := v.q.size; simp; omega) ?_))
          intro A5 c5 w5 hc5 hm5 hown5 hg5
          have hq5 : Q w6 w5 := q_grown (Q.trans (Q.trans HQ3.out v.q) (q_new _ _ _)) (Nat.le_refl _) ((hownW v).alloc _) hg5
          obtain ⟨y5, rfl⟩ : ∃ y5 : Wd w6, w5 = y5.w := ⟨⟨w5, hq5⟩, rfl⟩
          have e5 : List.flatMap ClaimV.cells (List.take j2 (List.map (fun x => x.val) L)) ++ e2.val.cells = ((L.take (j2 + 1)).map (·.val)).flatMap ClaimV.cells := by
            rw [HLS.out, List.flatMap_append, List.map_take]
            simp
          rw [e5] at hown5
          clear hownW hg5 hq5 hLv e5
          go_wp2_with fail
          exact ⟨⟨j2 + 1, c5, A5, y5, rfl, by go_num, rfl, by omega, hc5, hm5, hown5⟩, by simp only [intOf]; omega⟩
        · have hjn : j2 = m := by omega
          have hall : L.take j2 = L := List.take_of_length_le (by omega)
          rw [hall, ← HB.out] at hown
          have hl : (claimsS key k.l).length = j2 := by rw [HB.out, List.length_map, hlen, hjn]
          have hfin : ListClAre (claimsS key k.l) w (.returned (.slice A2 j2 c2)) z2.w := ⟨A2, c2, by rw [hl], by omega, hcm2, Owns.rows valCl_len hown hl.symm, Q.trans HQ.out (Below.trans HQ6.out (Below.mono z2.q (by have := HQ6.out.size; omega)))⟩
          have HF := Lib.hid hfin
          clear hfin hl hall hown
          go_wp2_with fail
          go_ret
          exact HF.out

set_option maxRecDepth 100000 in
set_option maxHeartbeats 2000000 in
theorem claimsS_any (k : KR) (key : ByteArray) (w : World) (hT : Tab w) (hK : KIn w k) (hn : k.l.length ≤ 1000) (hs : SortedF (takeCl key k.l)) :
    Calls Tryz.prog 53 #[.agg (knA k), .string key] w (ListClAre (claimsS key k.l) w) := by
  have b1 := Blk.new w 31 (knA k)
  have q1 := q_new w (knA k) 31
  have b2 := Blk.new' (g := w.heap.size + 1) (w.alloc (.cells (knA k) 31)) 9 #[.string key] (by simp)
  have q2 := q_new (w.alloc (.cells (knA k) 31)) #[.string key] 9
  have b1 := b1.q q2
  have hq := Q.trans q1 q2
  obtain ⟨w3, hw3⟩ : ∃ w3, w3 = (w.alloc (.cells (knA k) 31)).alloc (.cells #[.string key] 9) := ⟨_, rfl⟩
  rw [← hw3] at b1 b2 hq
  have hLk := Wd.load (P := Tryz.prog) (ty := 31) b1.lt (Blk.range b1) Tryz.underlying31 rfl (by kernel_rfl) ⟨w3, Q.refl w3⟩
  have hp := pickSCl_any k (w.heap.size + 1) key w3 (hT.q hq) (hK.q hq) (b2.cell 0) b2.lt hn hs
  have HX := Lib.hid hw3
  have HQ := Lib.hid hq
  clear q1 q2 b1 b2 hq hw3
  go_enter Tryz.func53, Tryz.ntmps53
  go_upto_region 1 with (fail)
  refine (show Code.wp _ _ _ _ w3 → Code.wp _ _ _ _ _ from fun h => by rw [HX.out] at h; exact h) ?_
  go_wp2_with (first | (refine wpList_load_run 31 (.tmp 2) (.pointer (some ⟨w.heap.size, 0, none⟩)) (.agg (knA k)) ?_ ?_ ?_ ?_ ?_; rfl; rfl; rfl; exact hLk) | (go_at_call 105; refine hp.mono ?_; rintro e w' ⟨A, c, rfl, h1, h2, h3, hq4⟩))
  go_ret
  exact ⟨A, c, rfl, h1, h2, h3, Q.trans HQ.out hq4⟩
end Go.Proofs.YtflgkplneekpfaaGreatDoor.Known

namespace Go.Proofs.YtflgkplneekpfaaGreatDoor.Rng
open Go.RowKit

section
variable {P : Program} {r n : Nat} {Q : Exit → Act → World → Prop} {ops : Array Oper}

theorem upon_in {o : Oper} {a : Act} {K : Act → World → Prop} {res : Result Next} (h : o.upon P a K Q res) : o.uponIn (Fence.wide.inRound r) n P a K Q res := by
  cases res with
  | ok nx w' =>
    cases nx with
    | value v => exact h
    | skip => exact h
    | defer d => exact h
    | enter f args => exact ⟨fun hd => by simp [Fence.wide] at hd, CallsIn.inRound r (callsIn_wide.2 h)⟩
    | row row args => exact ⟨fun hd => by simp [Fence.wide] at hd, fun c cs _ => let ⟨v, w', hr, s⟩ := h c cs; ⟨v, w', hr, stepsIn_wide.2 s⟩⟩
    | _ => exact (h : False).elim
  | halt x w' =>
    cases x with
    | panic v => exact h
    | _ => exact (h : False).elim
theorem oper_in {o : Oper} {a : Act} {w : World} {K : Act → World → Prop} (hd : ∀ c, o.op ≠ .defer c) (h : o.wp P a w K Q) : o.wpIn (Fence.wide.inRound r) n P a w K Q := by
  refine ⟨fun _ _ => trivial, ?_⟩
  rw [Oper.semAt_eq _ _ _ hd]
  exact upon_in h
theorem ops_in (hQ : ¬ LetsOut Q) (hd : ∀ (i : Nat) (o : Oper), ops[i]? = some o → ∀ c, o.op ≠ Op.defer c) : ∀ (l : List Nat) (a : Act) (w : World), wpOps P ops Q l a w → wpOpsIn (Fence.wide.inRound r) n P ops Q l a w := by
  intro l
  induction l with
  | nil => intro a w h; exact h
  | cons i rest ih =>
    intro a w h
    unfold wpOps at h
    unfold wpOpsIn
    cases ho : ops[i]? with
    | none =>
      rw [ho] at h
      exact ih a w h
    | some o =>
      rw [ho] at h
      dsimp only at h ⊢
      split at h
      · rename_i hw
        rw [if_pos hw]
        rcases h with h | ⟨-, h⟩
        · exact Oper.wpIn_mono (fun a w hh => ih a w hh) (oper_in (hd i o ho) h)
        · exact absurd h hQ
      · rename_i hw
        rw [if_neg hw]
        exact ⟨fun _ _ => trivial, ih _ _ h⟩
def noDefer (ops : Array Oper) : Bool := ops.all fun (o : Oper) => match o.op with | .defer _ => false | _ => true
theorem noDefer_spec (h : noDefer ops = true) : ∀ (i : Nat) (o : Oper), ops[i]? = some o → ∀ c, o.op ≠ Op.defer c := by
  intro i o ho c hc
  have h1 := (Array.all_eq_true_iff_forall_mem.1 h) o (Array.mem_of_getElem? ho)
  rw [hc] at h1
  cases h1
theorem region_in {id : Nat} {a : Act} {w : World} (hm : P.follows .mixedOrders = true) (hQ : ¬ LetsOut Q) (hd : noDefer ops = true)
    (h : wpAny P .any ops Q ops.size (Array.replicate ops.size false) a { w with drawn := w.drawn + 1 }) : (Code.region id ops true).wpIn (Fence.wide.inRound r) n P Q a w :=
  wpIn_region_draw fun t => by
    simp only [Region.schedule, hm, Bool.true_or, if_true]
    exact ops_in hQ (noDefer_spec hd) _ _ _ (wpAny_sound ops.size t _ a _ h)

theorem region_still_tail {id : Nat} {a : Act} {w : World} {l : List Oper} (k : Nat) (hm : P.follows .mixedOrders = true) (hQ : ¬ LetsOut Q) (hd : noDefer l.toArray = true) (hB : Region.lexTailB .any l.toArray k = true)
    (h : wpStill P l.toArray w.drew (fun a' => wpList P l.toArray Q (l.drop k) a' w.drew) (l.take k) a) : (Code.region id l.toArray true).wpIn (Fence.wide.inRound r) n P Q a w := by
  simp only [Region.lexTailB, Bool.and_eq_true, decide_eq_true_eq] at hB
  obtain ⟨⟨⟨⟨hsel, hn⟩, hs⟩, hc⟩, hlex⟩ := hB
  have hn' : k < l.length := by simpa using hn
  have htl : (l.take k).length = k := by simp; omega
  have hdl : (l.drop k).length = l.toArray.size - k := by simp
  have inv0 : HeadInv .any l.toArray k (Array.replicate l.toArray.size false) :=
    ⟨by simp, fun j oj _ hl => (by rw [getD_replicate_false] at hl; cases hl), fun t _ ht => getD_in (by simpa using ht) (getD_replicate_false _ _)⟩
  have H := wpAnyL_lex (md := .any) (g := l.toArray.size - k) hsel hs hc hn (l.take k) 0 _ a (fun j hj => by
    have hj' : j < k := by rw [htl] at hj; exact hj
    simp [hj']) (by simpa using htl) inv0 (by rw [htl]; exact hlex) h
  refine region_in hm hQ hd ?_
  have := wpAny_of_head (Q' := Q) (g := l.toArray.size - k) (fun listed a' hL => by
    have := wpAny_of_seq (md := .any) (Q' := Q) (l.drop k) k listed a' w.drew (fun j => by simp [List.getElem?_drop]) (by rw [hdl]; exact hL.1) hL.2
    rwa [hdl] at this) _ _ _ H
  rw [htl, show k + (l.toArray.size - k) = l.toArray.size by omega] at this
  exact this

/-! ### A condition on the world that holds until the last operation, which waits for all others -/
def wpAnyE (P : Program) (md : Region.Mode) (ops : Array Oper) (Q : Exit → Act → World → Prop) (S : World → Prop) (last : Nat) : Nat → Array Bool → Act → World → Prop
  | 0, listed, a, w => Region.ready md ops listed = [] ∧ Q .normal a w
  | fuel + 1, listed, a, w =>
    (Region.ready md ops listed = [] → Q .normal a w) ∧
    ∀ i ∈ Region.ready md ops listed, wpOp P ops Q i (fun a' w' => (i ≠ last → S w') ∧ wpAnyE P md ops Q S last fuel (listed.setIfInBounds i true) a' w') a w
variable {md : Region.Mode} {S : World → Prop} {last : Nat}
theorem any_of_early : ∀ (fuel : Nat) (listed : Array Bool) (a : Act) (w : World), wpAnyE P md ops Q S last fuel listed a w → wpAny P md ops Q fuel listed a w
  | 0, _, _, _, h => h
  | fuel + 1, _, _, _, h => ⟨h.1, fun i hi => wpOp_mono (fun a' w' h' => any_of_early fuel _ a' w' h'.2) (h.2 i hi)⟩
theorem early_first {i : Nat} {oi : Oper} {v : Value} (hi : ops[i]? = some oi) (hsel : ∀ (j : Nat) (o : Oper) cs b, ops[j]? = some o → o.op ≠ .select cs b) (hw : Region.waitsFor md ops last i = true) (hil : i ≠ last)
    (hQ : ∀ c a w, Q (.panic c) (a.put oi.dst v) w → Q (.panic c) a w) :
    ∀ (fuel : Nat) (listed : Array Bool) (a : Act) (w : World),
      (∀ j oj, ops[j]? = some oj → j ≠ i → listed.getD j true = false → (∀ e ∈ oj.after, Region.binds md e = true → e.on ≠ i) → oi.apart ops oj = true) →
      i ∈ Region.ready md ops listed → YieldsIf P ops S oi v a → S w →
      wpAnyE P md ops Q S last fuel (listed.setIfInBounds i true) (a.put oi.dst v) w → wpAnyE P md ops Q S last (fuel + 1) listed a w := by
  intro fuel
  induction fuel with
  | zero =>
    intro listed a w _ hr hy hS H
    refine ⟨fun h => (by rw [h] at hr; cases hr), fun j hj => ?_⟩
    by_cases hji : j = i
    · subst hji
      exact hy.wpOp hi hS ⟨fun _ => hS, H⟩
    · have := ready_mono hj hji
      rw [H.1] at this
      cases this
  | succ fuel ih =>
    intro listed a w hfree hr hy hS H
    refine ⟨fun h => (by rw [h] at hr; cases hr), fun j hj => ?_⟩
    by_cases hji : j = i
    · subst hji
      exact hy.wpOp hi hS ⟨fun _ => hS, H⟩
    · have h1 := H.2 j (ready_mono hj hji)
      obtain ⟨hjun, oj, hoj, hall⟩ := mem_ready.1 hj
      have hnot : ∀ e ∈ oj.after, Region.binds md e = true → e.on ≠ i := fun e he hb heq => by
        have h1 := hall e he hb
        have h0 := (mem_ready.1 hr).1
        rw [heq] at h1
        rcases Nat.lt_or_ge i listed.size with h' | h'
        · simp [h'] at h0 h1
          rw [h0] at h1
          cases h1
        · simp [Array.getElem?_eq_none h'] at h1
      have hjl : j ≠ last := by
        rintro rfl
        obtain ⟨oj', hoj', e, he, hb, heq⟩ := Region.waitsFor_spec hw
        rw [hoj] at hoj'
        cases hoj'
        exact hnot e he hb heq
      have h2 := wpOp_putIf hoj (hfree j oj hoj hji hjun hnot) (fun cs b => hsel i oi cs b hi) (fun cs b => hsel j oj cs b hoj) hQ hy h1
      have hfree' : ∀ k ok, ops[k]? = some ok → k ≠ i → (listed.setIfInBounds j true).getD k true = false →
          (∀ e ∈ ok.after, Region.binds md e = true → e.on ≠ i) → oi.apart ops ok = true := fun k ok hk hki hun hno => by
        refine hfree k ok hk hki ?_ hno
        by_cases hjk : j = k
        · subst hjk
          exact hjun
        · rw [getD_set_ne true hjk] at hun
          exact hun
      refine wpOp_mono (fun a' w' h3 => ⟨h3.2.1, ih (listed.setIfInBounds j true) a' w' hfree' (ready_mono hr (Ne.symm hji)) h3.1 (h3.2.1 hjl) ?_⟩) h2
      rw [Array.setIfInBounds_comm _ _ hji]
      exact h3.2.2
theorem early_take {i : Nat} {oi : Oper} {v : Value} {fuel : Nat} {listed : Array Bool} {a : Act} {w : World} (hi : ops[i]? = some oi) (hw : Region.waitsFor md ops last i = true) (hil : i ≠ last)
    (hs : Region.noSelect ops = true) (hf : Region.free md ops listed i = true) (hr : (Region.ready md ops listed).contains i = true)
    (hQ : ∀ c a w, Q (.panic c) (a.put oi.dst v) w → Q (.panic c) a w) (hy : YieldsIf P ops S oi v a) (hS : S w)
    (h : wpAnyE P md ops Q S last fuel (listed.setIfInBounds i true) (a.put oi.dst v) w) : wpAnyE P md ops Q S last (fuel + 1) listed a w :=
  early_first hi (Region.noSelect_spec hs) hw hil hQ fuel listed a w (Region.free_spec hi hf) (by simpa using hr) hy hS h
theorem early_next {i : Nat} {o : Oper} {fuel : Nat} {listed : Array Bool} {a : Act} {w : World} (hr : Region.ready md ops listed = [i]) (ho : ops[i]? = some o)
    (h : ∀ K' : Act → World → Prop, (∀ a w, (i ≠ last → S w) → wpAnyE P md ops Q S last fuel (listed.setIfInBounds i true) a w → K' a w) → if Region.wanted o (yielded ops a.tmps) = true then Oper.wp P o a w K' Q else K' (a.put o.dst undef) w) : wpAnyE P md ops Q S last (fuel + 1) listed a w := by
  refine ⟨(fun h0 => by rw [hr] at h0; cases h0), fun j hj => ?_⟩
  rw [hr, List.mem_singleton] at hj
  subst hj
  exact wpOp_step ho fun K hK => h K fun a w h1 h2 => hK a w ⟨h1, h2⟩
theorem early_done {listed : Array Bool} {a : Act} {w : World} (hr : Region.ready md ops listed = []) (h : Q .normal a w) : ∀ fuel, wpAnyE P md ops Q S last fuel listed a w
  | 0 => ⟨hr, h⟩
  | _ + 1 => ⟨fun _ => h, by rw [hr]; simp⟩
theorem region_early {id : Nat} {a : Act} {w : World} (S : World → Prop) (last : Nat) (hm : P.follows .mixedOrders = true) (hQ : ¬ LetsOut Q) (hd : noDefer ops = true) (hS : S w.drew)
    (h : S w.drew → wpAnyE P .any ops Q S last ops.size (Array.replicate ops.size false) a w.drew) : (Code.region id ops true).wpIn (Fence.wide.inRound r) n P Q a w :=
  region_in hm hQ hd (any_of_early _ _ _ _ (h hS))
end
end Go.Proofs.YtflgkplneekpfaaGreatDoor.Rng

namespace Go.Proofs.YtflgkplneekpfaaGreatDoor.Vot
open Go.RowKit Grp Mem _root_.Go.Proofs.YtflgkplneekpfaaGreatDoor.Code Sha Sign _root_.Go.Proofs.YtflgkplneekpfaaGreatDoor.Item _root_.Go.Proofs.YtflgkplneekpfaaGreatDoor.Known Rng

attribute [local go_sem] Oper.semAt_some

/-! ### A region in the text's order, in a round: by the plain laws -/
section
variable {P : Program} {r n : Nat} {Q' : Exit → Act → World → Prop} {ops : Array Oper}
theorem list_in (hQ : ¬ LetsOut Q') : ∀ (l : List Oper) (a : Act) (w : World), (∀ o ∈ l, ∀ c, o.op ≠ Op.defer c) → wpList P ops Q' l a w → wpListIn (Fence.wide.inRound r) n P ops Q' l a w := by
  intro l
  induction l with
  | nil => intro a w _ h; exact h
  | cons o rest ih =>
    intro a w hd h
    have hd2 : ∀ o ∈ rest, ∀ c, o.op ≠ Op.defer c := fun o ho => hd o (List.mem_cons_of_mem _ ho)
    unfold wpList at h
    unfold wpListIn
    split at h
    · rename_i hw
      rw [if_pos hw]
      rcases h with h | ⟨-, h⟩
      · exact Oper.wpIn_mono (fun a w hh => ih a w hd2 hh) (oper_in (hd o (List.mem_cons_self ..)) h)
      · exact absurd h hQ
    · rename_i hw
      rw [if_neg hw]
      exact ⟨fun _ _ => trivial, ih _ _ hd2 h⟩
theorem noDefer_mem {l : List Oper} (h : noDefer l.toArray = true) : ∀ o ∈ l, ∀ c, o.op ≠ Op.defer c := by
  intro o ho c hc
  have h1 := (Array.all_eq_true_iff_forall_mem.1 h) o (by simpa using ho)
  rw [hc] at h1
  cases h1
theorem region_plain_in {id : Nat} {a : Act} {w : World} {l : List Oper} (hQ : ¬ LetsOut Q') (hd : noDefer l.toArray = true) (h : wpList P l.toArray Q' l a w) : (Code.region id l.toArray false).wpIn (Fence.wide.inRound r) n P Q' a w :=
  wpIn_region_lit (list_in hQ l a w (noDefer_mem hd) h)
end

/-- A load of a whole struct, inside a fence. -/
theorem wpListIn_load_run {F : Fence} {n : Nat} {P : Program} {ops : Array Oper} {rest : List Oper} {o : Oper} {a : Act} {w : World} {K : Exit → Act → World → Prop} (ty : TypeId) (y : Operand) (p v : Value) (ho : o.op = .load ty y) (hw : Region.wanted o (yielded ops a.tmps) = true)
    (hy : a.eval y = p) (hr : (Instr.loadAt ty p).run P w = .ok v w) (h : wpListIn F n P ops K rest (a.put o.dst v) w) : wpListIn F n P ops K (o :: rest) a w := by
  refine wpListIn_step fun K' hK => ?_
  rw [if_pos hw]
  unfold Oper.wpIn
  refine ⟨?_, ?_⟩
  · simp [Oper.about, ho]
  · rw [Oper.semAt_plain F _ _ (by rw [ho]; intro c hc'; cases hc')]
    simp only [execOp, ho, hy, Sem.run_bind, hr, Result.andThen_ok, Sem.run_pure]
    exact hK _ _ h

/-! ### Blocks of one type -/
/-- The blocks of type t lie as they lay. -/
def KeepT (t : TypeId) (X Y : World) : Prop := ∀ (g : Nat) (cs : Array Value) (fz : Nat × Nat), X.heap[g]? = some (.cells cs t fz) → Y.heap[g]? = some (.cells cs t fz)
theorem KeepT.refl (t : TypeId) (X : World) : KeepT t X X := fun _ _ _ h => h
theorem KeepT.trans {t : TypeId} {X Y Z : World} (h : KeepT t X Y) (k : KeepT t Y Z) : KeepT t X Z := fun g cs fz hh => k g cs fz (h g cs fz hh)
theorem KeepT.of_q {t : TypeId} {X Y : World} (h : Q X Y) : KeepT t X Y := fun g cs fz hh => (h.block g (Array.getElem?_eq_some_iff.1 hh).1).trans hh
theorem KeepT.setCell {t u : TypeId} (X : World) (p : Addr) (v : Value) (cs : Array Value) (fz : Nat × Nat) (hp : X.heap[p.block]? = some (.cells cs u fz)) (hu : u ≠ t) : KeepT t X (X.setCell p v) := fun g cs' fz' hh => by
  refine (Below.heap_setCell _ _ _ g ?_).trans hh
  rintro rfl
  rw [hp] at hh
  injection hh with hh
  injection hh with _ hh
  exact hu hh
theorem KeepT.grown {t u : TypeId} {X Y : World} {row : Option Nat} (hg : X.grownBy Y row) (hr : ∀ r, row = some r → ∃ cs fz, X.heap[r]? = some (.cells cs u fz)) (hu : u ≠ t) : KeepT t X Y := fun g cs fz hh => by
  refine (hg.block g (Array.getElem?_eq_some_iff.1 hh).1 ?_).trans hh
  intro e
  obtain ⟨cs', fz', h'⟩ := hr g e.symm
  rw [h'] at hh
  injection hh with hh
  injection hh with _ hh
  exact hu hh
theorem KeepT.putObj {t : TypeId} (X : World) (l : Nat) (o o' : Obj) (h : X.heap[l]? = some o) (ho : o.isCells = false) : KeepT t X (X.putObj l o') := fun g cs fz hh => by
  refine (World.putObj_heap_other ?_).trans hh
  rintro rfl
  rw [h] at hh
  cases hh
  cases ho
/-- What a round keeps: what lies below n, and the blocks of type t. -/
def KpB (n : Nat) (t : TypeId) (X Y : World) : Prop := Below n X Y ∧ KeepT t X Y
theorem KpB.trans {n : Nat} {t : TypeId} {X Y Z : World} (h : KpB n t X Y) (k : KpB n t Y Z) : KpB n t X Z := ⟨h.1.trans k.1, h.2.trans k.2⟩
theorem KpB.putObj {n : Nat} {t : TypeId} {w : World} (hn : n ≤ w.heap.size) (W : World) (l : Nat) (o o' : Obj) (hl : w.heap.size ≤ l) (h : W.heap[l]? = some o) (hc : o.isCells = false) (_ : o.isWalk = false) : KpB n t W (W.putObj l o') :=
  ⟨(Below.refl n W).grown (grownBy_putObj' W l o') (by have := (Array.getElem?_eq_some_iff.1 h).1; omega) (fun k e => by cases e; omega), KeepT.putObj W l o o' h hc⟩
theorem Owns.keepT {w w' : World} {base : Nat} {e : TypeId} {size : Nat} {v : Value} {n : Nat} {xs : List Value} (h : Owns w base e size v n xs) (hk : KeepT e w w') : Owns w' base e size v n xs := by
  refine ⟨h.1, ?_⟩
  rcases h.2 with hn | ⟨g, cap, cur, fz, hv, hb, hg, rest⟩
  · exact .inl hn
  · exact .inr ⟨g, cap, cur, fz, hv, hb, hk g cur fz hg, rest⟩
theorem grown_q {W W' : World} (h : Q W W') : W.grownBy W' none := ⟨h.os, h.tape, h.output, h.size, fun i hi _ => h.block i hi⟩
theorem blk_boxed {W : World} {g : Nat} {t : TypeId} {v : Value} (h : Blk W g t #[v]) : Boxed W g t v := h

set_option maxRecDepth 100000 in
set_option maxHeartbeats 4000000 in
/-- **The iterator**: the ballots for an actor and a generation, in order. -/
theorem iter_in (n : Nat) (hn : 2 ≤ n) (l bk ba bg n0 : Nat) (k : KR) (actor : ByteArray) (gen : Int) (hlen : k.l.length ≤ 1000) (hs : SortedF (takeB actor gen k.l)) (J Jx : List BallotV → World → Prop) (W : World) (hT : Tab W) (hK : KIn W k)
    (hk : Blk W bk 31 k.cells.toArray) (ha : W.cell? ⟨ba, 0, none⟩ = some (.string actor)) (hg : W.cell? ⟨bg, 0, none⟩ = some (.int .i64 gen)) (hJ : AbidesFrom W.heap.size J)
    (hY : ∀ pre x W1, J pre W1 → pre.length < 1000 → YieldAt Fence.wide (n - 1) Tryz.prog l #[.agg (ballotA x)] W1 fun e W' =>
      (e = .returned (.bool true) ∧ J (pre ++ [x]) W' ∧ KpB n0 46 W1 W') ∨ (e = .returned (.bool false) ∧ Jx (pre ++ [x]) W'))
    (h0 : J [] W) :
    CallsIn Fence.wide n Tryz.prog 101 #[.func (.yield l) #[] #[], .pointer (some ⟨bk, 0, none⟩), .pointer (some ⟨ba, 0, none⟩), .pointer (some ⟨bg, 0, none⟩)] W fun e W' => (∃ v, e = .returned v) ∧ ((∃ xs, xs = ballotsS actor gen k.l ∧ J xs W') ∨ (∃ pre, True ∧ Jx pre W')) := by
  have hwf : ∀ f, Fence.wide.fn f := fun _ => trivial
  have hn1 : 1 ≤ n := by omega
  have hn2 : 1 ≤ n - 1 := by omega
  have hLk := Wd.load (P := Tryz.prog) (ty := 31) hk.lt (Blk.range hk) Tryz.underlying31 rfl (by kernel_rfl) ⟨W, Q.refl W⟩
  have hb := ballotsS_any k actor gen W hT hK hlen hs
  have hle : (ballotsS actor gen k.l).length ≤ 1000 := by
    unfold ballotsS
    rw [List.length_map]
    have := takeB_le actor gen k.l k.l.length
    rw [List.take_length] at this
    omega
  generalize ballotsS actor gen k.l = L at *
  refine callsIn_of_wp Tryz.func101 rfl trivial ?_ rfl
  simp only [Tryz.ntmps101, List.size_toArray, List.length_cons, List.length_nil, Nat.reduceAdd, Nat.reduceSub, Array.replicate_succ, Array.replicate_zero, List.push_toArray, List.append_toArray, List.nil_append, List.cons_append]
  refine wpIn_seq ?_
  refine wpIn_wide.2 ?_
  go_wp2_with (first | (refine wpList_load_run 31 (.tmp 1) (.pointer (some ⟨bk, 0, none⟩)) (.agg (knA k)) ?_ ?_ ?_ ?_ ?_; rfl; rfl; rfl; exact hLk) | (go_at_call 102; refine hb.mono ?_; rintro e w' ⟨A, c, rfl, hlc, hcm, hown, hq⟩))
  gi_wp2
  gi_loopw [12] (fun i wr => ∃ j : Nat, i = .int .i64 j ∧ j ≤ L.length ∧ Owns wr W.heap.size 46 7 (.slice A L.length c) L.length (L.flatMap BallotV.cells) ∧ J (L.take j) wr) (fun i _ => L.length - (intOf i).toNat)
  case atStart => exact ⟨0, rfl, Nat.zero_le _, hown, by rw [List.take_zero]; exact hJ _ _ _ none h0 (grown_q hq) (fun r e => by cases e)⟩
  case round =>
    clear hown hq
    obtain ⟨j, rfl, hj, hown, hJs⟩ := hrel
    by_cases hlt : j < L.length
    · have hlI : (j : Int) < (L.length : Int) := by omega
      obtain ⟨b, o, eA, hb, hcs⟩ := Owns.rows bal_len hown rfl (by omega)
      subst eA
      have hld : ∀ y : Wd wr, (Instr.loadAt 46 (.pointer (some ⟨b, o + j * 7, none⟩))).run Tryz.prog y.w = .ok (.agg (ballotA L[j])) y.w := Wd.load hb (hcs j hlt) Tryz.underlying46 rfl (by kernel_rfl)
      have HTK := Lib.hid (List.take_succ_eq_append_getElem hlt)
      have HYY := Lib.hid hY
      have HJJ := Lib.hid hJ
      clear hcs hY hJ hLk hk hK hT ha hg hs
      generalize L[j] = x at *
      obtain ⟨wo, hwo⟩ : ∃ wo : World, wo = wr := ⟨_, rfl⟩
      subst hwo
      refine wpIn_seq ?_
      refine wpIn_wide.2 ?_
      go_wp2_with fail
      refine wpIn_seq ?_
      refine wpIn_cond_true rfl ?_
      refine wpIn_skip ?_
      refine wpIn_seq ?_
      refine wpIn_block ?_
      refine wpIn_seq ?_
      refine wpIn_wide.2 ?_
      go_wp2_with (first | (refine wpList_load_run 46 (.tmp 14) (.pointer (some ⟨b, o + j * 7, none⟩)) (.agg (ballotA x)) ?_ ?_ ?_ ?_ ?_; rfl; rfl; rfl; exact hld ⟨_, Q.refl _⟩) | (refine wpList_store_blk (Blk.new wo 46 ballot0.cells.toArray) rfl 46 (.tmp 6) (.tmp 15) x.cells rfl rfl rfl (by kernel_rfl) (ballot_all _) (Nat.le_refl 7) ?_))
      intro W2 hW hbel
      rw [splice_all _ _ (by rfl)] at hW
      have hqz : Q wo W2 := hbel _ _ (Nat.le_refl _) (q_new _ _ _)
      have hJ2 := HJJ.out _ _ _ none hJs (grown_q hqz) (fun r e => by cases e)
      have hown2 := hown.q hqz
      have hLx : (Instr.loadAt 46 (.pointer (some ⟨wo.heap.size, 0, none⟩))).run Tryz.prog W2 = .ok (.agg (ballotA x)) W2 := Wd.load hW.lt (Blk.range hW) Tryz.underlying46 rfl (by kernel_rfl) ⟨W2, Q.refl _⟩
      obtain ⟨fn, tmps, assign, body, hy, hR⟩ := HYY.out _ x _ hJ2 (by rw [List.length_take]; omega)
      rw [← HTK.out] at hR
      clear hbel hld hW hJs hown hJ2 hb
      generalize wo.heap.size = gb at *
      go_wp2_with fail
      gi_wp2_with (refine wpListIn_load_run 46 (.tmp 6) (.pointer (some ⟨gb, 0, none⟩)) (.agg (ballotA x)) ?_ ?_ ?_ ?_ ?_; rfl; rfl; rfl; exact hLx)
      refine hR.mono ?_
      rintro e W3 (⟨rfl, hJ3, hk3⟩ | ⟨rfl, hJx3⟩)
      · gi_wp2
        exact ⟨⟨j + 1, by go_num, by omega, Owns.keepT hown2 hk3.2, hJ3⟩, by simp only [intOf]; omega⟩
      · gi_wp2
        refine bodyPost_ret (results_none rfl _ _ _) rfl ?_
        exact ⟨⟨_, rfl⟩, .inr ⟨_, trivial, hJx3⟩⟩
    · have hlI : ¬ ((j : Int) < (L.length : Int)) := by omega
      have hjn : j = L.length := by omega
      have hall : L.take j = L := List.take_of_length_le (by omega)
      rw [hall] at hJs
      gi_wp2
      go_end0
      exact ⟨⟨_, rfl⟩, .inl hJs⟩
theorem iter_stops (n : Nat) (hn : 2 ≤ n) (bk ba bg n0 : Nat) (k : KR) (actor : ByteArray) (gen : Int) (hlen : k.l.length ≤ 1000) (hs : SortedF (takeB actor gen k.l)) (w : World) (hT : Tab w) (hK : KIn w k)
    (hk : Blk w bk 31 k.cells.toArray) (ha : Blk w ba 9 #[.string actor]) (hg : Blk w bg 3 #[.int .i64 gen]) :
    SeqStopsK Fence.wide n Tryz.prog 101 #[.pointer (some ⟨bk, 0, none⟩), .pointer (some ⟨ba, 0, none⟩), .pointer (some ⟨bg, 0, none⟩)] (fun x : BallotV => #[.agg (ballotA x)]) (KpB n0 46) (fun xs => xs = ballotsS actor gen k.l) (fun _ => True) 1000 w :=
  fun l J Jx W hW hJ _ hY h0 => iter_in n hn l bk ba bg n0 k actor gen hlen hs J Jx W (hT.q hW) (hK.q hW) (hk.q hW) ((ha.q hW).cell 0) ((hg.q hW).cell 0) hJ hY h0

/-- The iterator as a value: three boxes. -/
theorem ballotsF_any (k : KR) (actor : ByteArray) (gen : Int) (w : World) :
    Calls Tryz.prog 50 #[.agg (knA k), .string actor, .int .i64 gen] w fun e w' => e = .returned (.func (.func 101) #[] #[.pointer (some ⟨w.heap.size, 0, none⟩), .pointer (some ⟨w.heap.size + 1, 0, none⟩), .pointer (some ⟨w.heap.size + 1 + 1, 0, none⟩)]) ∧
      w' = ((w.alloc (.cells (knA k) 31)).alloc (.cells #[.string actor] 9)).alloc (.cells #[.int .i64 gen] 3) := by
  go_enter Tryz.func50, Tryz.ntmps50
  go_wp2
  go_ret
  exact ⟨rfl, rfl⟩
end Go.Proofs.YtflgkplneekpfaaGreatDoor.Vot

namespace Go.Proofs.YtflgkplneekpfaaGreatDoor.Vot
open _root_.Go.Proofs.YtflgkplneekpfaaGreatDoor.Code Sha Sign _root_.Go.Proofs.YtflgkplneekpfaaGreatDoor.Item _root_.Go.Proofs.YtflgkplneekpfaaGreatDoor.Known

/-! ### Sorted and compacted lists -/
theorem cu_mem (d : Array Int) (x : Int) : ∀ m, x ∈ Lib.compactUpTo d m ↔ ∃ i, i < m ∧ d[i]! = x
  | 0 => by simp [Lib.compactUpTo]
  | m + 1 => by
    rw [Lib.compactUpTo_succ, List.mem_append, cu_mem d x m]
    constructor
    · rintro (⟨i, h1, h2⟩ | h)
      · exact ⟨i, by omega, h2⟩
      · split at h
        · rw [List.mem_singleton] at h
          exact ⟨m, by omega, h.symm⟩
        · cases h
    · rintro ⟨i, h1, h2⟩
      rcases Nat.lt_or_ge i m with h3 | h3
      · exact .inl ⟨i, h3, h2⟩
      · have hi : i = m := by omega
        subst hi
        cases hk : Lib.keeps d i
        · refine .inl ⟨i - 1, ?_, ?_⟩
          · rcases Nat.eq_zero_or_pos i with h0 | h0
            · subst h0
              simp [Lib.keeps] at hk
            · omega
          · have hk2 : ¬ (i = 0 ∨ d[i]! ≠ d[i - 1]!) := by
              unfold Lib.keeps at hk
              simpa using hk
            have : d[i]! = d[i - 1]! := Classical.byContradiction fun hn => hk2 (.inr hn)
            rw [← this, h2]
        · exact .inr (by rw [if_pos rfl, h2]; exact List.mem_singleton.2 rfl)
theorem cu_asc (d : Array Int) (hs : ∀ i j, i ≤ j → j < d.size → d[i]! ≤ d[j]!) : ∀ m, m ≤ d.size → (Lib.compactUpTo d m).Pairwise (· < ·)
  | 0, _ => by simp [Lib.compactUpTo]
  | m + 1, hm => by
    rw [Lib.compactUpTo_succ, List.pairwise_append]
    refine ⟨cu_asc d hs m (by omega), by split <;> simp, ?_⟩
    intro a ha b hb
    split at hb
    · rename_i hk
      rw [List.mem_singleton] at hb
      subst hb
      obtain ⟨i, hi, rfl⟩ := (cu_mem d a m).1 ha
      have h1 : ¬ m = 0 := by omega
      have h2 : d[m]! ≠ d[m - 1]! := by
        unfold Lib.keeps at hk
        rcases of_decide_eq_true hk with h | h
        · exact absurd h h1
        · exact h
      have h3 := hs i (m - 1) (by omega) (by omega)
      have h4 := hs (m - 1) m (by omega) (by omega)
      omega
    · cases hb
/-- slices.Sort, then slices.Compact. -/
def sortU (zs : List Int) : List Int := Lib.compact (zs.mergeSort fun x y => decide (x ≤ y))
theorem sortU_mem (zs : List Int) (x : Int) : x ∈ sortU zs ↔ x ∈ zs := by
  unfold sortU Lib.compact
  rw [cu_mem, ← List.mem_mergeSort (le := fun x y => decide (x ≤ y)) (l := zs)]
  generalize zs.mergeSort (fun x y => decide (x ≤ y)) = L
  rw [List.mem_iff_getElem]
  constructor
  · rintro ⟨i, h1, h2⟩
    refine ⟨i, h1, ?_⟩
    rw [getElem!_pos L.toArray i (by simpa using h1)] at h2
    simpa using h2
  · rintro ⟨i, h1, h2⟩
    refine ⟨i, h1, ?_⟩
    rw [getElem!_pos L.toArray i (by simpa using h1)]
    simpa using h2
theorem sortU_asc (zs : List Int) : (sortU zs).Pairwise (· < ·) := by
  unfold sortU Lib.compact
  have hp : (zs.mergeSort fun x y => decide (x ≤ y)).Pairwise fun a b => decide (a ≤ b) = true := List.pairwise_mergeSort (le := fun x y : Int => decide (x ≤ y)) (fun a b c h1 h2 => decide_eq_true (Int.le_trans (of_decide_eq_true h1) (of_decide_eq_true h2))) (fun a b => by
    rcases Int.le_total a b with h | h
    · simp [h]
    · simp [h]) zs
  generalize zs.mergeSort (fun x y => decide (x ≤ y)) = L at hp
  refine cu_asc _ (fun i j hij hj => ?_) _ (by simp)
  have hj' : j < L.length := by simpa using hj
  rw [getElem!_pos L.toArray i (by simp; omega), getElem!_pos L.toArray j hj]
  rcases Nat.lt_or_ge i j with h | h
  · have := List.pairwise_iff_getElem.1 hp i j (by omega) hj' h
    simpa using of_decide_eq_true this
  · have : i = j := by omega
    subst this
    exact Int.le_refl _
theorem asc_unique : ∀ l m : List Int, l.Pairwise (· < ·) → m.Pairwise (· < ·) → (∀ d, d ∈ l ↔ d ∈ m) → l = m
  | [], [], _, _, _ => rfl
  | [], b :: m, _, _, h => by have := (h b).2 (List.mem_cons_self ..); simp at this
  | a :: l, [], _, _, h => by have := (h a).1 (List.mem_cons_self ..); simp at this
  | a :: l, b :: m, hl, hm, h => by
    obtain ⟨l1, l2⟩ := List.pairwise_cons.1 hl
    obtain ⟨m1, m2⟩ := List.pairwise_cons.1 hm
    have hab : a = b := by
      rcases List.mem_cons.1 ((h a).1 (List.mem_cons_self ..)) with e | e
      · exact e
      · rcases List.mem_cons.1 ((h b).2 (List.mem_cons_self ..)) with e2 | e2
        · exact e2.symm
        · have h1 := m1 a e
          have h2 := l1 b e2
          omega
    subst hab
    congr 1
    refine asc_unique l m l2 m2 fun d => ⟨fun hd => ?_, fun hd => ?_⟩
    · rcases List.mem_cons.1 ((h d).1 (List.mem_cons_of_mem _ hd)) with rfl | e
      · have := l1 _ hd; omega
      · exact e
    · rcases List.mem_cons.1 ((h d).2 (List.mem_cons_of_mem _ hd)) with rfl | e
      · have := m1 _ hd; omega
      · exact e

/-! ### Voters -/
def voterL (claim : ByteArray) (bs : List BallotV) : List Int := (bs.filter fun b => decide (b.claim = claim)).map (·.server)
def votersK (claim : ByteArray) (bs : List BallotV) : List Int := sortU (voterL claim bs)
theorem voterL_snoc (claim : ByteArray) (bs : List BallotV) (b : BallotV) : voterL claim (bs ++ [b]) = voterL claim bs ++ if decide (b.claim = claim) then [b.server] else [] := by
  unfold voterL
  rw [List.filter_append, List.map_append]
  congr 1
  cases h : decide (b.claim = claim) <;> simp [List.filter, h]
theorem voterL_le (claim : ByteArray) (bs : List BallotV) : (voterL claim bs).length ≤ bs.length := by
  unfold voterL
  rw [List.length_map]
  exact List.length_filter_le _ _
theorem voters_mem (claim : ByteArray) (bs : List BallotV) (x : Int) : x ∈ votersK claim bs ↔ ∃ b ∈ bs, b.claim = claim ∧ b.server = x := by
  unfold votersK voterL
  rw [sortU_mem, List.mem_map]
  constructor
  · rintro ⟨b, h1, h2⟩
    rw [List.mem_filter, decide_eq_true_eq] at h1
    exact ⟨b, h1.1, h1.2, h2⟩
  · rintro ⟨b, h1, h2, h3⟩
    exact ⟨b, by rw [List.mem_filter, decide_eq_true_eq]; exact ⟨h1, h2⟩, h3⟩
theorem voters_asc (claim : ByteArray) (bs : List BallotV) : (votersK claim bs).Pairwise (· < ·) := sortU_asc _
theorem mergeSort_len (zs : List Int) : (zs.mergeSort fun x y => decide (x ≤ y)).length = zs.length := List.length_mergeSort zs
theorem compact_len (zs : List Int) : (Lib.compact zs).length ≤ zs.length := by
  unfold Lib.compact Lib.compactUpTo
  rw [List.length_map]
  refine Nat.le_trans (List.length_filter_le _ _) ?_
  rw [List.length_range]
  exact Nat.le_refl _
theorem voters_le (claim : ByteArray) (bs : List BallotV) : (votersK claim bs).length ≤ bs.length := by
  unfold votersK sortU
  refine Nat.le_trans (compact_len _) ?_
  rw [mergeSort_len]
  exact voterL_le claim bs

/-! ### The least claim of a server -/
def ownStep (server : Int) (acc : ByteArray × Bool) (b : BallotV) : ByteArray × Bool := if decide (b.server = server) && (!acc.2 || lessB b.claim acc.1) then (b.claim, true) else acc
def ownK (server : Int) (bs : List BallotV) : ByteArray × Bool := bs.foldl (ownStep server) (emptyT, false)
theorem ownK_snoc (server : Int) (bs : List BallotV) (b : BallotV) : ownK server (bs ++ [b]) = ownStep server (ownK server bs) b := by
  unfold ownK
  rw [List.foldl_append]
  rfl

/-! ### The claim that has won -/
def quorumK (n : Int) : Int := if n ≤ 0 then 1 else n / 3 * 2 + n % 3 * 2 / 3 + 1
end Go.Proofs.YtflgkplneekpfaaGreatDoor.Vot

namespace Go.Proofs.YtflgkplneekpfaaGreatDoor.Vot
open Go.RowKit Grp Mem _root_.Go.Proofs.YtflgkplneekpfaaGreatDoor.Code Sha Sign _root_.Go.Proofs.YtflgkplneekpfaaGreatDoor.Item _root_.Go.Proofs.YtflgkplneekpfaaGreatDoor.Known Rng

attribute [local go_sem] Oper.semAt_some

/-! ### slices.Sort and slices.Compact of a row of ints -/
abbrev intE : Int → Value := Value.int .i64
abbrev intC : Int → List Value := fun n => [.int .i64 n]
theorem intC_one (x : Int) : ∀ v ∈ intC x, v.oneCell' = true := by
  intro v hv
  rw [List.mem_singleton] at hv
  subst hv
  rfl
theorem put_holds {w : World} {g n : Nat} {d d' : Array Int} (h : Go.Sort.Holds intE w g 0 d) (hs : d'.size = d.size) : Go.Sort.Holds intE (Go.Sort.putRow intE (Go.Sort.ahead w n) g 0 d') g 0 d' :=
  Go.Sort.holds_putRow intE (Go.Sort.ahead w n) g 0 d d' h hs
theorem holds_cut {w : World} {g : Nat} {l m : List Int} (h : Go.Sort.Holds intE w g 0 (l ++ m).toArray) : Go.Sort.Holds intE w g 0 l.toArray := fun j hj => by
  have hj' : j < l.length := by simpa using hj
  have := h j (by simp; omega)
  rw [getElem!_pos (l ++ m).toArray j (by simp; omega)] at this
  rw [getElem!_pos l.toArray j hj]
  simp only [List.getElem_toArray, List.getElem_append_left hj'] at this ⊢
  exact this
theorem sortI_any (g cap : Nat) (zs : List Int) (w : World) (hH : Go.Sort.Holds intE w g 0 zs.toArray) (hg : g < w.heap.size) (hn : zs.length ≤ 1000) :
    Calls Tryz.prog 51 #[.slice (some ⟨g, 0, none⟩) zs.length cap] w fun e w' => e = .returned (.tuple #[]) ∧ Go.Sort.Holds intE w' g 0 (zs.mergeSort fun x y => decide (x ≤ y)).toArray ∧ w.grownBy w' (some g) := by
  refine (Tryz.slices_Sort_int g 0 cap zs w hH hg (by omega)).mono ?_
  rintro e w' ⟨rfl, n, os, rfl⟩
  refine ⟨rfl, ?_, grownBy_sortedI _⟩
  refine Go.Sort.holds_grow intE _ os g 0 _ ?_ (put_holds hH ?_)
  · rw [Go.Sort.size_putRow]
    exact hg
  · simp
theorem compactI_any (g cap : Nat) (zs : List Int) (w : World) (hH : Go.Sort.Holds intE w g 0 zs.toArray) (hn : zs.length ≤ 1000) (hc : zs.length ≤ cap) :
    Calls Tryz.prog 52 #[.slice (some ⟨g, 0, none⟩) zs.length cap] w fun e w' => e = .returned (.slice (some ⟨g, 0, none⟩) (Lib.compact zs).length cap) ∧ Go.Sort.Holds intE w' g 0 (Lib.compact zs).toArray ∧ w.grownBy w' (some g) := by
  refine (Tryz.slices_Compact_int g 0 cap zs w hH (by omega) hc).mono ?_
  rintro e w' ⟨rfl, q, rfl⟩
  have hl := compact_len zs
  refine ⟨rfl, holds_cut (m := List.replicate (zs.length - (Lib.compact zs).length) 0) (put_holds hH (by simp; omega)), ?_⟩
  have := grownBy_sortedI (w := w) (g := g) (n := q) (os := #[]) (Lib.compact zs ++ List.replicate (zs.length - (Lib.compact zs).length) 0).toArray
  rwa [Go.Sort.grow_empty] at this
theorem holds_ints {w : World} {g : Nat} {l : List Int} (h : Go.Sort.Holds intE w g 0 l.toArray) (hg : g < w.heap.size) : Ints w (some ⟨g, 0, none⟩) l := fun h0 => ⟨g, 0, rfl, hg, fun j hj => by
  have := (h j (by simpa using hj)).1
  rw [getElem!_pos l.toArray j (by simpa using hj)] at this
  simpa using this⟩
theorem flat_one (l : List Int) : l.flatMap intC = l.map intE := by
  induction l with
  | nil => rfl
  | cons a l ih => rw [List.flatMap_cons, ih]; rfl
theorem owns_holds {w : World} {base g cap n : Nat} {l : List Int} (h : Owns w base 3 1 (.slice (some ⟨g, 0, none⟩) n cap) n (l.flatMap intC)) (hn : n = l.length) : Go.Sort.Holds intE w g 0 l.toArray := fun j hj => by
  have hj' : j < l.length := by simpa using hj
  obtain ⟨g', e, _, _, h1, h2⟩ := h.cellAt j (.int .i64 l[j]) (by rw [flat_one, List.getElem?_map, List.getElem?_eq_getElem hj']; rfl)
  injection e with e
  injection e with e
  subst e
  rw [getElem!_pos l.toArray j hj, Nat.zero_add]
  exact ⟨by simpa using h1, h2⟩
theorem owns_zero {w : World} {base n : Nat} {e : TypeId} {sz : Nat} {v : Value} {xs : List Value} (h : Owns w base e sz v n xs) (hn : 0 < n) : ∃ g cap, v = .slice (some ⟨g, 0, none⟩) n cap ∧ base ≤ g ∧ g < w.heap.size ∧ n ≤ cap ∧ cap ≤ maxLen ∧ ∃ cur fz, w.heap[g]? = some (.cells cur e fz) := by
  rcases h.2 with ⟨_, h0⟩ | ⟨g, cap, cur, fz, hv, hb, hg, _, h1, h2, _⟩
  · omega
  · exact ⟨g, cap, hv, hb, (Array.getElem?_eq_some_iff.1 hg).1, h1, h2, cur, fz, hg⟩

/-! ### What holds between two rounds -/
structure VInv (w0 W : World) (n0 B bc : Nat) (claim : ByteArray) (pre : List BallotV) : Prop where
  box : ∃ (A : Option Addr) (c : Nat), Boxed W B 28 (.slice A (voterL claim pre).length c) ∧ Owns W n0 3 1 (.slice A (voterL claim pre).length c) (voterL claim pre).length ((voterL claim pre).flatMap intC)
  cl : Boxed W bc 9 (.string claim)
  q : Below n0 w0 W
theorem boxed_grown {W W' : World} {row : Option Nat} {B : Nat} {t : TypeId} {v : Value} (h : Boxed W B t v) (hg : W.grownBy W' row) (hr : ∀ r, row = some r → ∃ o : Obj, W.heap[r]? = some o ∧ o.isCells = false) : Boxed W' B t v :=
  h.kept hg (fun e => by
    obtain ⟨o, ho, hc⟩ := hr B e.symm
    rw [show W.heap[B]? = _ from h] at ho
    cases ho
    cases hc)
theorem owns_grown {W W' : World} {row : Option Nat} {base n : Nat} {e : TypeId} {sz : Nat} {v : Value} {xs : List Value} (h : Owns W base e sz v n xs) (hg : W.grownBy W' row) (hr : ∀ r, row = some r → ∃ o : Obj, W.heap[r]? = some o ∧ o.isCells = false) : Owns W' base e sz v n xs :=
  h.keep fun k hk => hg.block k (h.lt k hk).2 (fun e2 => by
    rcases h.2 with ⟨rfl, _⟩ | ⟨g, cap, cur, fz, rfl, _, hgg, _⟩
    · simp [Value.ownBlock] at hk
    · simp [Value.ownBlock] at hk
      subst hk
      obtain ⟨o, ho, hc⟩ := hr g e2.symm
      rw [hgg] at ho
      cases ho
      cases hc)
theorem VInv.grown {w0 W W' : World} {n0 B bc : Nat} {claim : ByteArray} {pre : List BallotV} {row : Option Nat} (h : VInv w0 W n0 B bc claim pre) (hn : n0 ≤ w0.heap.size) (hg : W.grownBy W' row) (hr : ∀ r, row = some r → n0 ≤ r ∧ ∃ o : Obj, W.heap[r]? = some o ∧ o.isCells = false) : VInv w0 W' n0 B bc claim pre := by
  have hr2 := fun r e => (hr r e).2
  obtain ⟨A, c, h1, h2⟩ := h.box
  exact ⟨⟨A, c, boxed_grown h1 hg hr2, owns_grown h2 hg hr2⟩, boxed_grown h.cl hg hr2, h.q.grown hg (Nat.le_trans hn h.q.size) (fun k e => (hr k e).1)⟩
theorem VInv.of_q {w0 W W' : World} {n0 B bc : Nat} {claim : ByteArray} {pre : List BallotV} (h : VInv w0 W n0 B bc claim pre) (hn : n0 ≤ w0.heap.size) (hq : Q W W') : VInv w0 W' n0 B bc claim pre := h.grown hn (grown_q hq) (fun r e => by cases e)
/-- Where an own row of another type grows, a box stays. -/
theorem boxed_row {W W' : World} {B base n : Nat} {t e : TypeId} {u v : Value} {sz : Nat} {xs : List Value} (h : Boxed W B t u) (hte : t ≠ e) (hown : Owns W base e sz v n xs) (hg : W.grownBy W' v.ownBlock) : Boxed W' B t u :=
  h.kept hg (fun e2 => by
    rcases hown.2 with ⟨rfl, _⟩ | ⟨g, cap, cur, fz, rfl, _, hgg, _⟩
    · simp [Value.ownBlock] at e2
    · simp [Value.ownBlock] at e2
      subst e2
      rw [show W.heap[B]? = _ from h] at hgg
      injection hgg with hgg
      injection hgg with _ hgg
      exact hte hgg)
/-- A round that appends: the store of the row into its box. -/
theorem voter_step {w0 W W2 W3 : World} {n0 B bc : Nat} {claim : ByteArray} {pre : List BallotV} {x : BallotV} {A A2 : Option Addr} {c c2 : Nat} (hn : n0 ≤ w0.heap.size) (hB : n0 ≤ B) (hBc : B ≠ bc) (h : VInv w0 W n0 B bc claim pre) (h1 : Boxed W B 28 (.slice A (voterL claim pre).length c)) (h2 : Owns W n0 3 1 (.slice A (voterL claim pre).length c) (voterL claim pre).length ((voterL claim pre).flatMap intC))
    (hq : Q W W2) (hg : W2.grownBy W3 (Value.slice A (voterL claim pre).length c).ownBlock) (hown : Owns W3 n0 3 1 (.slice A2 (voterL claim (pre ++ [x])).length c2) (voterL claim (pre ++ [x])).length ((voterL claim (pre ++ [x])).flatMap intC)) :
    Boxed W3 B 28 (.slice A (voterL claim pre).length c) ∧ KeepsOthers W (W3.setCell ⟨B, 0, none⟩ (.slice A2 (voterL claim (pre ++ [x])).length c2)) ∧ KpB n0 46 W (W3.setCell ⟨B, 0, none⟩ (.slice A2 (voterL claim (pre ++ [x])).length c2)) ∧
    VInv w0 (W3.setCell ⟨B, 0, none⟩ (.slice A2 (voterL claim (pre ++ [x])).length c2)) n0 B bc claim (pre ++ [x]) := by
  have h2b := h2.q hq
  have hb2 : Boxed W2 B 28 (.slice A (voterL claim pre).length c) := (hq.block B h1.lt).trans h1
  have hc2 : Boxed W2 bc 9 (.string claim) := (hq.block bc h.cl.lt).trans h.cl
  have hb3 := boxed_row hb2 (by decide) h2b hg
  have hc3 := boxed_row hc2 (by decide) h2b hg
  have hB2 : Below n0 W W2 := hq.mono (Nat.le_trans hn h.q.size)
  have hB3 : Below n0 W2 W3 := (Below.refl n0 W2).grown hg (by have := hB2.size; have := h.q.size; omega) (fun k e => (h2b.lt k e).1)
  have hBs : Below n0 W (W3.setCell ⟨B, 0, none⟩ (.slice A2 (voterL claim (pre ++ [x])).length c2)) := (hB2.trans hB3).setCell (p := ⟨B, 0, none⟩) hB _
  have hrow : ∀ r, (Value.slice A (voterL claim pre).length c).ownBlock = some r → ∃ cs fz, W2.heap[r]? = some (.cells cs 3 fz) := by
    intro r hr
    rcases h2b.2 with ⟨e, _⟩ | ⟨g, cap, cur, fz, e, _, hgg, _⟩
    · rw [e] at hr
      simp [Value.ownBlock] at hr
    · rw [e] at hr
      simp [Value.ownBlock] at hr
      subst hr
      exact ⟨cur, fz, hgg⟩
  refine ⟨hb3, ?_, ⟨hBs, ?_⟩, ⟨⟨A2, c2, hb3.set _, ?_⟩, hc3.other (Ne.symm hBc) _, h.q.trans hBs⟩⟩
  · refine ((KeepsOthers.of_grownBy (grown_q hq) (fun j o e _ => by cases e)).trans (KeepsOthers.of_grownBy hg (fun j o ej hj => ?_))).trans (KeepsOthers.setCell _ _ _)
    obtain ⟨cs, fz, hh⟩ := hrow j ej
    rw [hh] at hj
    cases hj
    rfl
  · exact ((KeepT.of_q hq).trans (KeepT.grown hg hrow (by decide))).trans (KeepT.setCell W3 _ _ _ _ hb3 (by decide))
  · refine hown.keep fun k hk => Below.heap_setCell _ _ _ k ?_
    rintro rfl
    rcases hown.2 with ⟨e, _⟩ | ⟨g, cap, cur, fz, e, _, hgg, _⟩
    · rw [e] at hk
      simp [Value.ownBlock] at hk
    · rw [e] at hk
      simp [Value.ownBlock] at hk
      subst hk
      rw [show W3.heap[g]? = _ from hb3] at hgg
      injection hgg with hgg
      injection hgg with _ hgg
      exact absurd hgg (by decide)

theorem ints_far {w w' : World} {g : Nat} {l : List Int} (h : Ints w (some ⟨g, 0, none⟩) l) (hg : g < w'.heap.size) (hb : w'.heap[g]? = w.heap[g]?) : Ints w' (some ⟨g, 0, none⟩) l := fun h0 => by
  obtain ⟨b, o, e, _, hc⟩ := h h0
  injection e with e
  injection e with e1 e2
  subst e1
  subst e2
  refine ⟨g, 0, rfl, hg, fun j hj => ?_⟩
  rw [← hc j hj]
  simp only [World.cell?, hb]
theorem sortU_nil : sortU [] = [] := by
  have : (sortU []).length ≤ 0 := by
    unfold sortU
    refine Nat.le_trans (compact_len _) ?_
    rw [mergeSort_len]
    exact Nat.le_refl _
  exact List.length_eq_zero_iff.1 (by omega)

/-- What hands back the voters. -/
def VotersAre (l : List Int) (w : World) (e : Ending) (w' : World) : Prop := ∃ (A : Option Addr) (c : Nat), e = .returned (.slice A l.length c) ∧ l.length ≤ c ∧ c ≤ maxLen ∧ Ints w' A l ∧ Q w w'
theorem int_info : (Tryz.prog.info? 3).map (fun i => (i.zero, i.size, i.bytes)) = some (some (.int .i64 0), 1, 8) := by kernel_rfl

set_option maxRecDepth 100000 in
set_option maxHeartbeats 4000000 in
theorem voters_any (k : KR) (claim actor : ByteArray) (gen : Int) (w : World) (hT : Tab w) (hK : KIn w k) (hlen : k.l.length ≤ 1000) (hs : SortedF (takeB actor gen k.l)) :
    Calls Tryz.prog 14 #[.agg (knA k), .string claim, .string actor, .int .i64 gen] w (VotersAre (votersK claim (ballotsS actor gen k.l)) w) := by
  have b1 := Blk.new w 31 (knA k)
  have q1 := q_new w (knA k) 31
  have b2 := Blk.new' (g := w.heap.size + 1) (w.alloc (.cells (knA k) 31)) 9 #[.string claim] (by simp)
  have q2 := q_new (w.alloc (.cells (knA k) 31)) #[.string claim] 9
  have b3 := Blk.new' (g := w.heap.size + 1 + 1) ((w.alloc (.cells (knA k) 31)).alloc (.cells #[.string claim] 9)) 28 #[.slice none 0 0] (by simp)
  have q3 := q_new ((w.alloc (.cells (knA k) 31)).alloc (.cells #[.string claim] 9)) #[.slice none 0 0] 28
  have b1 := (b1.q q2).q q3
  have b2 := b2.q q3
  have hq := Q.trans (Q.trans q1 q2) q3
  obtain ⟨w3, hw3⟩ : ∃ w3, w3 = ((w.alloc (.cells (knA k) 31)).alloc (.cells #[.string claim] 9)).alloc (.cells #[.slice none 0 0] 28) := ⟨_, rfl⟩
  rw [← hw3] at b1 b2 b3 hq
  have hLk := Wd.load (P := Tryz.prog) (ty := 31) b1.lt (Blk.range b1) Tryz.underlying31 rfl (by kernel_rfl) ⟨w3, Q.refl w3⟩
  have HZ3 := Lib.hid (show w3.heap.size = w.heap.size + 3 by rw [hw3]; simp)
  have HX := Lib.hid hw3
  have hle : (ballotsS actor gen k.l).length ≤ 1000 := by
    unfold ballotsS
    rw [List.length_map]
    have := takeB_le actor gen k.l k.l.length
    rw [List.take_length] at this
    omega
  obtain ⟨i0, hi, hi0, hi1, hi2⟩ := info_parts int_info
  clear q1 q2 q3 hw3
  refine (callsIn_wide (n := 6)).1 ?_
  refine callsIn_of_wp_marks Tryz.func14 rfl trivial ?_ rfl
  simp only [Tryz.ntmps14, List.size_toArray, List.length_cons, List.length_nil, Nat.reduceAdd, Nat.reduceSub, Array.replicate_succ, Array.replicate_zero, List.push_toArray, List.append_toArray, List.nil_append, List.cons_append]
  refine wpIn_wide.2 ?_
  go_upto_region 2 with (fail)
  refine (show Code.wp _ _ _ _ w3 → Code.wp _ _ _ _ _ from fun h => by rw [HX.out] at h; exact h) ?_
  go_wp2_with (first | (refine wpList_load_run 31 (.tmp 4) (.pointer (some ⟨w.heap.size, 0, none⟩)) (.agg (knA k)) ?_ ?_ ?_ ?_ ?_; rfl; rfl; rfl; exact hLk) | (go_at_call 50; refine (ballotsF_any k actor gen _).mono ?_; rintro e w' ⟨rfl, hw4⟩))
  have c1 := Blk.new w3 31 (knA k)
  have p1 := q_new w3 (knA k) 31
  have c2 := Blk.new' (g := w3.heap.size + 1) (w3.alloc (.cells (knA k) 31)) 9 #[.string actor] (by simp)
  have p2 := q_new (w3.alloc (.cells (knA k) 31)) #[.string actor] 9
  have c3 := Blk.new' (g := w3.heap.size + 1 + 1) ((w3.alloc (.cells (knA k) 31)).alloc (.cells #[.string actor] 9)) 3 #[.int .i64 gen] (by simp)
  have p3 := q_new ((w3.alloc (.cells (knA k) 31)).alloc (.cells #[.string actor] 9)) #[.int .i64 gen] 3
  have c1 := (c1.q p2).q p3
  have c2 := c2.q p3
  have hp := Q.trans (Q.trans p1 p2) p3
  rw [← hw4] at c1 c2 c3 hp
  have b2 := b2.q hp
  have b3 := b3.q hp
  have hqw : Q w w' := Q.trans hq hp
  have hz4 : w'.heap.size = w.heap.size + 6 := by have := HZ3.out; rw [hw4]; simp; omega
  try rw [← hw4]
  clear hw4 p1 p2 p3 hp b1 hLk hq HX
  refine (wpIn_wide (n := 6)).1 ?_
  refine wpIn_rangeFunc_ownH rfl (by decide) (gf := 101) (lb := #[.pointer (some ⟨w3.heap.size, 0, none⟩), .pointer (some ⟨w3.heap.size + 1, 0, none⟩), .pointer (some ⟨w3.heap.size + 1 + 1, 0, none⟩)]) rfl trivial (enters_of Tryz.func101 (by kernel_rfl) rfl)
    (iter_stops 5 (by decide) _ _ _ w.heap.size k actor gen hlen hs w' (hT.q hqw) (hK.q hqw) c1 c2 c3) KpB.trans (fun W l o o' hl h hc hw => KpB.putObj (w := w') (by omega) W l o o' hl h hc hw) (Below.refl _ _) (fun _ => rfl)
    (fun pre W => VInv w' W w.heap.size (w.heap.size + 1 + 1) (w.heap.size + 1) claim pre)
    (fun _ _ _ => False)
    (fun s A B row hs hg hr => hs.grown (by omega) hg (fun r e => ⟨by have := (hr r e).1; omega, (hr r e).2⟩))
    (fun _ _ _ _ _ hs _ _ => hs)
    ⟨⟨none, 0, b3, Owns.nil_ _ _ _ _⟩, b2, Below.refl _ _⟩
    (fun x a' W => ∃ Bx, w'.heap.size ≤ Bx ∧ Blk W Bx 46 x.cells.toArray ∧ a' = { tmps := #[.agg (knA k), .string claim, .string actor, .int .i64 gen, .pointer (some ⟨w.heap.size, 0, none⟩), .pointer (some ⟨w.heap.size + 1, 0, none⟩), undef, undef, .slice none 0 0, .pointer (some ⟨w.heap.size + 1 + 1, 0, none⟩), .pointer (some ⟨Bx, 0, none⟩), .agg (knA k), .string actor, .int .i64 gen, .func (.func 101) #[] #[.pointer (some ⟨w3.heap.size, 0, none⟩), .pointer (some ⟨w3.heap.size + 1, 0, none⟩), .pointer (some ⟨w3.heap.size + 1 + 1, 0, none⟩)], .agg (ballotA x), undef, undef, undef, undef, undef, undef, undef, undef, undef, undef, undef, undef, undef], defers := [] })
    (fun x a' _ A B row hs hg hr => by
      obtain ⟨Bx, h1, h2, h3⟩ := hs
      refine ⟨Bx, h1, ?_, h3⟩
      refine (hg.block Bx (Array.getElem?_eq_some_iff.1 h2).1 ?_).trans h2
      intro e
      obtain ⟨o, ho, hc⟩ := (hr Bx e.symm).2
      rw [show A.heap[Bx]? = _ from h2] at ho
      cases ho
      cases hc) ?assign ?body ?done ?stop
  case assign =>
    rintro l pre x W K hi hK
    have hsz : w'.heap.size ≤ W.heap.size := hi.q.size
    refine region_plain_in (by rintro ⟨a, w, h⟩; exact h) (by kernel_rfl) ?_
    go_wp2_with (refine wpList_store_blk (Blk.new W 46 ballot0.cells.toArray) rfl 46 (.tmp 10) (.tmp 15) x.cells rfl rfl rfl (by kernel_rfl) (ballot_all _) (Nat.le_refl 7) ?_)
    intro W2 hW hbel
    rw [splice_all _ _ (by rfl)] at hW
    have hqz : Q W W2 := hbel _ _ (Nat.le_refl _) (q_new _ _ _)
    go_wp2_with fail
    exact hK _ _ ((KeepsOthers.of_grownBy (grown_q hqz) (fun j o e _ => by cases e)).from _) ⟨hqz.mono (by omega), KeepT.of_q hqz⟩ (hi.of_q (by omega) hqz) ⟨W.heap.size, hsz, hW, rfl⟩
  case body =>
    rintro l pre x a' W hl ⟨r, hr⟩ hI ⟨Bx, hBx, bX, rfl⟩ hlt
    have hx0 : W.cell? ⟨Bx, 0, none⟩ = some (.int .i64 x.server) := bX.cell 0
    have hx3 : W.cell? ⟨Bx, 3, none⟩ = some (.string x.claim) := bX.cell 3
    have hcl := hI.cl.cell
    have hbe := beq_str x.claim claim
    obtain ⟨A, c, h1, h2⟩ := hI.box
    have HV := Lib.hid (voterL_snoc claim pre x)
    have hlv := voterL_le claim pre
    have hsz : w'.heap.size ≤ W.heap.size := hI.q.size
    clear b1 b2 b3 c1 c2 c3 hT hK hs hr
    refine wpIn_block ?_
    refine wpIn_seq ?_
    refine region_plain_in (by rintro ⟨a, w, h⟩; exact h) (by kernel_rfl) ?_
    by_cases he : x.claim = claim
    · rw [decide_eq_true he] at hbe
      have HE := Lib.hid he
      clear he
      go_wp2_with fail
      refine wpIn_cond_true rfl ?_
      refine region_plain_in (by rintro ⟨a, w, h⟩; exact h) (by kernel_rfl) ?_
      have hc1 := h1.cell
      clear hcl hbe hx3
      go_wp2_with (at_builtin; refine wpList_append_rows (f := intC) (k := 1) (fun _ => rfl) intC_one rfl (.tmp 20) (.tmp 23) 28 3 i0 _ 8 rfl Tryz.underlying28 hi hi0 hi1 hi2 rfl (by decide) (by decide) w.heap.size (.slice A (voterL claim pre).length c) (voterL claim pre).length (voterL claim pre) rfl (h2.alloc (.cells #[.int .i64 x.server] 3)) (some ⟨W.heap.size, 0, none⟩) 1 1 [x.server] rfl (RowsAt.one W 3 x.server _ rfl) rfl (by omega) (by simp; omega) ?_)
      intro A5 c5 w5 hc5 hm5 hown5 hg5
      have eL : (voterL claim pre).length + 1 = (voterL claim (pre ++ [x])).length := by rw [HV.out, if_pos (decide_eq_true HE.out), List.length_append]; rfl
      have eF : (voterL claim pre).flatMap intC ++ intC x.server = (voterL claim (pre ++ [x])).flatMap intC := by rw [HV.out, if_pos (decide_eq_true HE.out), List.flatMap_append]; rfl
      rw [eL, eF] at hown5
      rw [eL]
      have hst := voter_step (x := x) (by omega) (by omega) (by omega) hI h1 h2 (q_new W _ _) hg5 hown5
      have hcb := hst.1.cell
      have hfb := hst.1.frozen
      have HST := Lib.hid hst.2
      clear hst hg5 hown5 eL eF hc1 hx0 h1 h2 hlv HV hI bX
      go_wp2_with fail
      exact ⟨HST.out.1.from _, HST.out.2.1, HST.out.2.2⟩
    · rw [decide_eq_false he] at hbe
      have HN := Lib.hid (show voterL claim (pre ++ [x]) = voterL claim pre by rw [HV.out, decide_eq_false he]; simp)
      clear he
      go_wp2_with fail
      refine wpIn_cond_false rfl ?_
      refine wpIn_skip ?_
      exact ⟨(KeepsOthers.refl _).from _, ⟨Below.refl _ _, KeepT.refl _ _⟩, ⟨A, c, by rw [HN.out]; exact h1, by rw [HN.out]; exact h2⟩, hI.cl, hI.q⟩
  case done =>
    rintro D xs W hD rfl hI hK
    obtain ⟨A, c, h1, h2⟩ := hI.box
    have hc1 := h1.cell
    have hlv := voterL_le claim (ballotsS actor gen k.l)
    rename_i KK hKK d1 d2
    dsimp only [Exit.inBlock, Exit.then]
    refine hKK _ _ ?_
    have HVK : Hid (votersK claim (ballotsS actor gen k.l) = sortU (voterL claim (ballotsS actor gen k.l))) := Lib.hid rfl
    generalize votersK claim (ballotsS actor gen k.l) = VK at *
    generalize voterL claim (ballotsS actor gen k.l) = zs at *
    have hqW : Q w W := Below.trans hqw hI.q
    have hcm : c ≤ maxLen := by
      obtain ⟨A', c', e, _, h⟩ := h2.shape
      injection e with _ _ e
      rw [e]
      exact h
    have hDlt := (Array.getElem?_eq_some_iff.1 hK).1
    clear hI d1 d2 b1 b2 b3 c1 c2 c3 hT hs hKK HZ3
    rcases Nat.eq_zero_or_pos zs.length with h0 | h0
    · have hz : zs = [] := List.length_eq_zero_iff.1 h0
      subst hz
      have hVK : VK = [] := by rw [HVK.out, sortU_nil]
      subst hVK
      go_wp2_with (first | (go_at_call 51; refine (Tryz.slices_Sort_int_none A c _).mono ?_; rintro e w5 ⟨rfl, rfl⟩) | (go_at_call 52; refine (Tryz.slices_Compact_int_empty A c _).mono ?_; rintro e w5 ⟨rfl, rfl⟩))
      refine ⟨by simp, .inl ⟨_, _, rfl, run_takeDeferred hK, ?_⟩⟩
      exact ⟨_, results_tmp rfl _ _ _, A, c, rfl, Nat.zero_le _, hcm, fun h => absurd h (by simp), Below.trans hqW ((Below.refl w.heap.size _).grown (grownBy_putObj' _ D _) (by omega) (fun k e => by cases e; omega))⟩
    · obtain ⟨g, cap, hv, hbg, hgl, hcap, hmx, cur, fz, hgg⟩ := owns_zero h2 h0
      injection hv with hv1 _ hv2
      subst hv1
      subst hv2
      have hS := sortI_any g c zs W (owns_holds h2 rfl) hgl (by omega)
      have hml := mergeSort_len zs
      have hcl := compact_len (zs.mergeSort fun x y => decide (x ≤ y))
      rw [hml] at hcl
      have hC := fun (w5 : World) (hH : Go.Sort.Holds intE w5 g 0 (zs.mergeSort fun x y => decide (x ≤ y)).toArray) => compactI_any g c (zs.mergeSort fun x y => decide (x ≤ y)) w5 hH (by omega) (by omega)
      rw [hml] at hC
      have HV2 : Hid (VK = Lib.compact (zs.mergeSort fun x y => decide (x ≤ y))) := Lib.hid HVK.out
      rw [← HV2.out] at hC hcl
      generalize (zs.mergeSort fun x y => decide (x ≤ y)) = ms at *
      generalize zs.length = m at *
      have hneD : some D ≠ some g := fun e => by
        injection e with e
        subst e
        rw [hK] at hgg
        cases hgg
      have hneB : some (w.heap.size + 1 + 1) ≠ some g := fun e => by
        injection e with e
        rw [← e, show W.heap[w.heap.size + 1 + 1]? = _ from h1] at hgg
        injection hgg with hgg
        injection hgg with _ hgg
        exact absurd hgg (by decide)
      have hBlt := h1.lt
      have HH1 := Lib.hid h1
      have HHK := Lib.hid hK
      clear h2 HVK HV2 hml h1 hK
      go_wp2_with (first | (go_at_call 51; refine hS.mono ?_; rintro e w5 ⟨rfl, hH5, hg5⟩; have hc5 := Boxed.cell ((hg5.block _ hBlt hneB).trans HH1.out); have HHK5 := Lib.hid ((hg5.block D hDlt hneD).trans HHK.out); have hq5 := Below.grown (Below.refl w.heap.size W) hg5 (by omega) (fun k e => by cases e; omega); have hz5 := hg5.size; clear hc1) | (go_at_call 52; refine (hC w5 hH5).mono ?_; rintro e w6 ⟨rfl, hH6, hg6⟩))
      have hK6 := (hg6.block D (by omega) hneD).trans HHK5.out
      have hq6 := Below.grown hq5 hg6 (by omega) (fun k e => by cases e; omega)
      have hz6 := hg6.size
      refine ⟨by simp, .inl ⟨_, _, rfl, run_takeDeferred hK6, ?_⟩⟩
      refine ⟨_, results_tmp rfl _ _ _, some ⟨g, 0, none⟩, c, rfl, by omega, hcm, ints_far (holds_ints hH6 (by omega)) ?_ (World.putObj_heap_other (fun e => hneD (by rw [e]))), Below.trans (Below.trans hqW hq6) ((Below.refl w.heap.size _).grown (grownBy_putObj' _ D _) (by omega) (fun k e => by cases e; omega))⟩
      have := (grownBy_putObj' w6 D (.deferred none)).size
      omega
  case stop =>
    rintro D c pre W _ _ h _
    exact h.elim
end Go.Proofs.YtflgkplneekpfaaGreatDoor.Vot

namespace Go.Proofs.YtflgkplneekpfaaGreatDoor.Vot
open Go.RowKit Grp Mem _root_.Go.Proofs.YtflgkplneekpfaaGreatDoor.Code Sha Sign _root_.Go.Proofs.YtflgkplneekpfaaGreatDoor.Item _root_.Go.Proofs.YtflgkplneekpfaaGreatDoor.Known Rng

attribute [local go_sem] Oper.semAt_some

set_option maxHeartbeats 1000000 in
theorem quorum_any (n : Int) (w : World) (hn : n ≤ 1000000) : Calls Tryz.prog 11 #[.int .i64 n] w fun e w' => e = .returned (.int .i64 (quorumK n)) ∧ Q w w' := by
  by_cases h0 : n ≤ 0
  · have HR := Lib.hid (show quorumK n = 1 by unfold quorumK; rw [if_pos h0])
    go_enter Tryz.func11, Tryz.ntmps11
    go_wp2_with fail
    go_ret
    exact ⟨by rw [HR.out]; rfl, Q.refl _⟩
  · have hR : quorumK n = n / 3 * 2 + n % 3 * 2 / 3 + 1 := by unfold quorumK; rw [if_neg h0]
    have h1 : n.tdiv 3 = n / 3 := Int.tdiv_eq_ediv_of_nonneg (by omega)
    have h2 : n.tmod 3 = n % 3 := Int.tmod_eq_emod_of_nonneg (by omega)
    have h3 : (n % 3 * 2).tdiv 3 = n % 3 * 2 / 3 := Int.tdiv_eq_ediv_of_nonneg (by omega)
    have HR := Lib.hid hR
    have hb1 : 0 ≤ n / 3 ∧ n / 3 ≤ 1000000 := by omega
    have hb2 : 0 ≤ n % 3 ∧ n % 3 < 3 := by omega
    have hb3 : 0 ≤ n % 3 * 2 / 3 ∧ n % 3 * 2 / 3 ≤ 1 := by omega
    clear hR
    generalize n / 3 = d at *
    generalize hm : n % 3 = m at *
    generalize m * 2 / 3 = e at *
    clear hm
    go_enter Tryz.func11, Tryz.ntmps11
    go_wp2_with fail
    go_ret
    exact ⟨by rw [HR.out]; go_num, Q.refl _⟩

/-! ### What holds between two rounds of Own -/
structure OInv (w0 W : World) (n0 bs bl bo : Nat) (server : Int) (acc : ByteArray × Bool) : Prop where
  s : Boxed W bs 3 (.int .i64 server)
  l : Boxed W bl 9 (.string acc.1)
  o : Boxed W bo 4 (.bool acc.2)
  q : Below n0 w0 W
theorem OInv.grown {w0 W W' : World} {n0 bs bl bo : Nat} {server : Int} {acc : ByteArray × Bool} {row : Option Nat} (h : OInv w0 W n0 bs bl bo server acc) (hn : n0 ≤ w0.heap.size) (hg : W.grownBy W' row) (hr : ∀ r, row = some r → n0 ≤ r ∧ ∃ o : Obj, W.heap[r]? = some o ∧ o.isCells = false) : OInv w0 W' n0 bs bl bo server acc := by
  have hr2 := fun r e => (hr r e).2
  exact ⟨boxed_grown h.s hg hr2, boxed_grown h.l hg hr2, boxed_grown h.o hg hr2, h.q.grown hg (Nat.le_trans hn h.q.size) (fun k e => (hr k e).1)⟩
theorem OInv.of_q {w0 W W' : World} {n0 bs bl bo : Nat} {server : Int} {acc : ByteArray × Bool} (h : OInv w0 W n0 bs bl bo server acc) (hn : n0 ≤ w0.heap.size) (hq : Q W W') : OInv w0 W' n0 bs bl bo server acc := h.grown hn (grown_q hq) (fun r e => by cases e)
theorem OInv.step {w0 W : World} {n0 bs bl bo : Nat} {server : Int} {acc : ByteArray × Bool} (h : OInv w0 W n0 bs bl bo server acc) (d : ByteArray) (h1 : n0 ≤ bl) (h2 : n0 ≤ bo) (h3 : bs ≠ bl) (h4 : bs ≠ bo) (h5 : bl ≠ bo) :
    KeepsOthers W ((W.setCell ⟨bl, 0, none⟩ (.string d)).setCell ⟨bo, 0, none⟩ (.bool true)) ∧ KpB n0 46 W ((W.setCell ⟨bl, 0, none⟩ (.string d)).setCell ⟨bo, 0, none⟩ (.bool true)) ∧
    OInv w0 ((W.setCell ⟨bl, 0, none⟩ (.string d)).setCell ⟨bo, 0, none⟩ (.bool true)) n0 bs bl bo server (d, true) := by
  have ho1 : Boxed (W.setCell ⟨bl, 0, none⟩ (.string d)) bo 4 (.bool acc.2) := h.o.other (Ne.symm h5) _
  have hB := ((Below.refl n0 W).setCell (p := ⟨bl, 0, none⟩) h1 (.string d)).setCell (p := ⟨bo, 0, none⟩) h2 (.bool true)
  refine ⟨(KeepsOthers.setCell _ _ _).trans (KeepsOthers.setCell _ _ _), ⟨hB, (KeepT.setCell W ⟨bl, 0, none⟩ (.string d) _ _ h.l (by decide)).trans (KeepT.setCell _ ⟨bo, 0, none⟩ (.bool true) _ _ ho1 (by decide))⟩, (h.s.other h3 _).other h4 _, (h.l.set _).other h5 _, ho1.set _, h.q.trans hB⟩

set_option maxRecDepth 100000 in
set_option maxHeartbeats 4000000 in
theorem own_any (k : KR) (server : Int) (actor : ByteArray) (gen : Int) (w : World) (hT : Tab w) (hK : KIn w k) (hlen : k.l.length ≤ 1000) (hs : SortedF (takeB actor gen k.l)) :
    Calls Tryz.prog 31 #[.agg (knA k), .int .i64 server, .string actor, .int .i64 gen] w fun e w' => e = .returned (.tuple #[.string (ownK server (ballotsS actor gen k.l)).1, .bool (ownK server (ballotsS actor gen k.l)).2]) ∧ Q w w' := by
  have b1 := Blk.new w 31 (knA k)
  have q1 := q_new w (knA k) 31
  have b2 := Blk.new' (g := w.heap.size + 1) (w.alloc (.cells (knA k) 31)) 3 #[.int .i64 server] (by simp)
  have q2 := q_new (w.alloc (.cells (knA k) 31)) #[.int .i64 server] 3
  have b3 := Blk.new' (g := w.heap.size + 1 + 1) ((w.alloc (.cells (knA k) 31)).alloc (.cells #[.int .i64 server] 3)) 9 #[.string ⟨#[]⟩] (by simp)
  have q3 := q_new ((w.alloc (.cells (knA k) 31)).alloc (.cells #[.int .i64 server] 3)) #[.string ⟨#[]⟩] 9
  have b4 := Blk.new' (g := w.heap.size + 1 + 1 + 1) (((w.alloc (.cells (knA k) 31)).alloc (.cells #[.int .i64 server] 3)).alloc (.cells #[.string ⟨#[]⟩] 9)) 4 #[.bool false] (by simp)
  have q4 := q_new (((w.alloc (.cells (knA k) 31)).alloc (.cells #[.int .i64 server] 3)).alloc (.cells #[.string ⟨#[]⟩] 9)) #[.bool false] 4
  have b1 := ((b1.q q2).q q3).q q4
  have b2 := (b2.q q3).q q4
  have b3 := b3.q q4
  have hq := Q.trans (Q.trans (Q.trans q1 q2) q3) q4
  obtain ⟨w3, hw3⟩ : ∃ w3, w3 = (((w.alloc (.cells (knA k) 31)).alloc (.cells #[.int .i64 server] 3)).alloc (.cells #[.string ⟨#[]⟩] 9)).alloc (.cells #[.bool false] 4) := ⟨_, rfl⟩
  rw [← hw3] at b1 b2 b3 b4 hq
  have hLk := Wd.load (P := Tryz.prog) (ty := 31) b1.lt (Blk.range b1) Tryz.underlying31 rfl (by kernel_rfl) ⟨w3, Q.refl w3⟩
  have HZ3 := Lib.hid (show w3.heap.size = w.heap.size + 4 by rw [hw3]; simp)
  have HX := Lib.hid hw3
  clear q1 q2 q3 q4 hw3
  refine (callsIn_wide (n := 6)).1 ?_
  refine callsIn_of_wp_marks Tryz.func31 rfl trivial ?_ rfl
  simp only [Tryz.ntmps31, List.size_toArray, List.length_cons, List.length_nil, Nat.reduceAdd, Nat.reduceSub, Array.replicate_succ, Array.replicate_zero, List.push_toArray, List.append_toArray, List.nil_append, List.cons_append]
  refine wpIn_wide.2 ?_
  go_upto_region 2 with (fail)
  refine (show Code.wp _ _ _ _ w3 → Code.wp _ _ _ _ _ from fun h => by rw [HX.out] at h; exact h) ?_
  go_wp2_with (first | (refine wpList_load_run 31 (.tmp 4) (.pointer (some ⟨w.heap.size, 0, none⟩)) (.agg (knA k)) ?_ ?_ ?_ ?_ ?_; rfl; rfl; rfl; exact hLk) | (go_at_call 50; refine (ballotsF_any k actor gen _).mono ?_; rintro e w' ⟨rfl, hw4⟩))
  have c1 := Blk.new w3 31 (knA k)
  have p1 := q_new w3 (knA k) 31
  have c2 := Blk.new' (g := w3.heap.size + 1) (w3.alloc (.cells (knA k) 31)) 9 #[.string actor] (by simp)
  have p2 := q_new (w3.alloc (.cells (knA k) 31)) #[.string actor] 9
  have c3 := Blk.new' (g := w3.heap.size + 1 + 1) ((w3.alloc (.cells (knA k) 31)).alloc (.cells #[.string actor] 9)) 3 #[.int .i64 gen] (by simp)
  have p3 := q_new ((w3.alloc (.cells (knA k) 31)).alloc (.cells #[.string actor] 9)) #[.int .i64 gen] 3
  have c1 := (c1.q p2).q p3
  have c2 := c2.q p3
  have hp := Q.trans (Q.trans p1 p2) p3
  rw [← hw4] at c1 c2 c3 hp
  have b2 := b2.q hp
  have b3 := b3.q hp
  have b4 := b4.q hp
  have hqw : Q w w' := Q.trans hq hp
  have hz4 : w'.heap.size = w.heap.size + 7 := by have := HZ3.out; rw [hw4]; simp; omega
  try rw [← hw4]
  clear hw4 p1 p2 p3 hp b1 hLk hq HX
  rename_i KK hKK d1 d2
  refine (wpIn_wide (n := 6)).1 ?_
  refine wpIn_rangeFunc_ownH rfl (by decide) (gf := 101) (lb := #[.pointer (some ⟨w3.heap.size, 0, none⟩), .pointer (some ⟨w3.heap.size + 1, 0, none⟩), .pointer (some ⟨w3.heap.size + 1 + 1, 0, none⟩)]) rfl trivial (enters_of Tryz.func101 (by kernel_rfl) rfl)
    (iter_stops 5 (by decide) _ _ _ w.heap.size k actor gen hlen hs w' (hT.q hqw) (hK.q hqw) c1 c2 c3) KpB.trans (fun W l o o' hl h hc hw => KpB.putObj (w := w') (by omega) W l o o' hl h hc hw) (Below.refl _ _) (fun _ => rfl)
    (fun pre W => OInv w' W w.heap.size (w.heap.size + 1) (w.heap.size + 1 + 1) (w.heap.size + 1 + 1 + 1) server (ownK server pre))
    (fun _ _ _ => False)
    (fun s A B row hs hg hr => hs.grown (by omega) hg (fun r e => ⟨by have := (hr r e).1; omega, (hr r e).2⟩))
    (fun _ _ _ _ _ hs _ _ => hs)
    ⟨b2, b3, b4, Below.refl _ _⟩
    (fun x a' W => ∃ Bx, w'.heap.size ≤ Bx ∧ Blk W Bx 46 x.cells.toArray ∧ a' = { tmps := #[.agg (knA k), .int .i64 server, .string actor, .int .i64 gen, .pointer (some ⟨w.heap.size, 0, none⟩), .pointer (some ⟨w.heap.size + 1, 0, none⟩), undef, undef, .string ⟨#[]⟩, .bool false, .pointer (some ⟨w.heap.size + 1 + 1, 0, none⟩), .pointer (some ⟨w.heap.size + 1 + 1 + 1, 0, none⟩), .pointer (some ⟨Bx, 0, none⟩), .agg (knA k), .string actor, .int .i64 gen, .func (.func 101) #[] #[.pointer (some ⟨w3.heap.size, 0, none⟩), .pointer (some ⟨w3.heap.size + 1, 0, none⟩), .pointer (some ⟨w3.heap.size + 1 + 1, 0, none⟩)], .agg (ballotA x), undef, undef, undef, undef, undef, undef, undef, undef, undef, undef, undef, undef, undef, undef, undef, undef, undef, undef], defers := [] })
    (fun x a' _ A B row hs hg hr => by
      obtain ⟨Bx, h1, h2, h3⟩ := hs
      refine ⟨Bx, h1, ?_, h3⟩
      refine (hg.block Bx (Array.getElem?_eq_some_iff.1 h2).1 ?_).trans h2
      intro e
      obtain ⟨o, ho, hc⟩ := (hr Bx e.symm).2
      rw [show A.heap[Bx]? = _ from h2] at ho
      cases ho
      cases hc) ?assign ?body ?done ?stop
  case assign =>
    rintro l pre x W K hi hK
    have hsz : w'.heap.size ≤ W.heap.size := hi.q.size
    refine region_plain_in (by rintro ⟨a, w, h⟩; exact h) (by kernel_rfl) ?_
    go_wp2_with (refine wpList_store_blk (Blk.new W 46 ballot0.cells.toArray) rfl 46 (.tmp 12) (.tmp 17) x.cells rfl rfl rfl (by kernel_rfl) (ballot_all _) (Nat.le_refl 7) ?_)
    intro W2 hW hbel
    rw [splice_all _ _ (by rfl)] at hW
    have hqz : Q W W2 := hbel _ _ (Nat.le_refl _) (q_new _ _ _)
    go_wp2_with fail
    exact hK _ _ ((KeepsOthers.of_grownBy (grown_q hqz) (fun j o e _ => by cases e)).from _) ⟨hqz.mono (by omega), KeepT.of_q hqz⟩ (hi.of_q (by omega) hqz) ⟨W.heap.size, hsz, hW, rfl⟩
  case body =>
    rintro l pre x a' W hl ⟨r, hr⟩ hI ⟨Bx, hBx, bX, rfl⟩ hlt
    have hx0 : W.cell? ⟨Bx, 0, none⟩ = some (.int .i64 x.server) := bX.cell 0
    have hx3 : W.cell? ⟨Bx, 3, none⟩ = some (.string x.claim) := bX.cell 3
    have hcs := hI.s.cell
    have hco := hI.o.cell
    have hcl := hI.l.cell
    have HV := Lib.hid (ownK_snoc server pre x)
    have hst := hI.step x.claim (by omega) (by omega) (by omega) (by omega) (by omega)
    have HST := Lib.hid hst
    have HI := Lib.hid hI
    clear b2 b3 b4 c1 c2 c3 hT hK hs hr hst hKK
    refine wpIn_block ?_
    refine wpIn_seq ?_
    refine region_plain_in (by rintro ⟨a, w, h⟩; exact h) (by kernel_rfl) ?_
    have hfl := hI.l.frozen
    have ho1 : Boxed (W.setCell ⟨w.heap.size + 1 + 1, 0, none⟩ (.string x.claim)) (w.heap.size + 1 + 1 + 1) 4 (.bool (ownK server pre).2) := hI.o.other (by omega) _
    have hco1 := ho1.cell
    have hfo1 := ho1.frozen
    clear ho1 hI
    generalize ownK server pre = acc at *
    obtain ⟨d, ok⟩ := acc
    dsimp only at hco hcl hco1
    have hless : Op.bytesLess x.claim.toList d.toList = lessB x.claim d := rfl
    by_cases he : x.server = server
    · cases ok
      · have HE := Lib.hid (show ownK server (pre ++ [x]) = (x.claim, true) by rw [HV.out]; unfold ownStep; rw [decide_eq_true he]; rfl)
        clear hless
        go_wp2_with fail
        refine wpIn_cond_true rfl ?_
        refine region_plain_in (by rintro ⟨a, w, h⟩; exact h) (by kernel_rfl) ?_
        go_wp2_with fail
        exact ⟨HST.out.1.from _, HST.out.2.1, by dsimp only; rw [HE.out]; exact HST.out.2.2⟩
      · cases hlb : lessB x.claim d
        · rw [hlb] at hless
          have HE := Lib.hid (show ownK server (pre ++ [x]) = (d, true) by rw [HV.out]; unfold ownStep; rw [decide_eq_true he, hlb]; rfl)
          clear hfl hco1 hfo1 hlb
          go_wp2_with fail
          refine wpIn_cond_false rfl ?_
          refine wpIn_skip ?_
          exact ⟨(KeepsOthers.refl _).from _, ⟨Below.refl _ _, KeepT.refl _ _⟩, by dsimp only; rw [HE.out]; exact HI.out⟩
        · rw [hlb] at hless
          have HE := Lib.hid (show ownK server (pre ++ [x]) = (x.claim, true) by rw [HV.out]; unfold ownStep; rw [decide_eq_true he, hlb]; rfl)
          clear hlb
          go_wp2_with fail
          refine wpIn_cond_true rfl ?_
          refine region_plain_in (by rintro ⟨a, w, h⟩; exact h) (by kernel_rfl) ?_
          go_wp2_with fail
          exact ⟨HST.out.1.from _, HST.out.2.1, by dsimp only; rw [HE.out]; exact HST.out.2.2⟩
    · have HE := Lib.hid (show ownK server (pre ++ [x]) = (d, ok) by rw [HV.out]; unfold ownStep; rw [decide_eq_false he]; rfl)
      clear hless hx3 hco hcl
      go_wp2_with fail
      refine wpIn_cond_false rfl ?_
      refine wpIn_skip ?_
      exact ⟨(KeepsOthers.refl _).from _, ⟨Below.refl _ _, KeepT.refl _ _⟩, by dsimp only; rw [HE.out]; exact HI.out⟩
  case done =>
    rintro D xs W hD rfl hI hK
    dsimp only [Exit.inBlock, Exit.then]
    refine hKK _ _ ?_
    have hcl := hI.l.cell
    have hco := hI.o.cell
    have hqW : Q w W := Below.trans hqw hI.q
    obtain ⟨acc, hacc⟩ : ∃ acc, ownK server (ballotsS actor gen k.l) = acc := ⟨_, rfl⟩
    have HA := Lib.hid hacc
    rw [hacc] at hcl hco
    clear hacc
    obtain ⟨d, ok⟩ := acc
    dsimp only at hcl hco
    have hDlt := (Array.getElem?_eq_some_iff.1 hK).1
    clear hI d1 d2 b2 b3 b4 c1 c2 c3 hT hs hKK HZ3
    go_upto_region 6 with (fail)
    go_quiet (fail)
    go_wp2_with fail
    refine ⟨by simp, .inl ⟨_, _, rfl, run_takeDeferred (show (W.drewN nq).heap[D]? = _ from hK), ?_⟩⟩
    exact ⟨_, results_tmp2 rfl _ _ _, by rw [HA.out]; rfl, Below.trans (Q.drewN hqW nq) ((Below.refl w.heap.size _).grown (grownBy_putObj' _ D _) (show w.heap.size ≤ W.heap.size by omega) (fun k e => by cases e; omega))⟩
  case stop =>
    rintro D c pre W _ _ h _
    exact h.elim
end Go.Proofs.YtflgkplneekpfaaGreatDoor.Vot

namespace Go.Proofs.YtflgkplneekpfaaGreatDoor.Vot
open Go.RowKit Grp Mem _root_.Go.Proofs.YtflgkplneekpfaaGreatDoor.Code Sha Sign _root_.Go.Proofs.YtflgkplneekpfaaGreatDoor.Item _root_.Go.Proofs.YtflgkplneekpfaaGreatDoor.Known Rng

/-- Does a claim win, with these ballots? -/
def winsB (q : Int) (bs : List BallotV) (gen : Int) (c : ClaimV) : Bool := decide (c.gen = gen) && decide (q ≤ ((votersK (digOf (itClaim c)) bs).length : Int))
def wonO (q : Int) (bs : List BallotV) (gen : Int) (cs : List ClaimV) : Option ClaimV := cs.find? (winsB q bs gen)
def wonR : Option ClaimV → ClaimV × Bool
  | some c => (c, true)
  | none => (claim0, false)
theorem won_at (q : Int) (bs : List BallotV) (gen : Int) (cs : List ClaimV) (j : Nat) (h : j < cs.length) (hno : wonO q bs gen (cs.take j) = none) (hw : winsB q bs gen cs[j] = true) : wonO q bs gen cs = some cs[j] := by
  unfold wonO at hno ⊢
  conv => lhs; rw [← List.take_append_drop j cs]
  rw [List.find?_append, hno, List.drop_eq_getElem_cons h, List.find?_cons_of_pos hw]
  rfl
theorem won_step (q : Int) (bs : List BallotV) (gen : Int) (cs : List ClaimV) (j : Nat) (h : j < cs.length) (hno : wonO q bs gen (cs.take j) = none) (hw : winsB q bs gen cs[j] = false) : wonO q bs gen (cs.take (j + 1)) = none := by
  unfold wonO at hno ⊢
  rw [List.take_succ_eq_append_getElem h, List.find?_append, hno, List.find?_cons_of_neg (by simp [hw])]
  rfl

theorem build_claim0 (w : World) : (Instr.build 37 #[]).run Tryz.prog w = .ok (.agg (claimA claim0)) w := by kernel_rfl
set_option maxRecDepth 100000 in
set_option maxHeartbeats 4000000 in
theorem won_any (k : KR) (actor : ByteArray) (gen : Int) (w : World) (hT : Tab w) (hK : KIn w k) (hlen : k.l.length ≤ 1000) (hsv : k.sv.length ≤ 1000000) (hs : SortedF (takeB actor gen k.l)) (hs2 : SortedF (takeCl actor k.l)) :
    Calls Tryz.prog 16 #[.agg (knA k), .string actor, .int .i64 gen] w fun e w' => e = .returned (.tuple #[.agg (claimA (wonR (wonO (quorumK k.sv.length) (ballotsS actor gen k.l) gen (claimsS actor k.l))).1), .bool (wonR (wonO (quorumK k.sv.length) (ballotsS actor gen k.l) gen (claimsS actor k.l))).2]) ∧ Q w w' := by
  have h1 := Blk.new w 31 (knA k)
  have q1 := q_new w (knA k) 31
  have h2 := Blk.new' (g := w.heap.size + 1) (w.alloc (.cells (knA k) 31)) 37 (claimA claim0) (by simp)
  have q2 := q_new (w.alloc (.cells (knA k) 31)) (claimA claim0) 37
  obtain ⟨w3, hw3⟩ : ∃ w3, w3 = ((w.alloc (.cells (knA k) 31)).alloc (.cells (claimA claim0) 37)) := ⟨_, rfl⟩
  have h1 := h1.q q2
  have hq := Q.trans q1 q2
  rw [← hw3] at h1 h2 hq
  have cS : ∀ y : Wd w3, y.w.cell? ⟨w.heap.size, 0, none⟩ = some (.slice k.sA k.sv.length k.sC) := fun y => (y.blk h1).cell 0
  have hBr : ∀ y : Wd w3, Blk y.w (w.heap.size + 1) 37 claim0.cells.toArray := fun y => y.blk h2
  have hLk : ∀ y : Wd w3, (Instr.loadAt 31 (.pointer (some ⟨w.heap.size, 0, none⟩))).run Tryz.prog y.w = .ok (.agg (knA k)) y.w := Wd.load h1.lt (Blk.range h1) Tryz.underlying31 rfl (by kernel_rfl)
  have hQu : ∀ y : Wd w3, Calls Tryz.prog 11 #[.int .i64 (k.sv.length : Int)] y.w fun e w' => e = .returned (.int .i64 (quorumK k.sv.length)) ∧ Q y.w w' := fun y => quorum_any _ y.w (by omega)
  have hCl : ∀ y : Wd w3, Calls Tryz.prog 53 #[.agg (knA k), .string actor] y.w (ListClAre (claimsS actor k.l) y.w) := fun y => claimsS_any k actor y.w (hT.q (Q.trans hq y.q)) (hK.q (Q.trans hq y.q)) hlen hs2
  have hVo : ∀ (claim : ByteArray) (y : Wd w3), Calls Tryz.prog 14 #[.agg (knA k), .string claim, .string actor, .int .i64 gen] y.w (VotersAre (votersK claim (ballotsS actor gen k.l)) y.w) := fun claim y => voters_any k claim actor gen y.w (hT.q (Q.trans hq y.q)) (hK.q (Q.trans hq y.q)) hlen hs
  have hTy : ∀ y : Wd w3, Tab y.w := fun y => hT.q (Q.trans hq y.q)
  have HQ := Lib.hid hq
  obtain ⟨u, hu⟩ : ∃ u : Wd w3, u.w = w3 := ⟨⟨w3, Q.refl _⟩, rfl⟩
  have HX := Lib.hid (hu.trans hw3)
  have hg3 := h2.lt
  have hlb : k.sv.length ≤ 9223372036854775807 := by omega
  have hcl9 : (claimsS actor k.l).length ≤ 1000 := by
    unfold claimsS
    rw [List.length_map]
    have := takeCl_le actor k.l k.l.length
    rw [List.take_length] at this
    omega
  have hvl : ∀ claim, (votersK claim (ballotsS actor gen k.l)).length ≤ 1000 := fun claim => by
    have h := voters_le claim (ballotsS actor gen k.l)
    unfold ballotsS at h ⊢
    rw [List.length_map] at h
    have := takeB_le actor gen k.l k.l.length
    rw [List.take_length] at this
    omega
  clear hu hw3 h1 h2 q1 q2 hq hs hs2
  generalize ballotsS actor gen k.l = BS at *
  generalize claimsS actor k.l = L at *
  generalize quorumK k.sv.length = QU at *
  go_enter Tryz.func16, Tryz.ntmps16
  go_upto_region 1 with (fail)
  refine (show Code.wp _ _ _ _ u.w → Code.wp _ _ _ _ _ from fun h => by rw [HX.out] at h; exact h) ?_
  go_wp2_with (first | (go_at_call 11; refine (hQu _).mono ?_; rintro e w' ⟨rfl, hq2⟩; obtain ⟨u2, rfl⟩ := Wd.next _ hq2; clear hq2) | (refine wpList_load_run 31 (.tmp 3) (.pointer (some ⟨w.heap.size, 0, none⟩)) (.agg (knA k)) ?_ ?_ ?_ ?_ ?_; rfl; rfl; rfl; exact hLk _) | (go_at_call 53; refine (hCl _).mono ?_; rintro e w' ⟨A, c, rfl, hlc, hcm, hR, hq2⟩; obtain ⟨u3, rfl⟩ := Wd.next _ hq2; have hRy : ∀ y : Wd u3.w, RowsAt y.w A 9 ClaimV.cells L := (fun y => hR.q y.q); clear hq2))
  clear hQu hCl hR
  go_loopw [20] (fun i wr => ∃ (j : Nat) (z : Wd w3), i = .int .i64 j ∧ wr = z.w ∧ j ≤ L.length ∧ Q u3.w z.w ∧ Hid (wonO QU BS gen (L.take j) = none)) (fun i _ => L.length - (intOf i).toNat)
  case atStart => exact ⟨0, u3, rfl, rfl, Nat.zero_le _, Q.refl _, Lib.hid rfl⟩
  case round =>
    obtain ⟨j, z, rfl, rfl, hj, hqz0, hno⟩ := hrel
    by_cases hlt : j < L.length
    · obtain ⟨b, o, eA, hb, hcs⟩ := hRy ⟨z.w, hqz0⟩ (by omega)
      have hld : ∀ y : Wd z.w, (Instr.loadAt 37 (.pointer (some ⟨b, o + j * 9, none⟩))).run Tryz.prog y.w = .ok (.agg (claimA L[j])) y.w := Wd.load hb (hcs j hlt) Tryz.underlying37 rfl (by kernel_rfl)
      have HA := Lib.hid (fun h => won_at QU BS gen L j hlt hno.out h)
      have HS := Lib.hid (fun h => won_step QU BS gen L j hlt hno.out h)
      have hzs := z.q.size
      rw [eA]
      clear hcs hno
      generalize L[j] = x at *
      go_wp2_with (first | (refine wpList_load_run 37 (.tmp 22) (.pointer (some ⟨b, o + j * 9, none⟩)) (.agg (claimA x)) ?_ ?_ ?_ ?_ ?_; rfl; rfl; rfl; exact hld ⟨_, Q.refl _⟩) | (refine wpList_store_blk (Blk.new z.w 37 claim0.cells.toArray) rfl 37 (.tmp 10) (.tmp 23) x.cells rfl rfl rfl (by kernel_rfl) (claim_all _) (Nat.le_refl 9) ?_))
      intro W hW hbel
      rw [splice_all _ _ (by rfl)] at hW
      have hqz : Q z.w W := hbel _ _ (Nat.le_refl _) (q_new _ _ _)
      have hq3 : Q w3 W := Q.trans z.q hqz
      have hLi : ∀ y : Wd W, (Instr.loadAt 37 (.pointer (some ⟨z.w.heap.size, 0, none⟩))).run Tryz.prog y.w = .ok (.agg (claimA x)) y.w := Wd.load hW.lt (Blk.range hW) Tryz.underlying37 rfl (by kernel_rfl)
      have hgn : ∀ y : Wd W, y.w.cell? ⟨z.w.heap.size, 3, none⟩ = some (.int .i64 x.gen) := fun y => (y.blk hW).cell 3
      have hBr' : ∀ y : Wd W, Blk y.w (w.heap.size + 1) 37 claim0.cells.toArray := fun y => hBr ⟨y.w, Q.trans hq3 y.q⟩
      have hLk' : ∀ y : Wd W, (Instr.loadAt 31 (.pointer (some ⟨w.heap.size, 0, none⟩))).run Tryz.prog y.w = .ok (.agg (knA k)) y.w := fun y => hLk ⟨y.w, Q.trans hq3 y.q⟩
      have hof : ∀ y : Wd W, Calls Tryz.prog 13 #[.agg (claimA x)] y.w fun e w' => e = .returned (.agg (itA (itClaim x))) ∧ Q y.w w' := fun y => ofClaim_any x y.w
      have hdg : ∀ y : Wd W, Calls Tryz.prog 25 #[.agg (itA (itClaim x))] y.w fun e w' => e = .returned (.string (digOf (itClaim x))) ∧ Q y.w w' := fun y => digest_any (itClaim x) y.w (hTy ⟨y.w, Q.trans hq3 y.q⟩) (itClaim_in x y.w)
      have hvo : ∀ y : Wd W, Calls Tryz.prog 14 #[.agg (knA k), .string (digOf (itClaim x)), .string actor, .int .i64 gen] y.w (VotersAre (votersK (digOf (itClaim x)) BS) y.w) := fun y => hVo _ ⟨y.w, Q.trans hq3 y.q⟩
      have hvl2 := hvl (digOf (itClaim x))
      have HQ3 := Lib.hid hq3
      have HQU := Lib.hid (Q.trans hqz0 hqz)
      have HW : Hid (winsB QU BS gen x = (decide (x.gen = gen) && decide (QU ≤ ((votersK (digOf (itClaim x)) BS).length : Int)))) := Lib.hid rfl
      obtain ⟨v, hv⟩ := Wd.first W
      rw [hv]
      clear hW hbel hld hv hqz hq3 hqz0 hVo hvl hTy hBr hLk cS
      generalize digOf (itClaim x) = d at *
      generalize itClaim x = it at *
      generalize votersK d BS = V at *
      by_cases hg : x.gen = gen
      · by_cases hqu : QU ≤ (V.length : Int)
        · have HF := Lib.hid (HA.out (by rw [HW.out, decide_eq_true hg, decide_eq_true hqu]; rfl))
          go_wp2_with (first | (refine wpList_load_run 37 (.tmp 10) (.pointer (some ⟨z.w.heap.size, 0, none⟩)) (.agg (claimA x)) ?_ ?_ ?_ ?_ ?_; rfl; rfl; rfl; exact hLi _) | (refine wpList_load_run 31 (.tmp 3) (.pointer (some ⟨w.heap.size, 0, none⟩)) (.agg (knA k)) ?_ ?_ ?_ ?_ ?_; rfl; rfl; rfl; exact hLk' _) | (go_at_call 13; refine (hof _).mono ?_; rintro e w' ⟨rfl, hq2⟩; obtain ⟨y, rfl⟩ := Wd.next _ hq2; clear hq2) | (go_at_call 25; refine (hdg _).mono ?_; rintro e w' ⟨rfl, hq2⟩; obtain ⟨y2, rfl⟩ := Wd.next _ hq2; clear hq2) | (go_at_call 14; refine (hvo _).mono ?_; rintro e w' ⟨A2, c2, rfl, hl2, hm2, hI2, hq2⟩; obtain ⟨y3, rfl⟩ := Wd.next _ hq2; clear hq2) | (refine wpList_store_far (hBr' _) rfl 37 (.tmp 6) (.tmp 39) x.cells rfl rfl rfl (by kernel_rfl) (claim_all _) (Nat.le_refl 9) ?_))
          intro W2 hW2 hbel2 hfar2
          rw [splice_all _ _ (by rfl)] at hW2
          have hqW : Q w W2 := hbel2 _ _ (by omega) (Q.trans (Q.trans HQ.out HQ3.out) (Wd.q _))
          clear hbel2 hfar2
          go_wp2_with fail
          exact bodyPost_ret (results_row_tmp rfl _ _ (w.heap.size + 1) 37 (claimA x) (0, 0) _ _ rfl rfl hW2 Tryz.underlying37 rfl (by kernel_rfl)) rfl ⟨by rw [HF.out]; rfl, hqW⟩
        · have HN := Lib.hid (HS.out (by rw [HW.out, decide_eq_true hg, decide_eq_false hqu]; rfl))
          go_wp2_with (first | (refine wpList_load_run 37 (.tmp 10) (.pointer (some ⟨z.w.heap.size, 0, none⟩)) (.agg (claimA x)) ?_ ?_ ?_ ?_ ?_; rfl; rfl; rfl; exact hLi _) | (refine wpList_load_run 31 (.tmp 3) (.pointer (some ⟨w.heap.size, 0, none⟩)) (.agg (knA k)) ?_ ?_ ?_ ?_ ?_; rfl; rfl; rfl; exact hLk' _) | (go_at_call 13; refine (hof _).mono ?_; rintro e w' ⟨rfl, hq2⟩; obtain ⟨y, rfl⟩ := Wd.next _ hq2; clear hq2) | (go_at_call 25; refine (hdg _).mono ?_; rintro e w' ⟨rfl, hq2⟩; obtain ⟨y2, rfl⟩ := Wd.next _ hq2; clear hq2) | (go_at_call 14; refine (hvo _).mono ?_; rintro e w' ⟨A2, c2, rfl, hl2, hm2, hI2, hq2⟩; obtain ⟨y3, rfl⟩ := Wd.next _ hq2; clear hq2))
          exact ⟨⟨j + 1, ⟨y3.w, Q.trans HQ3.out y3.q⟩, by go_num, rfl, by omega, Q.trans HQU.out y3.q, HN⟩, by simp only [intOf]; omega⟩
      · have HN := Lib.hid (HS.out (by rw [HW.out, decide_eq_false hg]; rfl))
        go_wp2_with fail
        exact ⟨⟨j + 1, ⟨v.w, Q.trans HQ3.out v.q⟩, by go_num, rfl, by omega, Q.trans HQU.out v.q, HN⟩, by simp only [intOf]; omega⟩
    · have hjn : j = L.length := by omega
      have hall : L.take j = L := List.take_of_length_le (by omega)
      have HN := Lib.hid (show wonO QU BS gen L = none by rw [← hall]; exact hno.out)
      clear hno hall hVo hvl hTy hLk cS
      go_wp2_with (first | (refine wpList_build_run 37 _ #[] (.agg (claimA claim0)) rfl rfl (by simp) (build_claim0 _) ?_) | (refine wpList_store_far (hBr z) rfl 37 (.tmp 6) (.tmp 41) claim0.cells rfl rfl rfl (by kernel_rfl) (claim_all _) (Nat.le_refl 9) ?_))
      intro W2 hW2 hbel2 hfar2
      rw [splice_all _ _ (by rfl)] at hW2
      have hqW : Q w W2 := hbel2 _ _ (by omega) (Q.trans HQ.out z.q)
      clear hbel2 hfar2
      go_wp2_with fail
      exact bodyPost_ret (results_row_tmp rfl _ _ (w.heap.size + 1) 37 (claimA claim0) (0, 0) _ _ rfl rfl hW2 Tryz.underlying37 rfl (by kernel_rfl)) rfl ⟨by rw [HN.out]; rfl, hqW⟩
end Go.Proofs.YtflgkplneekpfaaGreatDoor.Vot

namespace Go.Proofs.YtflgkplneekpfaaGreatDoor.Item
open Go.RowKit Grp Mem _root_.Go.Proofs.YtflgkplneekpfaaGreatDoor.Code Sha Sign

def BigB (b : BallotV) : Prop := b.actor.size ≤ 140737488351232 ∧ b.claim.size ≤ 1000 ∧ ∀ n ∈ [b.server, b.gen, b.time], n ≤ 9223372036854775807
def BigI (i : ItemR) : Prop := i.kind = 2 ∧ BigB i.ballot
theorem bigB_I {b : BallotV} (h : BigB b) : BigI (itBallot b) := ⟨rfl, h⟩
set_option maxRecDepth 100000 in
set_option maxHeartbeats 4000000 in
theorem bballot_big (B g : Nat) (L : List UInt8) (i : ItemR) (w : World) (hb : Bld B g w L) (hL : L.length ≤ 1000) (h_actor : i.ballot.actor.size ≤ 140737488351232) (h_claim : i.ballot.claim.size ≤ 1000) (hn : ∀ n ∈ [i.ballot.server, i.ballot.gen, i.ballot.time], n ≤ 9223372036854775807) :
    Calls Tryz.prog 131 #[.pointer (some ⟨g, 0, none⟩), .agg (itA i)] w fun e w' => e = .returned (.tuple #[]) ∧ (Bld B g w' (L ++ ballotL i.ballot) ∧ Tk B g w w') := by
  obtain ⟨w1, x, hx, hq1, hl, hr⟩ := boxed w 50 i.cells
  have hx : w.alloc (.cells (itA i) 50) = x.w := hx
  have hAc := item_ballot hl hr
  have hg := hb.stay
  have hbx := Lib.hid ((hb.q hq1).q x.q)
  have hqx := Lib.hid (Q.trans hq1 x.q)
  have hsx : w.heap.size < x.w.heap.size := Nat.lt_of_lt_of_le hl x.q.size
  clear hr hb
  go_enter Tryz.func131, Tryz.ntmps131
  go_wp2_with (first | (refine wpList_load_run 46 (.tmp 5) (.pointer (some ⟨w.heap.size, 30, none⟩)) (.agg (ballotA i.ballot)) ?_ ?_ ?_ ?_ ?_; rfl; rfl; rfl; exact hAc _) | (refine wpList_store_blk (Blk.new x.w 46 ballot0.cells.toArray) rfl 46 (.tmp 4) (.tmp 6) i.ballot.cells rfl rfl rfl (by kernel_rfl) (ballot_all _) (Nat.le_refl 7) ?_))
  intro W hW hbel
  rw [splice_all _ _ (by rfl)] at hW
  have hqW : Q w W := hbel _ _ (by omega) (Below.alloc hqx.out (by omega) _)
  have hbW : Bld B g W L := hbx.out.q (hbel _ _ (Nat.le_refl _) (q_new _ _ _))
  have hst : Stay B g W x.w.heap.size := Stay.blk hW (by omega) (by decide)
  have c0 := Kd.cell (v := .int .i64 i.ballot.server) hW hst 0 rfl
  have c1 := Kd.cell (v := .string i.ballot.actor) hW hst 1 rfl
  have c2 := Kd.cell (v := .int .i64 i.ballot.gen) hW hst 2 rfl
  have c3 := Kd.cell (v := .string i.ballot.claim) hW hst 3 rfl
  have c4 := Kd.cell (v := .int .i64 i.ballot.time) hW hst 4 rfl
  obtain ⟨y, hy⟩ := Kd.first B g W
  have hby : Bld B g y.w L := hy ▸ hbW
  rw [hy]
  have HW := Lib.hid hqW
  have HS := Lib.hid hst
  have HWB := Lib.hid hW
  clear hW hbel hAc hst hx hy hqW hbW
  have t_actor := textL_length i.ballot.actor
  have t_claim := textL_length i.ballot.claim
  have n_server := numL_bd i.ballot.server
  have b_server := hn i.ballot.server (by simp)
  have n_gen := numL_bd i.ballot.gen
  have b_gen := hn i.ballot.gen (by simp)
  have n_time := numL_bd i.ballot.time
  have b_time := hn i.ballot.time (by simp)
  clear hn
  go_wp2_with (go_at_call 77; refine (nums_lit hby [i.ballot.server] _ _ _ rfl rfl rfl (by simp; omega) (by simp only [List.length_append, List.flatMap_cons, List.flatMap_nil, List.length_cons, List.length_nil]; omega)).mono ?_; rintro e w' ⟨rfl, hb1, hk1⟩; obtain ⟨y1, rfl⟩ := Kd.next _ hk1; clear hk1)
  go_wp2_with (go_at_call 187; refine (texts_lit hb1 [i.ballot.actor] _ _ 140737488351232 _ rfl rfl rfl (by simp) (by simpa using h_actor) (by simp only [List.length_append, List.flatMap_cons, List.flatMap_nil, List.length_cons, List.length_nil]; omega)).mono ?_; rintro e w' ⟨rfl, hb2, hk1⟩; obtain ⟨y2, rfl⟩ := Kd.next _ hk1; clear hk1)
  go_wp2_with (go_at_call 77; refine (nums_lit hb2 [i.ballot.gen] _ _ _ rfl rfl rfl (by simp; omega) (by simp only [List.length_append, List.flatMap_cons, List.flatMap_nil, List.length_cons, List.length_nil]; omega)).mono ?_; rintro e w' ⟨rfl, hb3, hk1⟩; obtain ⟨y3, rfl⟩ := Kd.next _ hk1; clear hk1)
  go_wp2_with (go_at_call 187; refine (texts_lit hb3 [i.ballot.claim] _ _ 1000 _ rfl rfl rfl (by simp) (by simpa using h_claim) (by simp only [List.length_append, List.flatMap_cons, List.flatMap_nil, List.length_cons, List.length_nil]; omega)).mono ?_; rintro e w' ⟨rfl, hb4, hk1⟩; obtain ⟨y4, rfl⟩ := Kd.next _ hk1; clear hk1)
  go_wp2_with (go_at_call 77; refine (nums_lit hb4 [i.ballot.time] _ _ _ rfl rfl rfl (by simp; omega) (by simp only [List.length_append, List.flatMap_cons, List.flatMap_nil, List.length_cons, List.length_nil]; omega)).mono ?_; rintro e w' ⟨rfl, hb5, hk1⟩; obtain ⟨y5, rfl⟩ := Kd.next _ hk1; clear hk1)
  go_end0
  refine ⟨rfl, ?_, (Tk.of_q HW.out).trans y5.q⟩
  have e : ((((L ++ [i.ballot.server].flatMap numL) ++ [i.ballot.actor].flatMap textL) ++ [i.ballot.gen].flatMap numL) ++ [i.ballot.claim].flatMap textL) ++ [i.ballot.time].flatMap numL = L ++ ballotL i.ballot := by
    simp only [ballotL, List.flatMap_cons, List.flatMap_nil, List.append_nil, List.append_assoc]
  rw [← e]
  exact hb5

theorem bcore_big (B g : Nat) (L : List UInt8) (i : ItemR) (w w0 : World) (hs : BigI i) (hb : Bld B g w L) (hL : L.length ≤ 1000) :
    Calls Tryz.prog (coreF i) #[.pointer (some ⟨g, 0, none⟩), .agg (itA i)] w fun e w' => e = .returned (.tuple #[]) ∧ (Bld B g w' (L ++ itemL i) ∧ Tk B g w w') := by
  obtain ⟨h2, a, b, c⟩ := hs
  have h1 : ¬ i.kind = 1 := by omega
  unfold coreF itemL
  rw [if_neg h1, if_neg h1, if_pos h2, if_pos h2]
  exact bballot_big B g L i w hb hL a b c
theorem message_sizeB (i : ItemR) (hs : BigI i) : (messageB i).size ≤ 140737488355200 := by
  obtain ⟨h2, a, b, c⟩ := hs
  have h1 : ¬ i.kind = 1 := by omega
  unfold messageB itemL
  rw [ba_size, List.length_append, if_neg h1, if_pos h2]
  have h3 := textL_length (nameT i)
  have h4 := nameT_size i
  unfold ballotL
  simp only [List.length_append]
  have t1 := textL_length i.ballot.actor
  have t2 := textL_length i.ballot.claim
  have n1 := numL_bd i.ballot.server
  have n2 := numL_bd i.ballot.gen
  have n3 := numL_bd i.ballot.time
  omega
set_option maxRecDepth 100000 in
set_option maxHeartbeats 4000000 in
theorem message_big (i : ItemR) (w : World) (hD : DecIn w i.dec) (hs : BigI i) : Calls Tryz.prog 114 #[.agg (itA i)] w fun e w' => e = .returned (.string (messageB i)) ∧ Q w w' := by
  obtain ⟨w1, x, hx, hq1, hbk⟩ := boxedB w 50 i.cells
  have hl := hbk.lt
  have hr := Blk.range hbk
  have hx : w.alloc (.cells (itA i) 50) = x.w := hx
  have hIt : ∀ y : Wd w1, (Instr.loadAt 50 (.pointer (some ⟨w.heap.size, 0, none⟩))).run Tryz.prog y.w = .ok (.agg (itA i)) y.w := Wd.load hl hr Tryz.underlying50 rfl (by kernel_rfl)
  have hqx := Lib.hid (Q.trans hq1 x.q)
  have hsx : w.heap.size < x.w.heap.size := Nat.lt_of_lt_of_le hl x.q.size
  have hn := nameT_size i
  have hcr := core_enter i
  go_enter Tryz.func114, Tryz.ntmps114
  go_wp2_with (first | (refine wpList_load_run 50 (.tmp 1) (.pointer (some ⟨w.heap.size, 0, none⟩)) (.agg (itA i)) ?_ ?_ ?_ ?_ ?_; rfl; rfl; rfl; exact hIt _) | (go_at_call 79; refine (formOf_any _ _).mono ?_; rintro e w' ⟨rfl, hq2⟩; obtain ⟨y, rfl⟩ := Wd.next _ hq2; clear hq2) | (refine wpList_store_blk (Blk.new y.w 128 form0.toArray) rfl 128 (.tmp 3) (.tmp 6) (formA i) rfl rfl rfl (by kernel_rfl) (form_all i) (Nat.le_refl 4) ?_))
  intro W hW hbel
  rw [splice_all _ _ (by rfl)] at hW
  have hyx : w.heap.size < y.w.heap.size := Nat.lt_of_lt_of_le hl y.q.size
  have hqW1 : Q w1 W := hbel _ _ y.q.size (Q.trans y.q (q_new _ _ _))
  have hqW : Q w W := Q.trans hq1 hqW1
  have hnew := Bld.new W (B := w.heap.size) hqW.size
  have hq2 := q_new W #[.slice none 0 0] 123
  have hne : y.w.heap.size < W.heap.size := hW.lt
  have hst : Stay w.heap.size W.heap.size (W.alloc (.cells #[.slice none 0 0] 123)) y.w.heap.size := Stay.blk (hW.q hq2) (by omega) (by decide)
  have hsi : Stay w.heap.size W.heap.size (W.alloc (.cells #[.slice none 0 0] 123)) w.heap.size := Stay.blk ((hbk.q hqW1).q hq2) (by omega) (by decide)
  have f0 := Kd.cell (v := .string (nameT i)) (hW.q hq2) hst 0 rfl
  have f1 := Kd.cell (v := .func (.func (coreF i)) #[] #[]) (hW.q hq2) hst 1 rfl
  have hIt2 := Kd.load (P := Tryz.prog) (ty := 50) hsi (range_q hr (Q.trans hqW1 hq2) hl) Tryz.underlying50 rfl (by kernel_rfl)
  have hqq := Lib.hid (Q.trans hqW hq2)
  clear hst hsi hIt hr hbk hqW1 hq1 hx
  generalize hW2 : W.alloc (.cells #[.slice none 0 0] 123) = W2 at *
  obtain ⟨y2, hy2⟩ := Kd.first w.heap.size W.heap.size W2
  have hb2 : Bld w.heap.size W.heap.size y2.w [] := hy2 ▸ hnew
  rw [hy2] at hW2
  clear hy2 hW hbel hnew hq2
  go_wp2_with (first | (go_at_call 187; refine (texts_lit hb2 [nameT i] _ _ 1000000 _ rfl rfl rfl (by simp) (by simp; omega) (by simp)).mono ?_; rintro e w' ⟨rfl, hb3, hk1⟩; obtain ⟨y3, rfl⟩ := Kd.next _ hk1; clear hk1) | (refine wpList_load_run 50 (.tmp 1) (.pointer (some ⟨w.heap.size, 0, none⟩)) (.agg (itA i)) ?_ ?_ ?_ ?_ ?_; rfl; rfl; rfl; exact hIt2 _))
  refine (bcore_big _ _ _ i _ w hs hb3 (by have := textL_length (nameT i); simp; omega)).mono ?_
  rintro e w' ⟨rfl, hb4, hk2⟩
  obtain ⟨y4, rfl⟩ := Kd.next _ hk2
  clear hk2
  obtain ⟨-, v, hgv, hown⟩ := hb4
  have cv : y4.w.cell? ⟨W.heap.size, 0, none⟩ = some v := hgv.cell 0
  have hcv := run_string_of_owns (P := Tryz.prog) y4.w w.heap.size 121 9 5 _ _ Tryz.underlying121 Tryz.underlying5 Tryz.underlying9 hown
  have HQ := Lib.hid (Tk.q y4.q rfl hqq.out)
  clear hown hgv hb3 hb2
  go_wp2
  go_ret
  exact ⟨rfl, HQ.out⟩

set_option maxRecDepth 100000 in
set_option maxHeartbeats 2000000 in
theorem signBallot_big (k : Int × Int) (b : BallotV) (w : World) (hT : Tab w) (hx : k.1 ≤ 9223372036854775807) (hy : k.2 ≤ 9223372036854775807) (hs : BigB b) :
    Calls Tryz.prog 87 #[.agg (keyCs k), .agg (ballotA b)] w fun e w' => e = .returned (.agg (ballotA (signBallot k b))) ∧ Q w w' := by
  have hbk := Blk.new w 86 (keyCs k)
  have hq1 := q_new w (keyCs k) 86
  have hbb := Blk.new' (g := w.heap.size + 1) (w.alloc (.cells (keyCs k) 86)) 46 (ballotA b) (by simp)
  have hq2 := q_new (w.alloc (.cells (keyCs k) 86)) (ballotA b) 46
  have hbr := Blk.new' (g := w.heap.size + 1 + 1) ((w.alloc (.cells (keyCs k) 86)).alloc (.cells (ballotA b) 46)) 46 (ballotA ballot0) (by simp)
  have hq3 := q_new ((w.alloc (.cells (keyCs k) 86)).alloc (.cells (ballotA b) 46)) (ballotA ballot0) 46
  have hbk := (hbk.q hq2).q hq3
  have hbb := hbb.q hq3
  have hq := Q.trans (Q.trans hq1 hq2) hq3
  clear hq1 hq2 hq3
  obtain ⟨w3, hw3⟩ : ∃ w3, w3 = (((w.alloc (.cells (keyCs k) 86)).alloc (.cells (ballotA b) 46)).alloc (.cells (ballotA ballot0) 46)) := ⟨_, rfl⟩
  rw [← hw3] at hbk hbb hbr hq
  have k0 : ∀ y : Wd w3, y.w.cell? ⟨w.heap.size, 0, none⟩ = some (.int .i64 k.1) := fun y => (y.blk hbk).cell 0
  have k1 : ∀ y : Wd w3, y.w.cell? ⟨w.heap.size, 1, none⟩ = some (.int .i64 k.2) := fun y => (y.blk hbk).cell 1
  have hLb : ∀ y : Wd w3, (Instr.loadAt 46 (.pointer (some ⟨w.heap.size + 1, 0, none⟩))).run Tryz.prog y.w = .ok (.agg (ballotA b)) y.w := Wd.load hbb.lt (Blk.range hbb) Tryz.underlying46 rfl (by kernel_rfl)
  have hBb : ∀ y : Wd w3, Blk y.w (w.heap.size + 1) 46 b.cells.toArray := fun y => y.blk hbb
  have hBr : ∀ y : Wd w3, Blk y.w (w.heap.size + 1 + 1) 46 ballot0.cells.toArray := fun y => y.blk hbr
  have hT' : ∀ y : Wd w3, Tab y.w := fun y => hT.q (Q.trans hq y.q)
  have hD : ∀ y : Wd w3, DecIn y.w dec0 := fun y => dec0_in y.w
  have hms := message_sizeB _ (bigB_I hs)
  have hsm := bigB_I hs
  have HQ := Lib.hid hq
  clear hbk hbb hbr hq
  have hx3 : ∃ x : Wd w3, x.w = w3 := ⟨⟨w3, Q.refl _⟩, rfl⟩
  obtain ⟨x, hx3⟩ := hx3
  have HX := Lib.hid (hx3.trans hw3)
  clear hx3 hw3
  go_enter Tryz.func87, Tryz.ntmps87
  go_wp2_with fail
  refine (show Code.wp _ _ _ _ x.w → Code.wp _ _ _ _ _ from fun h => by rw [HX.out] at h; exact h) ?_
  refine wp_region_wd_parts x 0 5 (by kernel_rfl) (by kernel_rfl) (by intro c d v a w h; cases d <;> exact h) ?_
  simp only [List.take_succ_cons, List.take_zero, List.drop_succ_cons, List.drop_zero]
  refine wpPure_nil ?_
  repeat (first | (refine wpQuiet_load_run 46 (.tmp 3) (.pointer (some ⟨w.heap.size + 1, 0, none⟩)) (.agg (ballotA b)) ?_ ?_ ?_ ?_ ?_; rfl; rfl; rfl; exact hLb; dsimp only [Act.put]; simp only [List.setIfInBounds_toArray, List.set_cons_succ, List.set_cons_zero]) | go_big_quiet_step (first | (go_at_call 86; exact Wd.call _ (ofBallot_any _ _)) | (go_at_call 114; exact Wd.call _ (message_big _ _ (hD _) hsm)) | (go_at_call 141; exact Wd.call _ (Sign_any k _ _ (hT' _) hx hy hms))))
  refine wpQuiet_nil ?_
  rintro w'' ⟨y, rfl⟩
  go_wp2_with (refine wpList_store_far (hBb y) rfl 35 (.tmp 10) (.tmp 9) [.int .i64 (sigOf k (messageB (itBallot b))).1, .int .i64 (sigOf k (messageB (itBallot b))).2] rfl rfl rfl (by kernel_rfl) (by simp [Value.oneCell']) (by simp [BallotV.cells]) ?_)
  intro W hW hbel hfar
  rw [signBallot_cells] at hW
  have hqW : Q w W := by
    have h0 : Below w.heap.size w y.w := Q.trans HQ.out y.q
    exact hbel _ _ (by omega) h0
  have hrW : Blk W (w.heap.size + 1 + 1) 46 ballot0.cells.toArray := (hfar _ (by omega)).trans (hBr y)
  have hLW := Wd.load (P := Tryz.prog) (ty := 46) hW.lt (Blk.range hW) Tryz.underlying46 rfl (by kernel_rfl) ⟨W, Q.refl W⟩
  have HW := Lib.hid hqW
  clear hbel hfar hBb hBr hLb hqW hT' hD
  go_wp2_with (first | (refine wpList_load_run 46 (.tmp 3) (.pointer (some ⟨w.heap.size + 1, 0, none⟩)) (.agg (ballotA (signBallot k b))) ?_ ?_ ?_ ?_ ?_; rfl; rfl; rfl; exact hLW) | (refine wpList_store_far hrW rfl 46 (.tmp 4) (.tmp 11) (signBallot k b).cells rfl rfl rfl (by kernel_rfl) (ballot_all _) (Nat.le_refl 7) ?_))
  intro W2 hW2 hbel2 hfar2
  rw [splice_all _ _ (by rfl)] at hW2
  have hq2 : Q w W2 := hbel2 _ _ (by omega) HW.out
  clear hbel2 hfar2 hLW
  go_wp2_with fail
  exact bodyPost_ret (results_cell_row rfl _ _ (w.heap.size + 1 + 1) 46 (ballotA (signBallot k b)) (0, 0) _ rfl hW2 Tryz.underlying46 rfl (by kernel_rfl)) rfl ⟨rfl, hq2⟩
end Go.Proofs.YtflgkplneekpfaaGreatDoor.Item

namespace Go.Proofs.YtflgkplneekpfaaGreatDoor.Vot
open Go.RowKit Grp Mem _root_.Go.Proofs.YtflgkplneekpfaaGreatDoor.Code Sha Sign _root_.Go.Proofs.YtflgkplneekpfaaGreatDoor.Item _root_.Go.Proofs.YtflgkplneekpfaaGreatDoor.Known Rng

structure PollR where
  seed : ByteArray
  many : Int
  claims : List ClaimV
  clA : Option Addr
  clC : Nat
  votes : List (Int × Int)
  vA : Option Addr
  vC : Nat
def PollR.cells (p : PollR) : List Value := [.string p.seed, .int .i64 p.many, .slice p.clA p.claims.length p.clC, .slice p.vA p.votes.length p.vC]
abbrev pollA (p : PollR) : Array Value := p.cells.toArray
def voteC (v : Int × Int) : List Value := [.int .i64 v.1, .int .i64 v.2]
structure PollIn (w : World) (p : PollR) : Prop where
  cl : RowsAt w p.clA 9 ClaimV.cells p.claims
  vo : RowsAt w p.vA 2 voteC p.votes
  clC : p.claims.length ≤ p.clC ∧ p.clC ≤ maxLen
  vC : p.votes.length ≤ p.vC ∧ p.vC ≤ maxLen
theorem PollIn.q {w w' : World} {p : PollR} (h : PollIn w p) (hq : Q w w') : PollIn w' p := ⟨h.cl.q hq, h.vo.q hq, h.clC, h.vC⟩
/-- The key of a server. -/
def seedAt (seed : ByteArray) (s : Nat) : ByteArray := ⟨(seed.data.toList ++ [UInt8.ofNat s]).toArray⟩
def keyP (seed : ByteArray) (s : Nat) : Int × Int := _root_.Go.Proofs.YtflgkplneekpfaaGreatDoor.Sign.keyOf (seedKey (seedAt seed s))
theorem seedAt_size (seed : ByteArray) (s : Nat) : (seedAt seed s).size = seed.size + 1 := by
  unfold seedAt
  rw [ba_size, List.length_append, ba_length]
  rfl

set_option maxRecDepth 100000 in
set_option maxHeartbeats 2000000 in
theorem keyOf_any (p : PollR) (s : Nat) (w : World) (hT : Tab w) (hs : s < 256) (hz : p.seed.size ≤ 1000) :
    Calls Tryz.prog 43 #[.agg (pollA p), .int .i64 (s : Int)] w fun e w' => e = .returned (keyV (keyP p.seed s)) ∧ Q w w' := by
  have h1 := Blk.new w 25 (pollA p)
  have q1 := q_new w (pollA p) 25
  have h2 := Blk.new' (g := w.heap.size + 1) (w.alloc (.cells (pollA p) 25)) 86 (keyCs (0, 0)) (by simp)
  have q2 := q_new (w.alloc (.cells (pollA p) 25)) (keyCs (0, 0)) 86
  obtain ⟨w2, hw2⟩ : ∃ w2, w2 = ((w.alloc (.cells (pollA p) 25)).alloc (.cells (keyCs (0, 0)) 86)) := ⟨_, rfl⟩
  have h1 := h1.q q2
  have hq := Q.trans q1 q2
  rw [← hw2] at h1 h2 hq
  have c0 : w2.cell? ⟨w.heap.size, 0, none⟩ = some (.string p.seed) := h1.cell 0
  have hu8 : (UInt8.ofNat s).toNat = s := by simp; omega
  have hsI : (0 : Int) ≤ (s : Int) ∧ (s : Int) < 256 := by omega
  have hb := Blk.new w2 5 #[.int .u8 (s : Int)]
  have hqb := q_new w2 #[.int .u8 (s : Int)] 5
  have hcv := run_convert_bytes_back (P := Tryz.prog) (w2.alloc (.cells #[.int .u8 (s : Int)] 5)) 121 9 5 ⟨w2.heap.size, 0, none⟩ 1 [UInt8.ofNat s] Tryz.underlying121 Tryz.underlying5 Tryz.underlying9 (fun j hj => by
    have hj0 : j = 0 := by simp at hj; omega
    subst hj0
    have := hb.cell 0
    rw [show (⟨w2.heap.size, 0, none⟩ : Addr).add 0 = ⟨w2.heap.size, 0, none⟩ from rfl, this]
    show _ = some (Value.int .u8 ((UInt8.ofNat s).toNat : Int))
    rw [hu8]
    rfl)
  simp only [List.length_cons, List.length_nil, Nat.zero_add] at hcv
  have hk := Key_any (seedAt p.seed s) (w2.alloc (.cells #[.int .u8 (s : Int)] 5)) (hT.q (Q.trans hq hqb)) (by rw [seedAt_size]; omega)
  have hcat : p.seed ++ (⟨#[UInt8.ofNat s]⟩ : ByteArray) = seedAt p.seed s := by
    apply ByteArray.ext
    apply Array.toList_inj.1
    simp [seedAt]
  have HK : Hid (keyP p.seed s = _root_.Go.Proofs.YtflgkplneekpfaaGreatDoor.Sign.keyOf (seedKey (seedAt p.seed s))) := Lib.hid rfl
  have h2r := h2.q hqb
  have HQ := Lib.hid (Q.trans hq hqb)
  have hsz : p.seed.size + (⟨#[UInt8.ofNat s]⟩ : ByteArray).size ≤ 9223372036854775807 := by
    show p.seed.size + 1 ≤ _
    omega
  have HX := Lib.hid hw2
  have hlt2 := h2.lt
  generalize keyP p.seed s = kp at *
  rw [← HK.out] at hk
  clear h1 q1 q2 hq hb hqb hu8 hw2 h2
  go_enter Tryz.func43, Tryz.ntmps43
  go_upto_region 1 with (fail)
  refine (show Code.wp _ _ _ _ w2 → Code.wp _ _ _ _ _ from fun h => by rw [HX.out] at h; exact h) ?_
  go_wp2_with (first | (go_at_call 85; refine hk.mono ?_; rintro e w' ⟨rfl, hq2⟩) | (refine wpList_store_far (h2r.q hq2) rfl 86 (.tmp 4) (.tmp 12) [.int .i64 kp.1, .int .i64 kp.2] rfl rfl rfl (by kernel_rfl) (by simp [Value.oneCell']) (Nat.le_refl 2) ?_))
  intro W hW hbel hfar
  rw [splice_all _ _ (by rfl)] at hW
  have hqW : Q w W := hbel _ _ (by omega) (Q.trans HQ.out hq2)
  clear hbel hfar
  go_wp2_with fail
  exact bodyPost_ret (results_cell_row rfl _ _ (w.heap.size + 1) 86 (keyCs kp) (0, 0) _ rfl hW Tryz.underlying86 rfl (by kernel_rfl)) rfl ⟨rfl, hqW⟩

/-- The digest of a claim. -/
def digC (c : ClaimV) : ByteArray := digOf (itClaim c)
set_option maxRecDepth 100000 in
set_option maxHeartbeats 2000000 in
theorem digestC_any (c : ClaimV) (w : World) (hT : Tab w) : Calls Tryz.prog 15 #[.agg (claimA c)] w fun e w' => e = .returned (.string (digC c)) ∧ Q w w' := by
  have hb := Blk.new w 37 (claimA c)
  have hq := q_new w (claimA c) 37
  obtain ⟨w1, hw1⟩ : ∃ w1, w1 = w.alloc (.cells (claimA c) 37) := ⟨_, rfl⟩
  rw [← hw1] at hb hq
  have hL := Wd.load (P := Tryz.prog) (ty := 37) hb.lt (Blk.range hb) Tryz.underlying37 rfl (by kernel_rfl) ⟨w1, Q.refl w1⟩
  have hd := fun (w' : World) (h : Q w1 w') => digest_any (itClaim c) w' (hT.q (Q.trans hq h)) (itClaim_in c w')
  have HX := Lib.hid hw1
  have HQ := Lib.hid hq
  have HD : Hid (digC c = digOf (itClaim c)) := Lib.hid rfl
  rw [← HD.out] at hd
  generalize digC c = d at *
  clear hb hq hw1
  go_enter Tryz.func15, Tryz.ntmps15
  go_upto_region 1 with (fail)
  refine (show Code.wp _ _ _ _ w1 → Code.wp _ _ _ _ _ from fun h => by rw [HX.out] at h; exact h) ?_
  go_wp2_with (first | (refine wpList_load_run 37 (.tmp 1) (.pointer (some ⟨w.heap.size, 0, none⟩)) (.agg (claimA c)) ?_ ?_ ?_ ?_ ?_; rfl; rfl; rfl; exact hL) | (go_at_call 13; refine (ofClaim_any c _).mono ?_; rintro e w' ⟨rfl, hq2⟩) | (go_at_call 25; refine (hd _ hq2).mono ?_; rintro e w' ⟨rfl, hq3⟩))
  go_ret
  exact ⟨rfl, Q.trans HQ.out (Q.trans hq2 hq3)⟩
end Go.Proofs.YtflgkplneekpfaaGreatDoor.Vot
